/- Own work: a layer over the kit: plain data,a walk over it,its soundness. -/
import Derived.Test.YtobgkdlghljdlaaGreatDoorArEx
import Derived.Test.YtobgkdlghljdlaaGreatDoorBase
set_option linter.unusedSectionVars false
set_option linter.unusedVariables false
set_option linter.unusedSimpArgs false
set_option linter.deprecated false
set_option maxRecDepth 100000
/- arith.operation,functions,expand: where it is not too much. -/
namespace Go.Proofs.YtobgkdlghljdlaaGreatDoor
open Go.Sx
theorem Z6h (l:List Int):numC l=Tm.cellsL (l.map numT):=Z7w l
theorem ZjX (s:LU) (ps:List (List Tm)) (L:List Tm) (hL:ps.length<=1000) (hl: ∀ p∈ps,p.length<=1000) (h:opX s ps=some L):FK 88 [.str s,.slice (Z8 ps) []] (.slice (Tm.cellsL L) []):=by
 unfold opX at h
 split at h
 ·rename_i hz
  cases h
  have hacc:(Zb (opB s) (ps.map Zd) 0 (List.replicate ps.length 0,[])).2=opF s (Zx (ps.map Zd)):=by
   rw[(Z0x (opB s) _ 0 _ [] (by simp)).1]
   simp[opF]
  have hnd:(opF s (Zx (ps.map Zd))).Nodup:=Z8N s _ List.nodup_nil
  have:=ZnI s ps [] (opF s (Zx (ps.map Zd))) (Z0P (opF s (Zx (ps.map Zd)))) (by omega) (fun p hp=>by have:=hl p hp; omega) hacc hz fun q hq=>by
   have hq2:=Z7t hq hnd
   have:=Zik q hq2 (by rw[hq.length_eq]; exact hz)
   rwa [Z8I (Z0O q) (Z0O (opF s (Zx (ps.map Zd)))) fun x=>by rw[QJ,QJ]; exact hq.mem_iff] at this
  rw[Z6h] at this
  exact FnOK.freezeG this
 ·cases h
theorem ZfZ (s:LU) (L:List (List Tm)) (hL:L.length<=1000) (h:L.any List.isEmpty=true):FK 89 [.str s,.slice (Z8 L) []] (.slice [] []):=by
 refine FnOK.tree Z4 fp89 (Z3 Z2 Z0) (Zdc s (Z8 L) []) ?_
 rw[Z9]
 refine At.tree (Z3 Z2 (Zw _ _)) (Zae s (Z8 L) [] (L.any List.isEmpty)) ?_
 rw[Zh,Qt,Ze,Z9]
 exact⟨Z9E [] L hL,fun h=>rfl,fun h'=>by rw[h] at h'; cases h'⟩
theorem Zbk (L:List (List Tm)) (h: ∀ l∈L,l≠[]) {i:Nat} (hi:i<=L.length):prdL L i<=(Zx L).length:=by
 have h2: ∀ L:List (List Tm),(∀ l∈L,l≠[])->1<=(Zx L).length:=by
  intro L
  induction L with
  | nil=>intro _; simp[Zx]
  | cons a r ih =>
   intro h
   have h1:=ih fun l hl=>h l (List.mem_cons_of_mem _ hl)
   have h3:=List.length_pos_iff.2 (h a (List.mem_cons_self ..))
   rw[QK,List.map_cons,List.prod_cons,<- QK]
   exact Nat.mul_pos h3 h1
 have h1:prdL L i*(Zx (L.drop i)).length=(Zx L).length:=by
  unfold prdL
  rw[QK,QK,<- List.prod_append,<- List.map_append,List.take_append_drop]
 have h3:=h2 (L.drop i) fun l hl=>h l (List.mem_of_mem_drop hl)
 calc prdL L i=prdL L i*1:=(Nat.mul_one _).symm
  _<=prdL L i*(Zx (L.drop i)).length:=Nat.mul_le_mul_left _ h3
  _=_:=h1
theorem Zlj (s:LU) (ps:List (List Tm)) (L:List Tm) (hL:ps.length<=1000) (h0:ps≠[]) (hl: ∀ p∈ps,p.length<=1000) (h:fnX s ps=some L):FK 89 [.str s,.slice (Z8 ps) []] (.slice (Tm.cellsL L) []):=by
 unfold fnX at h
 split at h
 ·rename_i he; cases h; exact ZfZ s ps hL he
 ·rename_i he
  split at h
  ·rename_i hz
   cases h
   have hne: ∀ l∈ps,l≠[]:=fun l hx e=>he (List.any_eq_true.2 ⟨l,hx,by rw[e]; rfl⟩)
   have:=ZkF s ps hL hl h0 hz fun i hi=>Nat.le_trans (Zbk ps hne hi) hz
   rw[Bool.eq_false_iff.2 he] at this
   exact FnOK.freezeG this
  ·cases h
def xpE (kx nx:Int) (sx:LU) (ax us vs:LD):Nat->Int->List D:=fun t _=>if t=31 then [.slice us []] else if t=35 then [.slice vs []] else tC kx nx sx ax
def Zi1 (l:List (Nat × D)) (E:Nat->Int->List D):Ctr:=⟨(sCtr l).F,fun _=>Qg,E⟩
theorem Z5R (l:List (Nat × D)) (E:Nat->Int->List D):(Zi1 l E).OK Tryz.prog:=⟨(Z8m l).F,fun _=>Z0⟩
theorem Zdb (k n:Int) (s:LU) (a row:LD) (m:Int) (i:Nat) (kx nx:Int) (sx:LU) (ax es us vs is js rs:LD):let A:=dL rs [];let B:=((↑i:Int)+(1:Int));let C:=Rt A [];let E:=tC kx nx sx ax;let F:=[dS s,dL row []];let G:=cut sc48 0;let H:=[[dL es []]];gH (Zi1 [(22,dL es []),(33,dL is []),(37,dL js []),(38,dL rs []),(44,dL rs []),(48,dL rs [])] (xpE kx nx sx ax us vs)) 0 true rs48 G (hdEx k n s a row m (↑i:Int))=(brT (decide ((↑i:Int)<m)) (Ow ((0:Int)<=(↑i:Int)/\a[Int.toNat (↑i:Int)]? = some E) (Ow (FK 48 [dA E] (dL es [])) (Ow (Zc 1 H/\List.length row+1<=1073741824) (I8 B (Jm G { tm:=[(1,dP 0 0),(3,dV 1),(14,dL a []),(15,dI m),(16,dI B)],ob:=[(0,oC (tC k n s a)),(1,oR true 1 22 (row++H))] }))))) (brT (decide (k=(6:Int))) (Ow ((0:Int)<=(0:Int)/\row[0]? = some [dL us []]) (Ow (FK 87 [dL us []] (dL is [])) (Ow ((0:Int)<=(1:Int)/\row[1]? = some [dL vs []]) (Ow (FK 87 [dL vs []] (dL js [])) (Ow (FK 86 [dL is [],dL js []] A) C))))) (brT (decide (k=(5:Int))) (Ow (FK 88 F A) C) (Ow (FK 89 F A) C))):Tr):=by intro A B C E F G H;kernel_rfl
def ExpG (x:Tm) (L:List Tm):Prop:=FK 48 [.agg x.cells] (.slice (Tm.cellsL L) [])
theorem Z3D (p:List Tm) (hl:p.length<=1000):FK 87 [.slice (Tm.cellsL p) []] (.slice (intC .i64 (Zd p)) []):=FnOK.freezeG (Z9a [] p (by omega))
theorem Z6w (p:List Tm):(Zd p).length<=p.length:=List.length_filterMap_le ..
def Zma (k:Nat) (s:LU) (ps:List (List Tm)) (L:List Tm):Prop :=
 (k=6->ps.length=2/\FK 86 [.slice (intC .i64 (Zd (ps.getD 0 []))) [],.slice (intC .i64 (Zd (ps.getD 1 []))) []] (.slice (Tm.cellsL L) [])) ∧
 (k=5->FK 88 [.str s,.slice (Z8 ps) []] (.slice (Tm.cellsL L) [])) ∧
 (k≠5->k≠6->FK 89 [.str s,.slice (Z8 ps) []] (.slice (Tm.cellsL L) []))
theorem Z0s {ps:List (List Tm)} {i:Nat} (h:i<ps.length):(Z8 ps)[i]? = some [.slice (Tm.cellsL (ps.getD i [])) []]:=by
 rw[Ql h]
 simp[h]
theorem Zg7 (k:Nat) (n:Int) (s:LU) (l:List Tm) (ps:List (List Tm)) (L:List Tm) (hps:ps.length=l.length) (hl:l.length<=1000) (hp: ∀ p∈ps,p.length<=1000) (H: ∀ (i:Nat) (h:i<l.length) (h':i<ps.length),ExpG l[i] ps[i]) (hend:Zma k s ps L) :
  ∀ (m i:Nat),l.length-i=m->i<=l.length →
  At Tryz.prog 0 (cut sc48 0) (hdEx k n s (Tm.cellsL l) (Z8 (ps.take i)) l.length i) (FinQ true 0 rs48 fun r _=>r= .slice (Tm.cellsL L) []):=by
 have e6:((k:Int)=6)=(k=6):=propext (by omega)
 have e5:((k:Int)=5)=(k=5):=propext (by omega)
 intro m
 induction m with
 | zero =>
  intro i hm hi
  refine At.tree (Z5R _ _) (Zdb k n s (Tm.cellsL l) (Z8 (ps.take i)) l.length i 0 0 [] [] [] (Tm.cellsL (ps.getD 0 [])) (Tm.cellsL (ps.getD 1 [])) (intC .i64 (Zd (ps.getD 0 []))) (intC .i64 (Zd (ps.getD 1 []))) (Tm.cellsL L)) ?_
  rw[List.take_of_length_le (show ps.length<=i by omega)]
  simp only[SS,e6,e5]
  refine⟨fun h=>by omega,fun _=>⟨fun h6=> ?_,fun h6=>⟨hend.2.1,fun h5=>hend.2.2 h5 h6⟩⟩⟩
  obtain⟨h2,hi⟩:=hend.1 h6
  have gl: ∀ i,(ps.getD i []).length<=1000:=fun i=>by
   rw[List.getD_eq_getElem?_getD]
   cases hq:ps[i]? with
   | none=>simp
   | some p=>exact hp p (List.mem_of_getElem? hq)
  have g0:=Z0s (ps:=ps) (i:=0) (by omega)
  have g1:=Z0s (ps:=ps) (i:=1) (by omega)
  exact⟨g0,Z3D _ (gl 0),⟨by decide,g1⟩,Z3D _ (gl 1),hi⟩
 | succ m ih =>
  intro i hm hi
  have h1:i<l.length:=by omega
  have h2:i<ps.length:=by omega
  have hx:=Zg h1
  have hC:=H i h1 h2
  have hI:=ih (i+1) (by omega) (by omega)
  have ht:Z8 (ps.take (i+1))=Z8 (ps.take i)++[[.slice (Tm.cellsL ps[i]) []]]:=by
   rw[List.take_add_one,List.getElem?_eq_getElem h2]
   simp only[Z8,List.map_append,Option.toList_some,List.map_cons,List.map_nil]
  rw[ht] at hI
  unfold ExpG at hC
  generalize l[i]=x at hx hC
  generalize ps[i]=e at hC hI
  obtain⟨kx,nx,sx,ax⟩:=x
  refine At.tree (Z5R _ _) (Zdb k n s (Tm.cellsL l) (Z8 (ps.take i)) l.length i kx nx sx (Tm.cellsL ax) (Tm.cellsL e) [] [] [] [] (Tm.cellsL L)) ?_
  have hlen:(Z8 (ps.take i)).length=i:=by rw[ZE,List.length_take]; omega
  simp only[SS,hlen]
  exact⟨fun _=>⟨⟨by omega,hx⟩,hC,⟨by simp[Zc],by omega⟩,by omega,hI⟩,fun h=>by omega⟩
theorem Z5x: ∀ (x:Tm) (L:List Tm),x.few 1000->x.all Tm.shape=true->x.all Tm.gr=true->x.xp=some L->ExpG x L
 | .mk k n s l,L,hx,hs0,hg0,h=>by
  have hs:=Zt.1 hs0
  have hg:=Zt.1 hg0
  have hc:=Z9G _ hx
  simp only[Tm.few] at hx
  obtain⟨hl,hw⟩:=hx
  rw[Tm.xp] at h
  split at h
  ·rename_i he
   have he:l=[]:=List.isEmpty_iff.1 he
   subst he
   cases h
   have:FK 48 [.agg (Tm.mk k n s []).cells] (.own 4 35 (Tm.cellsL [.mk k n s []])):=by
    refine FnOK.tree Z4 fp48 (Z3 (Zl _) Z0) (Zhj k n s) ?_
    exact⟨hc,rfl⟩
   exact FnOK.freezeG this
  ·rename_i he
   have he:l≠[]:=fun e=>he (by rw[e]; rfl)
   cases hps:Tm.xpL l with
   | none=>rw[hps] at h; cases h
   | some ps =>
    rw[hps] at h
    have hlen:=Z0F hps
    have hp: ∀ p∈ps,p.length<=1000:=fun p hp=>(Z0E hps hp).elim fun x hx=>Z5Q hx.2
    have hfit: ∀ i, ∀ c∈Zd (ps.getD i []),Zj c=true:=fun i c hc=>by
     obtain⟨x,hx,hxi⟩:=Z2c.1 hc
     rw[List.getD_eq_getElem?_getD] at hx
     cases hq:ps[i]? with
     | none=>rw[hq] at hx; cases hx
     | some p =>
      rw[hq] at hx
      obtain⟨y,hy,hye⟩:=Z0E hps (List.mem_of_getElem? hq)
      exact Z0X (Z0m y p x (hs.2 y hy) (hg.2 y hy) hye hx).2.1 hxi
    have hil: ∀ i,(Zd (ps.getD i [])).length<=1000:=fun i=>by
     refine Nat.le_trans (Z6w _) ?_
     rw[List.getD_eq_getElem?_getD]
     cases hq:ps[i]? with
     | none=>simp
     | some p=>exact hp p (List.mem_of_getElem? hq)
    have H: ∀ (i:Nat) (h:i<l.length) (h':i<ps.length),ExpG l[i] ps[i]:=fun i h h' =>
     have hm:l[i]∈l:=List.getElem_mem h
     Z5x l[i] ps[i] (ZL.1 hw _ hm) (hs.2 _ hm) (hg.2 _ hm) (Z4N hps i h h')
    have hend:Zma k s ps L:=by
     simp only[xpK] at h
     refine⟨fun h6=> ?_,fun h5=> ?_,fun h5 h6=> ?_⟩
     ·subst h6
      rw[if_pos rfl] at h
      cases hv:ivl (Zd (ps.getD 0 [])) (Zd (ps.getD 1 [])) with
      | none=>rw[hv] at h; cases h
      | some q =>
       rw[hv] at h
       cases h
       have:=ZnN _ _ q (hil 0) (hil 1) (hfit 0) (hfit 1) hv
       rw[Z6h] at this
       exact⟨by rw[hlen]; exact Z47 hs.1,FnOK.freezeG this⟩
     ·subst h5
      rw[if_neg (by decide),if_pos rfl] at h
      exact ZjX s ps L (by omega) hp h
     ·rw[if_neg h6,if_neg h5] at h
      exact Zlj s ps L (by omega) (fun e=>he (by rw[e] at hlen; exact List.length_eq_zero_iff.1 hlen.symm)) hp h
    have hA:=Zg7 k n s l ps L hlen hl hp H hend _ 0 rfl (Nat.zero_le _)
    unfold ExpG
    clear hend H hfit hil hp hc hs hg hs0 hg0 h hps hw
    cases l with
    | nil=>exact absurd rfl he
    | cons x r =>
     refine FnOK.tree Z4 fp48 (Z3 Z2 Z0) (Zhi k n s x.cells (Tm.cellsL r)) ?_
     rw[Z9]
     have e:(x.cells::Tm.cellsL r).length=(x::r).length:=by simp[Z1]
     rw[e]
     exact hA
termination_by x=>SizeOf.sizeOf x
decreasing_by
 have:=List.sizeOf_lt_of_mem hm
 simp only[Tm.mk.sizeOf_spec]
 omega
end Go.Proofs.YtobgkdlghljdlaaGreatDoor
/- The second texts of functions that may panic (printed by a program of mine). -/
set_option maxRecDepth 100000
namespace Go.Proofs.YtobgkdlghljdlaaGreatDoor
open Go.Sx
open Go.Sx (SC.seq)
/- ostler/arith.limited -/
def ZcB:SC:=(.seq (.reg [so 2 .mv [xc (.int .i64 0)]]) (.seq (.seq (.reg [so 3 .mv [xt 0],so 4 (.bin .gtr) [xt 3,xc (.int .i64 1000)]]) (.cond (xt 4) (.spec (.pan [so 5 (.build [] []) [],so 6 (.ext (.mkif 79)) [xt 5],.a none none .pnk [xt 6]])) .skip)) (.seq (.reg [so 7 .mv [xt 0],so 2 .mv [xt 7]]) .ret)))
def ZcF:List SR:=[.t 2]
theorem ZcX:FnC Tryz.prog 116 8 ZcB ZcF/\ZA Tryz.prog 116=true:=⟨⟨_,_,{ bt:=fun _=>false,fz:=fun _=>true,nd:=fun i=>[],lv:=fun i=>[] },Tryz.func116,rfl,rfl,by kernel_rfl,by kernel_rfl⟩,by kernel_rfl⟩
/- ostler/arith.interval -/
def Ze2:SC:=(.seq (.reg [so 4 (.nilv true 4 35) [xc .nils]]) (.seq (.seq (.reg [so 8 .mv [xt 0],so 9 (.len false) [xt 8],so 10 (.bin .eql) [xt 9,xc (.int .i64 0)],so 11 .mv [xt 10],.a (some 12) (some (11,false)) .mv [xt 1],.a (some 13) (some (11,false)) (.len false) [xt 12],.a (some 14) (some (11,false)) (.bin .eql) [xt 13,xc (.int .i64 0)],so 15 .pick [xt 11,xc (.bool true),xt 14]]) (.cond (xt 15) (.seq (.reg [so 4 (.nilv true 4 35) [xc .nils]]) .ret) .skip)) (.seq (.reg [so 16 .mv [xt 0],so 17 (.call 114) [xt 16],so 18 .mv [xt 1],so 19 (.call 115) [xt 18],so 5 .mv [xt 17],so 6 .mv [xt 19]]) (.seq (.spec (.pan [so 20 .mv [xt 6],so 21 .mv [xt 5],so 22 (.bin .sub) [xt 20,xt 21],so 23 (.bin .add) [xt 22,xc (.int .i64 1)],.cd (some 24) none (xc (.func (.func 116) [] [])) [xt 23]])) (.seq (.seq (.reg [so 25 .mv [xt 5],so 7 .mv [xt 25]]) (.block 0 (.loop [4,6,7] (.seq (.seq (.reg [so 26 .mv [xt 7],so 27 .mv [xt 6],so 28 (.bin .leq) [xt 26,xt 27]]) (.cond (xt 28) .skip (.exit 0))) (.seq (.block 1 (.reg [so 31 .mv [xt 4],so 32 .mv [xt 7],so 33 (.call 117) [xt 32],so 34 (.bslice true 4 1 35 [(.int .u8 0),(.int .i64 0),(.str []),(.slice [] [])] [(0,4)]) [xt 33],.app 35 none true 4 35 (xt 31) (xt 34),so 4 .mv [xt 35]])) (.reg [so 29 .mv [xt 7],so 30 (.bin .add) [xt 29,xc (.int .i64 1)],so 7 .mv [xt 30]])))))) (.seq (.reg [so 36 .mv [xt 4],so 4 .mv [xt 36]]) .ret))))))
def Zja:List SR:=[.t 4]
theorem ZnT:FnC Tryz.prog 86 37 Ze2 Zja/\ZA Tryz.prog 86=true:=⟨⟨_,_,{ bt:=fun i=>if i=116 then true else false,fz:=fun _=>true,nd:=fun i=>[],lv:=fun i=>if i=7 then [4,6,7] else [],pn:=fun i=>if i=116 then true else false },Tryz.func86,rfl,rfl,by kernel_rfl,by kernel_rfl⟩,by kernel_rfl⟩
/- ostler/arith.operation -/
def ZM:SC:=(.seq (.reg [so 2 .box [xt 0],so 4 (.nilv true 4 35) [xc .nils]]) (.seq (.spec (.frg [1,2])) (.seq (.reg [so 5 (.nilv true 1 110) [xc .nils]]) (.seq (.spec (.frg [1,2,5])) (.seq (.seq (.reg [so 14 .mv [xt 1],so 15 (.len false) [xt 14],so 16 .mv [xc (.int .i64 0)]]) (.block 0 (.loop [2,5,14,15,16] (.seq (.reg [so 17 (.bin .lss) [xt 16,xt 15]]) (.seq (.cond (xt 17) .skip (.exit 0)) (.seq (.block 1 (.seq (.reg [so 18 (.iaddr 1) [xt 14,xt 16],so 19 (.load false 1) [xt 18],so 7 .mv [xt 19]]) (.reg [so 20 .mv [xt 5],so 21 .mv [xt 7],so 22 (.call 87) [xt 21],so 23 (.bslice true 1 1 110 [(.slice [] [])] [(0,1)]) [xt 22],.app 24 none true 1 110 (xt 20) (xt 23),so 5 .mv [xt 24]]))) (.reg [so 25 (.bin .add) [xt 16,xc (.int .i64 1)],so 16 .mv [xt 25]]))))))) (.seq (.spec (.frg [2,5])) (.seq (.reg [so 26 .mkmapC [],so 8 (.alloc [(.raw (.map none))]) [],.st none (.c 1) (xt 8) (xt 26)]) (.seq (.spec (.frg [2,5,8])) (.seq (.seq (.reg [so 27 .mv [xt 5],.cd (some 28) none (xc (.func (.func 118) [] [])) [xt 27]]) (.block 2 (.rangeF 56 (xt 28) #[29] (.reg [so 9 .mv [xt 29]]) (.block 3 (.seq (.reg [so 31 (.load false 1) [xt 2],so 32 .mv [xt 9],.cd (some 33) none (xc (.func (.func 119) [] [])) [xt 31,xt 32],so 30 .mv [xt 33],so 34 (.extract 0) [xt 30],so 35 (.extract 1) [xt 30],so 10 .mv [xt 34],so 11 .mv [xt 35]]) (.seq (.reg [so 36 .mv [xt 11]]) (.cond (xt 36) (.seq (.reg [so 37 (.load false 1) [xt 8],so 38 .mv [xt 10],so 39 .mv [xt 10],.st none (.k (some .i64) (xt 38)) (xt 37) (xt 39)]) (.spec (.pan [so 40 (.load false 1) [xt 8],so 41 (.ext .lenm) [xt 40],.cd (some 42) none (xc (.func (.func 116) [] [])) [xt 41]]))) .skip))))))) (.seq (.spec (.frg [8])) (.seq (.reg [so 12 (.nilv false 4 35) [xc .nils]]) (.seq (.spec (.frg [8,12])) (.seq (.seq (.spec (.rng [so 43 (.load false 1) [xt 8]] 44 (xt 43))) (.block 4 (.loop [12,44] (.seq (.spec (.nxt (xt 44) 45 46)) (.seq (.cond (xt 46) .skip (.exit 4)) (.block 5 (.seq (.reg [so 47 (.ext .entry) [xt 44],so 48 (.extract 0) [xt 47],so 13 .mv [xt 48]]) (.reg [so 49 .mv [xt 12],so 50 .mv [xt 13],so 51 (.call 117) [xt 50],so 52 (.bslice true 4 1 35 [(.int .u8 0),(.int .i64 0),(.str []),(.slice [] [])] [(0,4)]) [xt 51],.app 53 none false 4 35 (xt 49) (xt 52),so 12 .mv [xt 53]])))))))) (.seq (.spec (.frg [12])) (.seq (.reg [so 54 .mv [xt 12],.cd (some 55) none (xc (.func (.func 120) [] [])) [xt 54],so 4 .mv [xt 55]]) .ret)))))))))))))))
def Z4d:List SR:=[.t 4]
theorem ZnS:FnC Tryz.prog 88 56 ZM Z4d/\ZA Tryz.prog 88=true:=⟨⟨_,_,{ bt:=fun i=>if i=116 then true else if i=118 then true else if i=119 then true else if i=120 then true else false,fz:=fun i=>if i=12 then false else if i=53 then false else true,nd:=fun i=>[],lv:=fun i=>if i=4 then [2,5,14,15,16] else if i=17 then [12,44] else [],fg:=fun i=>if i=2 then some [1,2] else if i=3 then some [1,2,5] else if i=8 then some [2,5] else if i=9 then some [2,5,8] else if i=15 then some [8] else if i=16 then some [8,12] else if i=20 then some [12] else none,pn:=fun i=>if i=116 then true else false },Tryz.func88,rfl,rfl,by kernel_rfl,by kernel_rfl⟩,by kernel_rfl⟩
/- ostler/arith.functions -/
def Z1v:SC:=(.seq (.reg [so 2 .box [xt 0],so 4 (.alloc [.nils]) []]) (.seq (.spec (.frg [1,2,4])) (.seq (.seq (.reg [so 9 .mv [xt 1],.cd (some 10) none (xc (.func (.func 121) [] [])) [xt 9,xc (.func (.func 122) [] [])]]) (.cond (xt 10) (.seq (.reg [.st none (.c 1) (xt 4) (xc .nils)]) .ret) .skip)) (.seq (.spec (.frg [1,2,4])) (.seq (.reg [so 5 .mv [xc (.int .i64 1)]]) (.seq (.spec (.frg [1,2,4,5])) (.seq (.seq (.reg [so 11 .mv [xt 1],so 12 (.len false) [xt 11],so 13 .mv [xc (.int .i64 0)]]) (.block 0 (.loop [1,2,4,5,11,12,13] (.seq (.reg [so 14 (.bin .lss) [xt 13,xt 12]]) (.seq (.cond (xt 14) .skip (.exit 0)) (.seq (.block 1 (.seq (.reg [so 15 (.iaddr 1) [xt 11,xt 13],so 16 (.load false 1) [xt 15],so 7 .mv [xt 16]]) (.spec (.pan [so 17 .mv [xt 5],so 18 .mv [xt 7],so 19 (.len false) [xt 18],so 20 (.bin .mul) [xt 17,xt 19],.cd (some 21) none (xc (.func (.func 116) [] [])) [xt 20],so 5 .mv [xt 21]])))) (.reg [so 22 (.bin .add) [xt 13,xc (.int .i64 1)],so 13 .mv [xt 22]]))))))) (.seq (.spec (.frg [1,2,4])) (.seq (.seq (.reg [so 23 .mv [xt 1],.cd (some 24) none (xc (.func (.func 123) [] [])) [xt 23]]) (.block 2 (.rangeF 36 (xt 24) #[25] (.reg [so 8 .mv [xt 25]]) (.block 3 (.drw [0,0,0,4,14,1,0,127,255,511,255] [so 26 (.load false 1) [xt 4],so 27 (.load false 1) [xt 2],so 28 .mv [xt 8],.cd (some 29) none (xc (.func (.func 124) [] [])) [xt 28],so 30 (.build [(.int .u8 0),(.int .i64 0),(.str []),(.slice [] [])] [(0,1),(2,1),(3,1)]) [xc (.int .u8 4),xt 27,xt 29],so 31 (.len false) [xt 26],so 32 (.bslice true 4 1 35 [(.int .u8 0),(.int .i64 0),(.str []),(.slice [] [])] [(0,4)]) [xc (.agg [(.int .u8 0),(.int .i64 0),(.str []),(.slice [] [])])],.app 33 none false 4 35 (xt 26) (xt 32),so 34 (.iaddr 4) [xt 33,xt 31],.st none (.c 4) (xt 34) (xt 30),.st none (.c 1) (xt 4) (xt 33)]))))) (.seq (.spec (.frg [4])) (.seq (.reg [so 35 (.load false 1) [xt 4],.st none (.c 1) (xt 4) (xt 35)]) .ret)))))))))))
def Z52:List SR:=[.cell 4 false 1]
theorem ZnR:FnC Tryz.prog 89 36 Z1v Z52/\ZA Tryz.prog 89=true:=⟨⟨_,_,{ bt:=fun i=>if i=116 then true else if i=121 then true else if i=123 then true else if i=124 then true else false,fz:=fun i=>if i=33 then false else true,nd:=fun i=>if i=11 then [0,0,0,4,14,1,0,127,255,511,255] else [],lv:=fun i=>if i=6 then [1,2,4,5,11,12,13] else [],fg:=fun i=>if i=2 then some [1,2,4] else if i=4 then some [1,2,4] else if i=5 then some [1,2,4,5] else if i=10 then some [1,2,4] else if i=13 then some [4] else none,pn:=fun i=>if i=116 then true else false },Tryz.func89,rfl,rfl,by kernel_rfl,by kernel_rfl⟩,by kernel_rfl⟩
/- ostler/arith.expand -/
def Z8j:SC:=(.seq (.reg [so 1 .box [xt 0],so 2 (.nilv true 4 35) [xc .nils]]) (.seq (.seq (.reg [so 6 (.faddr 3) [xt 1],so 7 (.load false 1) [xt 6],so 8 (.len false) [xt 7],so 9 (.bin .eql) [xt 8,xc (.int .i64 0)]]) (.cond (xt 9) (.seq (.reg [so 10 (.load true 4) [xt 1],so 11 (.call 49) [xt 10],so 12 (.bslice true 4 1 35 [(.int .u8 0),(.int .i64 0),(.str []),(.slice [] [])] [(0,4)]) [xt 11],so 2 .mv [xt 12]]) .ret) .skip)) (.seq (.reg [so 3 (.nilv true 1 22) [xc .nils]]) (.seq (.seq (.reg [so 13 (.faddr 3) [xt 1],so 14 (.load false 1) [xt 13],so 15 (.len false) [xt 14],so 16 .mv [xc (.int .i64 0)]]) (.block 0 (.loop [1,3,14,15,16] (.seq (.reg [so 17 (.bin .lss) [xt 16,xt 15]]) (.seq (.cond (xt 17) .skip (.exit 0)) (.seq (.block 1 (.seq (.reg [so 18 (.iaddr 4) [xt 14,xt 16],so 19 (.load true 4) [xt 18],so 5 (.alloc [(.int .u8 0),(.int .i64 0),(.str []),.nils]) [],.st none (.c 4) (xt 5) (xt 19)]) (.spec (.pan [so 20 .mv [xt 3],so 21 (.load true 4) [xt 5],.cd (some 22) none (xc (.func (.func 48) [] [])) [xt 21],so 23 (.bslice true 1 1 22 [(.slice [] [])] [(0,1)]) [xt 22],.app 24 none true 1 22 (xt 20) (xt 23),so 3 .mv [xt 24]])))) (.reg [so 25 (.bin .add) [xt 16,xc (.int .i64 1)],so 16 .mv [xt 25]]))))))) (.seq (.seq (.reg [so 26 (.faddr 0) [xt 1],so 27 (.load false 1) [xt 26]]) (.block 2 (.seq (.reg [so 29 (.bin .eql) [xt 27,xc (.int .u8 6)],so 28 .mv [xt 29]]) (.cond (xt 28) (.seq (.block 0 (.seq (.drw [0,1,3,7,0,16,48,127,255,511] [so 30 .mv [xt 3],so 31 (.iaddr 1) [xt 30,xc (.int .i64 0)],so 32 (.load false 1) [xt 31],so 33 (.call 87) [xt 32],so 34 .mv [xt 3],so 35 (.iaddr 1) [xt 34,xc (.int .i64 1)],so 36 (.load false 1) [xt 35],so 37 (.call 87) [xt 36]]) (.spec (.pan [.cd (some 38) none (xc (.func (.func 86) [] [])) [xt 33,xt 37],so 2 .mv [xt 38]])))) .ret) (.seq (.reg [so 40 (.bin .eql) [xt 27,xc (.int .u8 5)],so 39 .mv [xt 40]]) (.cond (xt 39) (.seq (.spec (.pan [so 41 (.faddr 2) [xt 1],so 42 (.load false 1) [xt 41],so 43 .mv [xt 3],.cd (some 44) none (xc (.func (.func 88) [] [])) [xt 42,xt 43],so 2 .mv [xt 44]])) .ret) .skip)))))) (.seq (.spec (.pan [so 45 (.faddr 2) [xt 1],so 46 (.load false 1) [xt 45],so 47 .mv [xt 3],.cd (some 48) none (xc (.func (.func 89) [] [])) [xt 46,xt 47],so 2 .mv [xt 48]])) .ret))))))
def Zb8:List SR:=[.t 2]
theorem ZnU:FnC Tryz.prog 48 49 Z8j Zb8/\ZA Tryz.prog 48=true:=⟨⟨_,_,{ bt:=fun i=>if i=48 then true else if i=86 then true else if i=88 then true else if i=89 then true else false,fz:=fun _=>true,nd:=fun i=>if i=11 then [0,1,3,7,0,16,48,127,255,511] else [],lv:=fun i=>if i=6 then [1,3,14,15,16] else [],pn:=fun i=>if i=86 then true else if i=88 then true else if i=89 then true else if i=48 then true else false },Tryz.func48,rfl,rfl,by kernel_rfl,by kernel_rfl⟩,by kernel_rfl⟩
/- ostler/arith.rows[int]$1 -/
def ZcA:SC:=(.seq (.reg [so 2 .box [xt 0]]) (.seq (.reg [so 5 (.load false 1) [xt 1],so 6 (.len false) [xt 5],so 7 (.mks false 1 3 [(.int .i64 0)] 8) [xt 6],so 3 (.alloc [.nils]) [],.st none (.c 1) (xt 3) (xt 7)]) (.seq (.reg [so 4 (.alloc [.nilf]) []]) (.seq (.reg [so 8 (.mkfn (.func 140) 0) [xt 1,xt 2,xt 3,xt 4],.st none (.c 1) (xt 4) (xt 8)]) (.spec (.pan [so 9 (.load false 1) [xt 4],.cd (some 10) none (xt 9) [xc (.int .i64 0)]]))))))
def ZcE:List SR:=[]
theorem ZkH:FnC Tryz.prog 139 11 ZcA ZcE/\ZA Tryz.prog 139=true:=⟨⟨_,_,{ bt:=fun _=>false,fz:=fun i=>if i=7 then false else true,nd:=fun i=>[],lv:=fun i=>[],pd:=true },Tryz.func139,rfl,rfl,by kernel_rfl,by kernel_rfl⟩,by kernel_rfl⟩
/- ostler/arith.rows[int]$1$1 -/
def Z49:SC:=(.seq (.reg [so 6 .mv [xc (.bool false)]]) (.seq (.seq (.reg [so 9 .mv [xt 0],so 10 (.load false 1) [xt 1],so 11 (.len false) [xt 10],so 12 (.bin .eql) [xt 9,xt 11]]) (.cond (xt 12) (.seq (.spec (.pan [so 13 (.load false 1) [xt 2],so 14 (.load false 1) [xt 3],.cd (some 15) none (xt 13) [xt 14],so 6 .mv [xt 15]])) .ret) .skip)) (.seq (.seq (.reg [so 16 (.load false 1) [xt 1],so 17 .mv [xt 0],so 18 (.iaddr 1) [xt 16,xt 17],so 19 (.load false 1) [xt 18],so 20 (.len false) [xt 19],so 21 .mv [xc (.int .i64 0)]]) (.block 0 (.loop [0,3,4,19,20,21] (.seq (.reg [so 22 (.bin .lss) [xt 21,xt 20]]) (.seq (.cond (xt 22) .skip (.exit 0)) (.seq (.block 1 (.seq (.reg [so 23 (.iaddr 1) [xt 19,xt 21],so 24 (.load false 1) [xt 23],so 8 .mv [xt 24]]) (.seq (.reg [so 25 (.load false 1) [xt 3],so 26 .mv [xt 0],so 27 .mv [xt 8],so 28 (.iaddr 1) [xt 25,xt 26],.st none (.c 1) (xt 28) (xt 27)]) (.seq (.spec (.pan [so 29 (.load false 1) [xt 4],so 30 .mv [xt 0],so 31 (.bin .add) [xt 30,xc (.int .i64 1)],.cd (some 32) none (xt 29) [xt 31],so 33 (.un .not) [xt 32]])) (.cond (xt 33) (.seq (.reg [so 6 .mv [xc (.bool false)]]) .ret) .skip))))) (.reg [so 34 (.bin .add) [xt 21,xc (.int .i64 1)],so 21 .mv [xt 34]]))))))) (.seq (.reg [so 6 .mv [xc (.bool true)]]) .ret))))
def Z67:List SR:=[.t 6]
theorem ZcW:FnC Tryz.prog 140 35 Z49 Z67/\ZA Tryz.prog 140=true:=⟨⟨_,_,{ bt:=fun _=>false,fz:=fun _=>true,nd:=fun i=>[],lv:=fun i=>if i=5 then [0,3,4,19,20,21] else [],pd:=true },Tryz.func140,rfl,rfl,by kernel_rfl,by kernel_rfl⟩,by kernel_rfl⟩
/- ostler/arith.Expand -/
def Z0S:SC:=(.seq (.reg [so 1 .box [xt 0],so 2 (.alloc [.nils]) [],so 3 (.alloc [(.int .i64 0)]) []]) (.seq (.spec (.frg [1,2,3])) (.seq (.seq (.reg [so 6 (.load true 4) [xt 1],so 7 (.call 15) [xt 6],so 8 (.un .not) [xt 7],so 9 .mv [xt 8],.a (some 10) (some (9,false)) (.load true 4) [xt 1],.a (some 11) (some (9,false)) (.call 21) [xt 10],.a (some 12) (some (9,false)) (.un .not) [xt 11],so 13 .pick [xt 9,xc (.bool true),xt 12]]) (.cond (xt 13) (.seq (.reg [.st none (.c 1) (xt 2) (xc .nils),.st none (.c 1) (xt 3) (xc (.int .i64 2))]) .ret) .skip)) (.seq (.spec (.frg [1,2,3])) (.seq (.spec (.dfr [so 14 (.mkfn (.func 47) 0) [xt 2,xt 3]] (xt 14))) (.seq (.spec (.frg [1,2,3])) (.seq (.seq (.spec (.pan [so 15 (.load true 4) [xt 1],.cd (some 16) none (xc (.func (.func 48) [] [])) [xt 15],so 17 (.len false) [xt 16],so 18 .mv [xc (.int .i64 0)]])) (.block 0 (.loop [2,3,16,17,18] (.seq (.reg [so 19 (.bin .lss) [xt 18,xt 17]]) (.seq (.cond (xt 19) .skip (.exit 0)) (.seq (.block 1 (.seq (.reg [so 20 (.iaddr 4) [xt 16,xt 18],so 21 (.load true 4) [xt 20],so 5 (.alloc [(.int .u8 0),(.int .i64 0),(.str []),.nils]) [],.st none (.c 4) (xt 5) (xt 21)]) (.drw [0,0,2,1,0,31,63,127,63] [so 22 (.load false 1) [xt 2],so 23 (.load true 4) [xt 5],so 24 (.call 49) [xt 23],so 25 (.len false) [xt 22],so 26 (.bslice true 4 1 35 [(.int .u8 0),(.int .i64 0),(.str []),(.slice [] [])] [(0,4)]) [xc (.agg [(.int .u8 0),(.int .i64 0),(.str []),(.slice [] [])])],.app 27 none false 4 35 (xt 22) (xt 26),so 28 (.iaddr 4) [xt 27,xt 25],.st none (.c 4) (xt 28) (xt 24),.st none (.c 1) (xt 2) (xt 27)]))) (.reg [so 29 (.bin .add) [xt 18,xc (.int .i64 1)],so 18 .mv [xt 29]]))))))) (.seq (.spec (.frg [2,3])) (.seq (.reg [so 30 (.load false 1) [xt 2],.st none (.c 1) (xt 2) (xt 30),.st none (.c 1) (xt 3) (xc (.int .i64 0))]) .ret)))))))))
def Z3n:List SR:=[.cell 2 false 1,.cell 3 false 1]
theorem ZnW:FnC Tryz.prog 22 31 Z0S Z3n/\ZA Tryz.prog 22=true:=⟨⟨_,_,{ bt:=fun i=>if i=48 then true else false,fz:=fun i=>if i=27 then false else true,nd:=fun i=>if i=7 then [0,0,2,1,0,31,63,127,63] else [],lv:=fun i=>if i=6 then [2,3,16,17,18] else [],fg:=fun i=>if i=2 then some [1,2,3] else if i=4 then some [1,2,3] else if i=5 then some [1,2,3] else if i=10 then some [2,3] else none,pn:=fun i=>if i=48 then true else false },Tryz.func22,rfl,rfl,by kernel_rfl,by kernel_rfl⟩,by kernel_rfl⟩
/- ostler/arith.Expand$1 -/
def Z3l:SC:=(.seq (.spec (.rcv 5 [so 6 (.ext (.tas 79 (.agg []))) [xt 5],so 4 .mv [xt 6],so 7 (.extract 0) [xt 4],so 8 (.extract 1) [xt 4],so 2 (.alloc []) [],.st none (.c 0) (xt 2) (xt 7),so 3 .mv [xt 8]])) (.seq (.reg [so 9 .mv [xt 3]]) (.cond (xt 9) (.reg [.st none (.c 1) (xt 0) (xc .nils),.st none (.c 1) (xt 1) (xc (.int .i64 5))]) .skip)))
def ZnB:List SR:=[]
theorem ZnV:FnC Tryz.prog 47 10 Z3l ZnB/\ZA Tryz.prog 47=true:=⟨⟨_,_,{ bt:=fun _=>false,fz:=fun _=>true,nd:=fun i=>[],lv:=fun i=>[] },Tryz.func47,rfl,rfl,by kernel_rfl,by kernel_rfl⟩,by kernel_rfl⟩
end Go.Proofs.YtobgkdlghljdlaaGreatDoor
