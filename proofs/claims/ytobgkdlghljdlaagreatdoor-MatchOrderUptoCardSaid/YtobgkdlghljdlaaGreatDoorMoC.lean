/- Own work: a layer over the kit: plain data,a walk over it,its soundness. -/
import Derived.Test.YtobgkdlghljdlaaGreatDoorMtE
set_option linter.unusedSectionVars false
set_option linter.unusedVariables false
set_option linter.unusedSimpArgs false
set_option linter.deprecated false
set_option maxRecDepth 100000
/- match.state: outer,outers. -/
namespace Go.Proofs.YtobgkdlghljdlaaGreatDoor
open Go.Sx
abbrev dEq:D:= .func (.func 104) [] []
theorem Z8T (x y:Option Wn) (b:List Bd) (os:List (Tm × Tm)):oA (wJ x y) b os=(oA x b os).bind fun q=>oA y q.1 q.2:=by
 rw[Zfr]
 cases oA x b os <;> rfl
def OutP (p v:Tm) (b:List Bd) (os:List (Tm × Tm)):Prop:=CallL Tryz.prog fO [.agg p.cells,.agg v.cells] (sO b os) (ExR (oA (p.prs v) b os))
def EqP (l m:List Tm) (b:List Bd) (os:List (Tm × Tm)):Prop:=CallL Tryz.prog dEq [.slice (Tm.cellsL l) [],.slice (Tm.cellsL m) [],fO] (sO b os) (ExR (oA (Tm.prsL l m) b os))
def ExW (q:Option (List Bd × List (Tm × Tm))) (r:D) (ob:Obs):Prop:=match q with
 | some x=>r= .bool true/\ob=sO2 x.1 x.2
 | none=>r= .bool false
theorem Zga (b:List Bd) (os:List (Tm × Tm)) (ob:Obs):ob=sO2 b os->ExW (oA (some ([],[])) b os) (.bool true) ob:=by
 intro h
 simp only[oA,bndA,ExW,List.append_nil]
 exact⟨trivial,h⟩
theorem Zlx (l m:List Tm) (hlm:l.length=m.length) (hll:l.length<=1000000) (hp: ∀ x∈l,TmB x) (hv: ∀ x∈m,TmB x) (H: ∀ x∈l, ∀ (v:Tm) (b:List Bd) (os:List (Tm × Tm)),TmB v->StB x.cnt b os->OutP x v b os) :
  ∀ (t i:Nat) (b:List Bd) (os:List (Tm × Tm)),l.length-i=t->i<=l.length->StB (Tm.cntL (l.drop i)) b os →
  At Tryz.prog 2 (cut Z4a 0) (hdEq (Tm.cellsL l) (Tm.cellsL m) l.length i (sO2 b os)) (FinQ false 2 Z53 (ExW (oA (Tm.prsL (l.drop i) (m.drop i)) b os))):=by
 intro t
 induction t with
 | zero =>
  intro i b os ht hi hS
  refine At.tree (QN ZC) (Z5N (bdL b) (prD os) (Tm.cellsL l) (Tm.cellsL m) l.length i 0 0 [] [] 0 0 [] [] true [] []) ?_
  rw[List.drop_eq_nil_of_le (show l.length<=i by omega),List.drop_eq_nil_of_le (show m.length<=i by omega)]
  simp only[SS]
  refine⟨fun h=>by omega,fun _=> ?_⟩
  exact Zga b os _ rfl
 | succ t ih =>
  intro i b os ht hi hS
  have h1:i<l.length:=by omega
  have h2:i<m.length:=by omega
  have hx:=Zg h1
  have hy:=Zg h2
  have hcnt:Tm.cntL (l.drop i)=l[i].cnt+Tm.cntL (l.drop (i+1)):=by rw[Za h1,Tm.cntL]
  rw[hcnt] at hS
  have hvi:=hv _ (List.getElem_mem h2)
  have hpi:=hp _ (List.getElem_mem h1)
  have hC:=H _ (List.getElem_mem h1) m[i] b os hvi (hS.mono (by omega))
  have hJ:oA (Tm.prsL (l.drop i) (m.drop i)) b os=(oA (l[i].prs m[i]) b os).bind fun q=>oA (Tm.prsL (l.drop (i+1)) (m.drop (i+1))) q.1 q.2:=by
   rw[Za h1,Za h2,Tm.prsL,Z8T]
  rw[hJ]
  unfold OutP at hC
  cases hq:oA (l[i].prs m[i]) b os with
  | some q =>
   rw[hq] at hC
   have hI:=ih (i+1) q.1 q.2 (by omega) (by omega) (ZcM hpi hvi hS hq)
   simp only[Option.bind_some]
   clear hJ hq hpi hvi hcnt
   generalize l[i]=x at hx hC
   generalize m[i]=y at hy hC
   obtain⟨k,n,s,a⟩:=x
   obtain⟨k',n',s',a'⟩:=y
   refine At.tree (QN ZC) (Z5N (bdL b) (prD os) (Tm.cellsL l) (Tm.cellsL m) l.length i k n s (Tm.cellsL a) k' n' s' (Tm.cellsL a') true (bdL q.1) (prD q.2)) ?_
   simp only[SS]
   exact⟨fun _=>⟨⟨by omega,hx⟩,⟨by omega,hy⟩,⟨hC,by omega,hI⟩,fun h=>by cases h⟩,fun h=>by omega⟩
  | none =>
   rw[hq] at hC
   simp only[Option.bind_none,ExW]
   clear hJ hq hpi hvi hcnt
   generalize l[i]=x at hx hC
   generalize m[i]=y at hy hC
   obtain⟨k,n,s,a⟩:=x
   obtain⟨k',n',s',a'⟩:=y
   refine At.tree (QN ZC) (Z5N (bdL b) (prD os) (Tm.cellsL l) (Tm.cellsL m) l.length i k n s (Tm.cellsL a) k' n' s' (Tm.cellsL a') false [] []) ?_
   simp only[SS]
   exact⟨fun _=>⟨⟨by omega,hx⟩,⟨by omega,hy⟩,fun h=>(by cases h),hC,rfl⟩,fun h=>by omega⟩
theorem Zlw (l m:List Tm) (hll:l.length<=1000000) (hp: ∀ x∈l,TmB x) (hv: ∀ x∈m,TmB x) (H: ∀ x∈l, ∀ (v:Tm) (b:List Bd) (os:List (Tm × Tm)),TmB v->StB x.cnt b os->OutP x v b os)
  (b:List Bd) (os:List (Tm × Tm)) (hS:StB (Tm.cntL l) b os):EqP l m b os:=by
 unfold EqP
 by_cases hlm:l.length=m.length
 ·cases l with
  | nil =>
   have:m=[]:=List.eq_nil_of_length_eq_zero (by simpa using hlm.symm)
   subst this
   simp only[Tm.prsL,oA,bndA,ExR,List.append_nil]
   refine re2S rfl rfl ?_
   refine CallL.tree Z4 Z9i Z5 (Z73 (bdL b) (prD os) [] []) ?_
   simp only[Tm.cellsL,List.length_nil,SS]
   refine⟨fun h=>absurd trivial h, ?_⟩
   refine At.tree (QN ZC) (Z5O (bdL b) (prD os) [] [] (0:Nat) 0 0 0 [] [] 0 0 [] [] true [] []) ?_
   simp only[SS]
   exact⟨fun h=>by omega,fun _=>trivial⟩
  | cons x l =>
   cases m with
   | nil=>cases hlm
   | cons y m =>
    have hx:=hp x (List.mem_cons_self ..)
    have hy:=hv y (List.mem_cons_self ..)
    simp only[Tm.cntL] at hS
    have hC:=H x (List.mem_cons_self ..) y b os hy (hS.mono (by omega))
    have hJ:oA (Tm.prsL (x::l) (y::m)) b os=(oA (x.prs y) b os).bind fun q=>oA (Tm.prsL l m) q.1 q.2:=by
     rw[Tm.prsL,Z8T]
    rw[hJ]
    have hL:=Zlx (x::l) (y::m) hlm hll hp hv H l.length 1
    unfold OutP at hC
    have hlen:(Tm.cellsL (x::l)).length=(x::l).length:=Z1 _
    have hlen2:(Tm.cellsL (y::m)).length=(y::m).length:=Z1 _
    have gx:(Tm.cellsL (x::l))[0]? = some x.cells:=rfl
    have gy:(Tm.cellsL (y::m))[0]? = some y.cells:=rfl
    have hpos:0<(x::l).length:=Nat.succ_pos _
    have hlm2:(x::l).length=(y::m).length:=hlm
    cases hq:oA (x.prs y) b os with
    | some q =>
     rw[hq] at hC
     have hI:=hL q.1 q.2 (by simp) (by simp) (ZcM hx hy hS hq)
     simp only[List.drop_succ_cons,List.drop_zero] at hI
     simp only[Option.bind_some]
     clear hJ hq hL hp hv H hx hy hlm
     generalize oA (Tm.prsL l m) q.1 q.2=fin at *
     generalize Tm.cellsL (x::l)=xs at *
     generalize Tm.cellsL (y::m)=ys at *
     generalize (x::l).length=nn at *
     have hgo:At Tryz.prog 2 (cut Z4a 0) (hdEq xs ys nn (0:Nat) (sO b os)) (FinQ false 2 Z53 (ExW fin)):=by
      obtain⟨k,n,s,a⟩:=x
      obtain⟨k',n',s',a'⟩:=y
      refine At.tree (QN ZC) (Z5O (bdL b) (prD os) xs ys nn 0 k n s (Tm.cellsL a) k' n' s' (Tm.cellsL a') true (bdL q.1) (prD q.2)) ?_
      simp only[SS]
      exact⟨fun _=>⟨⟨by omega,gx⟩,⟨by omega,gy⟩,⟨hC,by omega,hI⟩,fun h=>by cases h⟩,fun h=>by omega⟩
     have hC2:CallL Tryz.prog dEq [.slice xs [],.slice ys [],fO] (sO b os) (ExW fin):=by
      refine CallL.tree Z4 Z9i Z5 (Z73 (bdL b) (prD os) xs ys) ?_
      have e:(xs.length:Int)=(ys.length:Int):=by omega
      rw[e] 
      simp only[SS]
      refine⟨fun h=>absurd trivial h, ?_⟩
      rw[<- e,hlen]
      exact hgo
     cases fin with
     | none=>exact CallL.lost (R:=fun _=>True) (hC2.mono fun r o h=>⟨h,trivial⟩)
     | some z=>exact hC2
    | none =>
     rw[hq] at hC
     simp only[Option.bind_none,ExR]
     clear hJ hq hL hp hv H hx hy hlm
     generalize Tm.cellsL (x::l)=xs at *
     generalize Tm.cellsL (y::m)=ys at *
     generalize (x::l).length=nn at *
     refine CallL.tree Z4 Z9i Z5 (Z73 (bdL b) (prD os) xs ys) ?_
     have e:(xs.length:Int)=(ys.length:Int):=by omega
     rw[e] 
     simp only[SS]
     refine⟨fun h=>absurd trivial h, ?_⟩
     rw[<- e,hlen]
     obtain⟨k,n,s,a⟩:=x
     obtain⟨k',n',s',a'⟩:=y
     refine At.tree (QN ZC) (Z5O (bdL b) (prD os) xs ys nn 0 k n s (Tm.cellsL a) k' n' s' (Tm.cellsL a') false [] []) ?_
     simp only[SS]
     exact⟨fun _=>⟨⟨by omega,gx⟩,⟨by omega,gy⟩,fun h=>(by cases h),hC,⟨rfl,rfl⟩⟩,fun h=>by omega⟩
 ·have:Tm.prsL l m=none:=by
   cases hq:Tm.prsL l m with
   | none=>rfl
   | some w=>exact absurd (Z6a l m w hq) hlm
  rw[this]
  simp only[oA,ExR]
  refine CallL.lost (R:=fun _=>True) ?_
  refine CallL.tree Z4 Z9i Z5 (Z73 (bdL b) (prD os) (Tm.cellsL l) (Tm.cellsL m)) ?_
  have e:((l.length:Int)=(m.length:Int)) ↔ False:=⟨fun h=>hlm (by omega),False.elim⟩
  simp only[Z1,e,SS]
  exact⟨fun _=>trivial,fun h=>h.elim⟩
theorem Z4j (l m:List Tm) (b:List Bd) (os:List (Tm × Tm)) (h:EqP l m b os):CF 70 [.ptr 0 0,.slice (Tm.cellsL l) [],.slice (Tm.cellsL m) []] (sO b os) (ExR (oA (Tm.prsL l m) b os)):=by
 unfold EqP at h
 cases hq:oA (Tm.prsL l m) b os with
 | some q =>
  rw[hq] at h
  refine CallL.tree Z4 fp70 (Zn ZC) (Zdk (bdL b) (prD os) (Tm.cellsL l) (Tm.cellsL m) true (bdL q.1) (prD q.2)) ?_
  exact⟨h,rfl,rfl⟩
 | none =>
  rw[hq] at h
  refine CallL.tree Z4 fp70 (Zn ZC) (Zdk (bdL b) (prD os) (Tm.cellsL l) (Tm.cellsL m) false [] []) ?_
  exact⟨h,rfl,rfl⟩
theorem ZjU (k:Nat) (n:Int) (s:LU) (l:List Tm) (v:Tm):(Tm.mk k n s l).prs v=if k=3 then some ([(s,v)],[]) else if k=5\/k=6 then some ([],[(.mk k n s l,v)]) else match v with
  | .mk k' n' s' l'=>if k=k'/\n=n'/\s=s' then Tm.prsL l l' else none:=by
 obtain⟨k',n',s',l'⟩:=v
 simp only[Tm.prs]
theorem Zfj (os qs:List (Tm × Tm)):prD (os++qs)=prD os++prD qs:=List.map_append
theorem ZcJ: ∀ (p v:Tm) (b:List Bd) (os:List (Tm × Tm)),TmB p->TmB v->StB p.cnt b os->OutP p v b os
 | .mk k n s l,v,b,os,hp,hv,hS=>by
  have hll:l.length<=1000:=by
   have:=hp.2.1
   simp only[Tm.few] at this
   exact this.1
  have hcnt:Tm.cntL l+1=(Tm.mk k n s l).cnt:=by simp only[Tm.cnt]
  have hk1:1<=(Tm.mk k n s l).cnt:=by omega
  have hlen:=hS.len
  have holen:=hS.olen
  have e3:((k:Int)=3)=(k=3):=propext (by omega)
  have e5:((k:Int)=5)=(k=5):=propext (by omega)
  have e6:((k:Int)=6)=(k=6):=propext (by omega)
  unfold OutP
  rw[ZjU]
  have hol:(prD os).length=os.length:=List.length_map ..
  by_cases h3:k=3
  ·rw[if_pos h3]
   have hB:=Zm1 b os s v (by omega) hS.srt (fun x hx=>(hS.wf x hx).1) hv.1
   have hq:oA (some ([(s,v)],[])) b os=(bnd1 b s v).map fun c=>(c,os):=by
    simp only[oA,bndA]
    cases bnd1 b s v <;> simp
   rw[hq]
   cases hb:(bnd1 b s v).map fun c=>(c,os) with
   | some q =>
    rw[hb] at hB
    obtain⟨k',n',s',a'⟩:=v
    refine CallL.tree Z4 Z5t (Zn ZC) (Z7T (bdL b) (prD os) k n s (Tm.cellsL l) k' n' s' (Tm.cellsL a') true (bdL q.1) (prD q.2)) ?_
    simp only[SS,e3]
    exact⟨fun _=>⟨⟨hB,rfl,rfl⟩,fun h=>by cases h⟩,fun h=>absurd h3 h⟩
   | none =>
    rw[hb] at hB
    obtain⟨k',n',s',a'⟩:=v
    refine CallL.tree Z4 Z5t (Zn ZC) (Z7T (bdL b) (prD os) k n s (Tm.cellsL l) k' n' s' (Tm.cellsL a') false [] []) ?_
    simp only[SS,e3]
    exact⟨fun _=>⟨fun h=>(by cases h),hB,rfl,rfl⟩,fun h=>absurd h3 h⟩
  ·rw[if_neg h3]
   by_cases h5:k=5\/k=6
   ·rw[if_pos h5]
    have hq:oA (some (([]:List (LU × Tm)),[(Tm.mk k n s l,v)])) b os=some (b,os++[(Tm.mk k n s l,v)]):=by simp only[oA,bndA]
    rw[hq]
    obtain⟨k',n',s',a'⟩:=v
    have hR:ExR (some (b,os++[(Tm.mk k n s l,Tm.mk k' n' s' a')])) (.bool true) [(0,.cells [.slice (bdL b) [],.vec 2]),(2,.arr true 8 135 (prD os++[[.int .u8 k,.int .i64 n,.str s,.slice (Tm.cellsL l) [],.int .u8 k',.int .i64 n',.str s',.slice (Tm.cellsL a') []]]))]:=by
     refine⟨rfl, ?_⟩
     show _=oS2 (bdL b) (prD (os++[(Tm.mk k n s l,Tm.mk k' n' s' a')]))
     rw[Zfj]
     rfl
    refine CallL.tree Z4 Z5t (Zn ZC) (Z7T (bdL b) (prD os) k n s (Tm.cellsL l) k' n' s' (Tm.cellsL a') true [] []) ?_
    simp only[SS,e3,e5,e6,hol]
    refine⟨fun h=>absurd h h3,fun _=>⟨fun h=>⟨fun _=>⟨⟨by simp[Zc],by omega⟩,hR⟩,fun h2=>absurd h h2⟩,fun h=>⟨fun _=>⟨⟨by simp[Zc],by omega⟩,hR⟩,fun h6=>absurd h5 (by omega)⟩⟩⟩
   ·rw[if_neg h5]
    have hS2:StB (Tm.cntL l) b os:=hS.mono (by omega)
    obtain⟨k',n',s',a'⟩:=v
    have hE:EqP l a' b os:=Zlw l a' (by omega) (QW _ _ _ _ hp) (QW _ _ _ _ hv) (fun x hx w c qs hw hc=>ZcJ x w c qs (QW _ _ _ _ hp x hx) hw hc) b os hS2
    have hO:=Z4j l a' b os hE
    simp only
    have ek:((k:Int)=(k':Int))=(k=k'):=propext (by omega)
    by_cases hkk:k=k'/\n=n'/\s=s'
    ·rw[if_pos hkk]
     cases hq:oA (Tm.prsL l a') b os with
     | some q =>
      rw[hq] at hO
      refine CallL.tree Z4 Z5t (Zn ZC) (Z7T (bdL b) (prD os) k n s (Tm.cellsL l) k' n' s' (Tm.cellsL a') true (bdL q.1) (prD q.2)) ?_
      simp only[SS,e3,e5,e6,ek]
      exact⟨fun h=>absurd h h3,fun _=>⟨fun h=>absurd (.inl h) h5,fun _=>⟨fun h=>absurd (.inr h) h5,fun _=>⟨fun _=>⟨fun _=>⟨fun _=>⟨⟨hO,rfl,rfl⟩,fun h=>by cases h⟩,fun h=>absurd hkk.2.2 h⟩,fun h=>absurd hkk.2.1 h⟩,fun h=>absurd hkk.1 h⟩⟩⟩⟩
     | none =>
      rw[hq] at hO
      refine CallL.tree Z4 Z5t (Zn ZC) (Z7T (bdL b) (prD os) k n s (Tm.cellsL l) k' n' s' (Tm.cellsL a') false [] []) ?_
      simp only[SS,e3,e5,e6,ek]
      exact⟨fun h=>absurd h h3,fun _=>⟨fun h=>absurd (.inl h) h5,fun _=>⟨fun h=>absurd (.inr h) h5,fun _=>⟨fun _=>⟨fun _=>⟨fun _=>⟨fun h=>(by cases h),hO,⟨rfl,rfl⟩⟩,fun h=>absurd hkk.2.2 h⟩,fun h=>absurd hkk.2.1 h⟩,fun h=>absurd hkk.1 h⟩⟩⟩⟩
    ·rw[if_neg hkk]
     refine CallL.lost (R:=fun _=>True) ?_
     refine CallL.tree Z4 Z5t (Zn ZC) (Z7T (bdL b) (prD os) k n s (Tm.cellsL l) k' n' s' (Tm.cellsL a') false [] []) ?_
     simp only[SS,e3,e5,e6,ek]
     exact⟨fun h=>absurd h h3,fun _=>⟨fun h=>absurd (.inl h) h5,fun _=>⟨fun h=>absurd (.inr h) h5,fun _=>⟨fun h1=>⟨fun h2=>⟨fun h4=>absurd ⟨h1,h2,h4⟩ hkk,fun _=>by first | trivial | exact⟨rfl,trivial⟩⟩,fun _=>by first | trivial | exact⟨rfl,trivial⟩⟩,fun _=>by first | trivial | exact⟨rfl,trivial⟩⟩⟩⟩⟩
termination_by p=>SizeOf.sizeOf p
decreasing_by
 have:=List.sizeOf_lt_of_mem hx
 simp only[Tm.mk.sizeOf_spec]
 omega
end Go.Proofs.YtobgkdlghljdlaaGreatDoor
/- match.state: get,apply,result. -/
namespace Go.Proofs.YtobgkdlghljdlaaGreatDoor
open Go.Sx
theorem Zfu (l:List Bd) (os:LD) (t:LU) (hl:l.length<=1000000) (hs:srtB l):CF 42 [.ptr 0 0,.str t] (oS (bdL l) os) fun r ob=>r=opD (getB l t)/\ob=oS (bdL l) os:=by
 have hf:=Z3H l t hl hs
 unfold fndD at hf
 have hg:=Z13 (s:=t) hs
 by_cases hlt:posB l t<l.length
 ·have hx:=QG hlt
  rw[List.getElem?_eq_getElem hlt] at hg
  simp only at hg
  by_cases e:l[posB l t].n=t
  ·rw[if_pos e] at hg
   rw[hg] at hf ⊢
   generalize l[posB l t]=x at hx
   obtain⟨m,⟨k,n,s,a⟩⟩:=x
   refine CallL.tree Z4 fp42 Z5 (Zam (bdL l) os t (posB l t) true m k n s (Tm.cellsL a)) ?_
   exact⟨hf,⟨by omega,by rw[Int.toNat_natCast]; exact hx⟩,rfl,rfl⟩
  ·rw[if_neg e] at hg
   rw[hg] at hf ⊢
   refine CallL.tree Z4 fp42 Z5 (Zam (bdL l) os t (posB l t) false [] 0 0 [] []) ?_
   exact⟨hf,rfl,rfl⟩
 ·have e0:l[posB l t]? = none:=List.getElem?_eq_none (by omega)
  rw[e0] at hg
  simp only at hg
  rw[hg] at hf ⊢
  refine CallL.tree Z4 fp42 Z5 (Zam (bdL l) os t (posB l t) false [] 0 0 [] []) ?_
  exact⟨hf,rfl,rfl⟩
theorem Zk8 (l:List Bd) (os:LD) (hl:l.length<=1000000) (hs:srtB l) (x:Tm):CallL Tryz.prog fA [.agg x.cells] (oP (bdL l) os) fun r ob=>r=opD (match x with | .mk k n s a=>if k=3 then getB l s else none)/\ob=oP (bdL l) os:=by
 obtain⟨k,n,s,a⟩:=x
 have hg:=Zfu l os s hl hs
 have e3:((k:Int)=3)=(k=3):=propext (by omega)
 simp only
 by_cases h3:k=3
 ·rw[if_pos h3]
  cases hq:getB l s with
  | none =>
   rw[hq] at hg
   refine CallL.tree Z4 Z5s Z5 (Zao (bdL l) os k n s (Tm.cellsL a) 0 0 [] [] false) ?_
   simp only[SS,e3]
   exact⟨fun h=>absurd h3 h,fun _=>⟨hg,by first | rfl | exact⟨rfl,rfl⟩ | trivial⟩⟩
  | some v =>
   rw[hq] at hg
   obtain⟨kv,nv,sv,av⟩:=v
   refine CallL.tree Z4 Z5s Z5 (Zao (bdL l) os k n s (Tm.cellsL a) kv nv sv (Tm.cellsL av) true) ?_
   simp only[SS,e3]
   exact⟨fun h=>absurd h3 h,fun _=>⟨hg,by first | rfl | exact⟨rfl,rfl⟩ | trivial⟩⟩
 ·rw[if_neg h3]
  refine CallL.tree Z4 Z5s Z5 (Zao (bdL l) os k n s (Tm.cellsL a) 0 0 [] [] false) ?_
  simp only[SS,e3]
  exact⟨fun _=>by first | rfl | exact⟨rfl,rfl⟩ | trivial,fun h=>absurd h h3⟩
def NaP (b:List Bd) (os:LD) (x:Tm):Prop:=CF 45 [fA,.agg x.cells] (oP (bdL b) os) fun r ob=>r= .agg (x.ap b).cells/\ob=oP (bdL b) os
theorem Zk3 (b:List Bd) (os:LD) (l:List Tm) (hl:l.length<=1000) (H: ∀ x∈l,NaP b os x): ∀ (m i:Nat),l.length-i=m->i<=l.length →
  At Tryz.prog 3 (cut sc85 0) (hdNA (bdL b) os (Tm.cellsL l) (Tm.cellsL ((l.take i).map (Tm.ap b))) l.length i) (FinQ false 3 rs85 fun r ob=>r= .vec 3/\ob=oP (bdL b) os++[(3,.arr true 4 35 (Tm.cellsL (l.map (Tm.ap b))))]):=by
 intro m
 induction m with
 | zero =>
  intro i hm hi
  refine At.tree Z5 (Zaj (bdL b) os (Tm.cellsL l) (Tm.cellsL ((l.take i).map (Tm.ap b))) l.length i 0 0 [] [] 0 0 [] []) ?_
  rw[List.take_of_length_le (show l.length<=i by omega)]
  simp only[SS]
  exact⟨fun h=>by omega,fun _=>by first | rfl | exact⟨rfl,rfl⟩ | trivial⟩
 | succ m ih =>
  intro i hm hi
  have h1:i<l.length:=by omega
  have hx:=Zg h1
  have hC:=H _ (List.getElem_mem h1)
  have hI:=ih (i+1) (by omega) (by omega)
  have ht:Tm.cellsL ((l.take (i+1)).map (Tm.ap b))=Tm.cellsL ((l.take i).map (Tm.ap b))++[(l[i].ap b).cells]:=by
   rw[List.take_add_one,List.getElem?_eq_getElem h1,List.map_append,ZH]; rfl
  rw[ht] at hI
  unfold NaP at hC
  generalize Tm.ap b l[i]=y at hC hI
  generalize l[i]=x at hx hC
  obtain⟨kx,nx,sx,ax⟩:=x
  obtain⟨ky,ny,sy,ay⟩:=y
  refine At.tree Z5 (Zaj (bdL b) os (Tm.cellsL l) (Tm.cellsL ((l.take i).map (Tm.ap b))) l.length i kx nx sx (Tm.cellsL ax) ky ny sy (Tm.cellsL ay)) ?_
  simp only[SS,Z1,List.length_take,List.length_map]
  exact⟨fun _=>⟨⟨by omega,hx⟩,hC,⟨by simp[Zc],by omega⟩,by omega,hI⟩,fun h=>by omega⟩
theorem ZcO (b:List Bd) (os:LD) (hbl:b.length<=1000000) (hs:srtB b) (hb: ∀ x∈b,x.v.few 1000): ∀ x:Tm,x.few 1000->NaP b os x
 | .mk k n s l,hx=>by
  simp only[Tm.few] at hx
  obtain⟨hl,hw⟩:=hx
  have hA:=Zk3 b os l hl (fun x hx=>ZcO b os hbl hs hb x (ZL.1 hw x hx)) _ 0 rfl (Nat.zero_le _)
  have hS:CF 85 [fA,.slice (Tm.cellsL l) []] (oP (bdL b) os) fun r ob=>r= .slice (Tm.cellsL (l.map (Tm.ap b))) []/\ob=oP (bdL b) os:=by
   refine CallL.vecR (ob0:=oP (bdL b) os) (k:=3) (sz:=4) (e:=35) rfl ?_
   refine CallL.tree Z4 fp85 Z5 (Zmu (bdL b) os (Tm.cellsL l)) ?_
   rw[Z9,Z1]
   exact hA
  have h1:=Zk8 b os hbl hs (.mk k n s l)
  unfold NaP
  rw[Tm.ap,Z3X,apK]
  have hno:(if k=3 then getB b s else none)=none->CF 45 [fA,.agg (Tm.mk k n s l).cells] (oP (bdL b) os) fun r ob=>r= .agg (Tm.mk k n s (l.map (Tm.ap b))).cells/\ob=oP (bdL b) os:=fun h=>by
   simp only[h] at h1
   refine CallL.tree Z4 fp45 Z5 (Zde (bdL b) os k n s (Tm.cellsL l) (Tm.cellsL (l.map (Tm.ap b))) 0 0 [] [] false) ?_
   exact⟨h1,hS,rfl,rfl⟩
  by_cases h3:k=3
  ·rw[if_pos h3]
   cases hq:getB b s with
   | none=>exact hno (by rw[if_pos h3]; exact hq)
   | some v =>
    simp only[if_pos h3,hq] at h1
    have hc:=Z5f v (hb _ (Qb hq))
    obtain⟨kv,nv,sv,av⟩:=v
    refine CallL.tree Z4 fp45 Z5 (Zde (bdL b) os k n s (Tm.cellsL l) [] kv nv sv (Tm.cellsL av) true) ?_
    exact⟨h1,hc,rfl,rfl⟩
  ·rw[if_neg h3]
   exact hno (if_neg h3)
termination_by x=>SizeOf.sizeOf x
decreasing_by
 have:=List.sizeOf_lt_of_mem hx
 simp only[Tm.mk.sizeOf_spec]
 omega
theorem Zk4 (l:List Bd) (os:LD) (hl:l.length<=1000000) (hf: ∀ x∈l,x.v.few 1000): ∀ (m i:Nat),l.length-i=m->i<=l.length →
  At Tryz.prog 2 (cut sc52 0) (hdNR (bdL l) os (bdL (l.take i)) l.length i) (FinQ false 2 rs52 fun r ob=>r= .vec 2/\ob=oS (bdL l) os++[(2,.arr true 5 45 (bdL l))]):=by
 intro m
 induction m with
 | zero =>
  intro i hm hi
  refine At.tree Z5 (Zak (bdL l) os (bdL (l.take i)) l.length i [] 0 0 [] []) ?_
  rw[List.take_of_length_le (show l.length<=i by omega)]
  simp only[SS]
  exact⟨fun h=>by omega,fun _=>by first | rfl | exact⟨rfl,rfl⟩ | trivial⟩
 | succ m ih =>
  intro i hm hi
  have h1:i<l.length:=by omega
  have hx:=QG h1
  have hc:=Z5f l[i].v (hf _ (List.getElem_mem h1))
  have hI:=ih (i+1) (by omega) (by omega)
  have ht:bdL (l.take (i+1))=bdL (l.take i)++[l[i].c]:=by
   rw[List.take_add_one,List.getElem?_eq_getElem h1,Z9Y]; rfl
  rw[ht] at hI
  generalize l[i]=x at hx hc hI
  obtain⟨mx,⟨k,n,s,a⟩⟩:=x
  refine At.tree Z5 (Zak (bdL l) os (bdL (l.take i)) l.length i mx k n s (Tm.cellsL a)) ?_
  simp only[SS,Q6,List.length_take]
  exact⟨fun _=>⟨⟨by omega,hx⟩,hc,⟨by simp[Zc],by omega⟩,by omega,hI⟩,fun h=>by omega⟩
theorem Zft (l:List Bd) (os:LD) (hl:l.length<=1000000) (hf: ∀ x∈l,x.v.few 1000):CF 52 [.ptr 0 0] (oS (bdL l) os) fun r ob=>r= .slice (bdL l) []/\ob=oS (bdL l) os:=by
 refine CallL.vecR (ob0:=oS (bdL l) os) (k:=2) (sz:=5) (e:=45) rfl ?_
 refine CallL.tree Z4 fp52 Z5 (Zmv (bdL l) os) ?_
 rw[Z9,Q6]
 exact Zk4 l os hl hf _ 0 rfl (Nat.zero_le _)
theorem Za1:apyQ.OK:=by
 intro d xs ob rt h
 unfold apyQ at h
 split at h
 ·split at h
  ·rename_i hf
   obtain⟨hf,he⟩:=hf
   subst hf
   subst he
   cases h
   intro _
   exact CallL.tree Z4 fp84 Z5 (ZmG _ _) ⟨rfl,rfl⟩
  ·cases h
 ·cases h
end Go.Proofs.YtobgkdlghljdlaaGreatDoor
/- match.lists,Match,MatchAtom: trees. -/
namespace Go.Proofs.YtobgkdlghljdlaaGreatDoor
open Go.Sx
abbrev fC:D:= .func (.func 106) [] [.ptr 0 0]
def hdIf (d:D) (es:LD) (n i:Int) (ob:Obs):St:=⟨[(0,.slice es []),(1,d),(7,.int .i64 n),(8,.int .i64 i)],ob⟩
theorem Zhz (f:FuncId) (es:LD):gC (mCtr []) 0 Z4e Z2z [] [dL es [],dF f [] []] [] []=(Jm (cut Z2z 0) { tm:=[(0,dL es []),(1,dF f [] []),(7,dI (↑(List.length es):Int)),(8,dI (0:Int))],ob:=[] }:Tr):=by kernel_rfl
theorem Z72 (f:FuncId) (es:LD) (m:Int) (i:Nat) (k n:Int) (s:LU) (a:LD) (b:Bool):let A:=((↑i:Int)+(1:Int));let B:=cut Z2z 0;let C:=dF f [] [];let E:=tC k n s a;gH (mCtr [] [(14,tC k n s a)] [(16,dB b)]) 0 false Z4e B (hdIf C es m (↑i:Int) [])=(brT (decide ((↑i:Int)<m)) (Ow ((0:Int)<=(↑i:Int)/\es[Int.toNat (↑i:Int)]? = some E) (Ow (CallL Tryz.prog C [dA E] [] fun r0 o=>r0=dB b/\o=[]) (brT b (Rt (dI (↑i:Int)) []) (I8 A (Jm B { tm:=[(0,dL es []),(1,dF f [] []),(7,dI m),(8,dI A)],ob:=[] }))))) (Rt (dI (-1:Int)) []):Tr):=by intro A B C E;kernel_rfl
theorem ZhB (f:FuncId) (es:LD) (r:Int):let A:=[dL es [],dF f [] []];gC (mCtr [] [] [(7,dI r)]) 0 rs69 sc69 [] A [] []=(Ow (CF 103 A [] fun r0 o=>r0=dI r/\o=[]) (Rt (dB (decide ((0:Int)<=r))) []):Tr):=by intro A;kernel_rfl
theorem Zhy (k1 n1:Int) (s1:LU) (a1:LD) (k2 n2:Int) (s2:LU) (a2 es:LD):gC (mCtr []) 1 Z4e Z2z [] [dL es [],fC] [] [(0,oC (tC k1 n1 s1 a1++tC k2 n2 s2 a2))]=(Jm (cut Z2z 0) { tm:=[(0,dL es []),(1,dF 106 [] [dP 0 0]),(7,dI (↑(List.length es):Int)),(8,dI (0:Int))],ob:=[(0,oC [dU k1,dI n1,dS s1,dL a1 [],dU k2,dI n2,dS s2,dL a2 []])] }:Tr):=by kernel_rfl
theorem Z71 (k1 n1:Int) (s1:LU) (a1:LD) (k2 n2:Int) (s2:LU) (a2 es:LD) (m:Int) (i:Nat) (k n:Int) (s:LU) (a:LD) (b:Bool):let A:=[(0,oC [dU k1,dI n1,dS s1,dL a1 [],dU k2,dI n2,dS s2,dL a2 []])];let B:=((↑i:Int)+(1:Int));let C:=cut Z2z 0;let E:=tC k n s a;gH (mCtr [] [(14,tC k n s a)] [(16,dB b)]) 1 false Z4e C (hdIf fC es m (↑i:Int) [(0,oC (tC k1 n1 s1 a1++tC k2 n2 s2 a2))])=(brT (decide ((↑i:Int)<m)) (Ow ((0:Int)<=(↑i:Int)/\es[Int.toNat (↑i:Int)]? = some E) (Ow (CallL Tryz.prog (dF 106 [] [dP 0 0]) [dA E] A fun r0 o=>r0=dB b/\o=A) (brT b (Rt (dI (↑i:Int)) A) (I8 B (Jm C { tm:=[(0,dL es []),(1,dF 106 [] [dP 0 0]),(7,dI m),(8,dI B)],ob:=A }))))) (Rt (dI (-1:Int)) A):Tr):=by intro A B C E;kernel_rfl
theorem ZhA (k1 n1:Int) (s1:LU) (a1:LD) (k2 n2:Int) (s2:LU) (a2 es:LD) (r:Int):let A:=[(0,oC [dU k1,dI n1,dS s1,dL a1 [],dU k2,dI n2,dS s2,dL a2 []])];gC (mCtr [] [] [(7,dI r)]) 1 rs69 sc69 [] [dL es [],fC] [] [(0,oC (tC k1 n1 s1 a1++tC k2 n2 s2 a2))]=(Ow (CF 103 [dL es [],dF 106 [] [dP 0 0]] A fun r0 o=>r0=dI r/\o=A) (Rt (dB (decide ((0:Int)<=r))) A):Tr):=by intro A;kernel_rfl
theorem Zmz (k n:Int) (s:LU) (a:LD) (k' n':Int) (s':LU) (a':LD) (kv nv:Int) (sv:LU) (av:LD) (b:Bool):gC (mCtr [(7,dB b)]) 1 Zf8 Zes [] [dA (tC kv nv sv av)] [dP 0 0] [(0,oC (tC k n s a++tC k' n' s' a'))]=(Ow ((0:Int)<=(1:Int)/\(1:Int)<(2:Int)) (Ow (FK 27 [dA (tC kv nv sv av),dA (tC k' n' s' a')] (dB b)) (Rt (dB b) [(0,oC [dU k,dI n,dS s,dL a [],dU k',dI n',dS s',dL a' []])])):Tr):=by kernel_rfl
theorem Zmx (k n:Int) (s:LU) (a:LD) (b:Bool):let A:=[dA (tC k n s a)];gC (mCtr [(4,dB b)]) 0 rs67 sc67 [] A [] []=(Ow (FK 15 A (dB b)) (Rt (D.bool !b) []):Tr):=by intro A;kernel_rfl
theorem Zmw (k n:Int) (s:LU) (a:LD) (b:Bool):let A:=[dA (tC k n s a)];gC (mCtr [(4,dB b)]) 0 rs68 sc68 [] A [] []=(Ow (FK 16 A (dB b)) (Rt (D.bool !b) []):Tr):=by intro A;kernel_rfl
theorem Z4J (ps vs es:LD) (v c1 c2 o k:Bool) (es' os' out:LD):let A:=Rt (D.tuple [dL [] [],dB false]) [];let B:=oS es' os';let C:=[dP 0 0,dL ps [],dL vs []];let E:=[(0,oC [dL es [],D.nils])];gP (clC [(16,dB v)] [] [(21,dB c1),(26,dB c2),(37,dB k),(43,dL out [])] (extQ o es' os')) rs35 sc35 [dL ps [],dL vs [],dL es []]=(Ow (FK 13 [dL es []] (dB v)) (brT (!v) A (Ow (CF 69 [dL ps [],dF 67 [] []] [] fun r0 o=>r0=dB c1/\o=[]) (brT c1 A (Ow (CF 69 [dL vs [],dF 68 [] []] [] fun r0 o=>r0=dB c2/\o=[]) (brT c2 A (brT o (Ow (CF 70 C E fun r o=>r=dB true/\o=(oS2 es' os')) (Ow (CF 71 [dP 0 0] B fun r0 o=>r0=dB k/\o=B) (brT (!k) A (Ow (CF 52 [dP 0 0] B fun r0 o=>r0=dL out []/\o=B) (Rt (D.tuple [dL out [],dB true]) []))))) (Ow (CF 70 C E fun r o=>r=dB false/\o=[]) A))))))):Tr):=by intro A B C E;kernel_rfl
theorem Zdf (k n:Int) (s:LU) (a:LD) (kv nv:Int) (sv:LU) (av es out:LD) (b:Bool):let A:=[dL out [],dB b];let B:=tC kv nv sv av;let C:=tC k n s a;let E:=D.tuple A;gP (mCtr [(13,D.tuple A)]) rs12 sc12 [dA C,dA B,dL es []]=(Ow (FK 35 [dL [C] [],dL [B] [],dL es []] E) (Rt E []):Tr):=by intro A B C E;kernel_rfl
theorem Zal (ps:LU) (as':LD) (qs:LU) (bs es out:LD) (b:Bool):let A:=[dL out [],dB b];let B:=D.tuple A;gP (mCtr [(18,D.tuple A)]) rs10 sc10 [dA [dS ps,dL as' []],dA [dS qs,dL bs []],dL es []]=(brT (!decide (ps=qs)) (Rt (D.tuple [dL [] [],dB false]) []) (Ow (FK 35 [dL as' [],dL bs [],dL es []] B) (Rt B [])):Tr):=by intro A B;kernel_rfl
end Go.Proofs.YtobgkdlghljdlaaGreatDoor
