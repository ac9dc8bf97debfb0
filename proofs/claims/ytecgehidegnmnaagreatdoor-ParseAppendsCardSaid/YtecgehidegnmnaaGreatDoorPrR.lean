/- Own work: a layer over the kit: plain data,a walk over it,its soundness. -/
import Derived.Test.YtecgehidegnmnaaGreatDoorPrY
import Derived.Test.YtecgehidegnmnaaGreatDoorSx11
set_option linter.unusedSectionVars false
set_option linter.unusedVariables false
set_option linter.unusedSimpArgs false
set_option linter.deprecated false
set_option maxRecDepth 100000
/- The parser: run. -/
open Go.Sx.Ps (PR Zy zR ZU Zh Q9 Zz Z0d Z5P Za5 Z5p ZjE Zk)
open Go.Sx.Lx (ZJ Z4i)
namespace Go.Proofs.YtecgehidegnmnaaGreatDoor
open Go.Sx
open Go.Sx.Lx (Tk Zq)
open Go.Sx.Ps (kT nmT W Sm Ac)
def psZ (ts:List Tk) (i:Int) (so:Bool):Obs:=[(0,.cells [.slice (ts.map Zq) [],.int .i64 i,.nils,.nils,.nils,.bool so])]
theorem nil3 {f:FuncId} {ts:List Tk} {i:Int} {so:Bool} {R:D->Obs->Prop} (h:CallL Tryz.prog (.func (.func f) [] []) [.ptr 0 0] (psO ts i so [] [] []) R):CallL Tryz.prog (.func (.func f) [] []) [.ptr 0 0] (psZ ts i so) R:=by
 have h3:CallL Tryz.prog (.func (.func f) [] []) [.ptr 0 0] [(0,.cells [.slice (ts.map Zq) [],.int .i64 i,.vec 1,.vec 2,.nils,.bool so]),(1,.arr true 20 42 []),(2,.arr true 5 53 [])] R:=by
  refine CallL.nilG (m:=3) (i:=0) (j:=4) (sz:=2) (e:=138) (ob:=psO ts i so [] [] []) (cs:=[.slice (ts.map Zq) [],.int .i64 i,.vec 1,.vec 2,.vec 3,.bool so]) (by decide) rfl rfl (by decide) rfl rfl rfl rfl rfl ?_ ?_ ?_ h
  ·intro k x hk hx
   rcases k with _ | _ | _ | _ | _ | _ | k <;> simp at hx hk <;> (subst hx; rfl)
  ·intro k q1 q2; simp[psO,lk,q1,q2]
  ·intro k o q1 q2 hk
   simp only[psO,lk,if_neg q1,if_neg q2] at hk
   left
   split at hk
   ·cases hk; exact⟨_,_,_,rfl⟩
   ·split at hk
    ·cases hk; exact⟨_,_,_,rfl⟩
    ·cases hk
 have h2:CallL Tryz.prog (.func (.func f) [] []) [.ptr 0 0] [(0,.cells [.slice (ts.map Zq) [],.int .i64 i,.vec 1,.nils,.nils,.bool so]),(1,.arr true 20 42 [])] R:=by
  refine CallL.nilG (m:=2) (i:=0) (j:=3) (sz:=5) (e:=53) (cs:=[.slice (ts.map Zq) [],.int .i64 i,.vec 1,.vec 2,.nils,.bool so]) (by decide) rfl rfl (by decide) rfl rfl rfl rfl rfl ?_ ?_ ?_ h3
  ·intro k x hk hx
   rcases k with _ | _ | _ | _ | _ | _ | k <;> simp at hx hk <;> (subst hx; rfl)
  ·intro k q1 q2; simp[lk,q1,q2]
  ·intro k o q1 q2 hk
   simp only[lk,if_neg q1,if_neg q2] at hk
   left
   split at hk
   ·cases hk; exact⟨_,_,_,rfl⟩
   ·cases hk
 refine CallL.nilG (m:=1) (i:=0) (j:=2) (sz:=20) (e:=42) (cs:=[.slice (ts.map Zq) [],.int .i64 i,.vec 1,.nils,.nils,.bool so]) (by decide) rfl rfl (by decide) rfl rfl rfl rfl rfl ?_ ?_ ?_ h2
 ·intro k x hk hx
  rcases k with _ | _ | _ | _ | _ | _ | k <;> simp at hx hk <;> (subst hx; rfl)
 ·intro k q1 q2; simp[psZ,lk,q1,q2]
 ·intro k o q1 q2 hk
  simp only[lk,if_neg q1,if_neg q2] at hk
  cases hk
abbrev ac0:Ac:=⟨[],[],[],false⟩
def RClo {α:Type} (p:PS) (zs:List D) (os:α->Nat->Obs) (x:PR α):D->Obs->Prop:=fun r ob=>match x with
 | .ok a j=>r= .tuple []/\ob=os a j
 | .bad a e=>r= .pan (fltV a e)/\ob=[(0,.cells zs)]
def ruCs (r:Ru):List D:=[.int .u8 r.k,.slice (heL r.h) [],.int .u8 (kT r.lo:Nat),.int .i64 (nT r.lo),.str (nmT r.lo),.slice (Tm.cellsL (Ps.arT r.lo)) [],.int .u8 (kT r.up:Nat),.int .i64 (nT r.up),.str (nmT r.up),.slice (Tm.cellsL (Ps.arT r.up)) [],.slice (boL r.b) [],.int .u8 (kT r.w:Nat),.int .i64 (nT r.w),.str (nmT r.w),.slice (Tm.cellsL (Ps.arT r.w)) [],.int .u8 (kT r.lv:Nat),.int .i64 (nT r.lv),.str (nmT r.lv),.slice (Tm.cellsL (Ps.arT r.lv)) [],.slice (Tm.cellsL r.t) []]
def pgCs (b:Ac):List D:=[.slice (ruL b.r) [],.slice (coL b.c) [],.slice (shL b.s) [],.bool b.so]
theorem qRu1 (p:PS):CallL Tryz.prog (.func (.func 32) [] [.ptr 0 0]) [.ptr 1 0] (psCz zsR p.ts (0:Nat)) (RClo p zsR (fun r j=>psCr (ruCs r) p.ts (j:Nat) false [] [] []) (Zy p.ts 0)):=by
 have h:=nil3 (qRu (p.acc ac0) 0).1
 change CallL _ _ _ _ (RS _ _ (Zy p.ts 0)) at h
 refine CallL.tree Z7 fp32 (ZF Z3 fun _=>(Z2 _ _ _ _)) (Zhf p.ts (0:Nat) false  (Zy p.ts 0).isOk (((Zy p.ts 0).val zR).k:Nat) (heL ((Zy p.ts 0).val zR).h) (kT ((Zy p.ts 0).val zR).lo:Nat) (nT ((Zy p.ts 0).val zR).lo) (nmT ((Zy p.ts 0).val zR).lo) (Tm.cellsL (Ps.arT ((Zy p.ts 0).val zR).lo)) (kT ((Zy p.ts 0).val zR).up:Nat) (nT ((Zy p.ts 0).val zR).up) (nmT ((Zy p.ts 0).val zR).up) (Tm.cellsL (Ps.arT ((Zy p.ts 0).val zR).up)) (boL ((Zy p.ts 0).val zR).b) (kT ((Zy p.ts 0).val zR).w:Nat) (nT ((Zy p.ts 0).val zR).w) (nmT ((Zy p.ts 0).val zR).w) (Tm.cellsL (Ps.arT ((Zy p.ts 0).val zR).w)) (kT ((Zy p.ts 0).val zR).lv:Nat) (nT ((Zy p.ts 0).val zR).lv) (nmT ((Zy p.ts 0).val zR).lv) (Tm.cellsL (Ps.arT ((Zy p.ts 0).val zR).lv)) (Tm.cellsL ((Zy p.ts 0).val zR).t) (Zy p.ts 0).pos (flt (Zy p.ts 0)) [] [] []) ?_
 simp only[SS]
 refine psX zR h (fun t j h1=> ?_) fun a e h1=> ?_
 ·simp only[h1,PR.pos,PR.val]; exact⟨rfl,rfl⟩
 ·simp only[h1]; exact⟨rfl,rfl⟩
abbrev osP (p:PS) (b:Ac) (j:Nat):Obs:=psCr (pgCs b) p.ts (j:Nat) b.so (ruL b.r) (coL b.c) (shL b.s)
theorem qPgB (p:PS): ∀ (n:Nat) (a:Ac) (i:Nat),p.ts.length-i<n->At Tryz.prog 10 (cut sc29 0) (ZiO p.ts i a.so (ruL a.r) (coL a.c) (shL a.s)) (FinQ false 10 rs29 (RClo p zsP (osP p) (ZU p.ts n a i)))
 | 0,a,i,h=>by omega
 | n+1,a,i,h=>by
  have hq:=Zir p a i
  unfold ZU
  by_cases hi:i<p.ts.length
  ·rw[if_pos hi]
   cases hx:Zh p.ts a i with
   | ok b j =>
    rw[hx] at hq
    have hw:=Q9 (Sm.self p.ts) a i (.inr rfl)
    rw[show i+0=i from rfl,hx] at hw
    have hij:=hw.1
    refine At.tree (ZF Z3 fun _=>(Z2 _ _ _ _)) (Z6r p.ts i a.so b.so (ruL b.r) (coL b.c) (shL b.s) (PR.ok () j).isOk  (PR.ok () j).pos (flt (PR.ok () j)) (ruL a.r) (coL a.c) (shL a.s)) ?_
    simp only[SS,List.length_map]
    exact⟨fun _=>⟨fun _=>⟨hq,qPgB p n b j (by omega)⟩,nofun⟩,fun h=>by omega⟩
   | bad b e =>
    rw[hx] at hq
    refine At.tree (ZF Z3 fun _=>(Z2 _ _ _ _)) (Z6r p.ts i a.so false [] [] [] ((PR.bad b e:PR Unit)).isOk  ((PR.bad b e:PR Unit)).pos (flt ((PR.bad b e:PR Unit))) (ruL a.r) (coL a.c) (shL a.s)) ?_
    simp only[SS,List.length_map]
    exact⟨fun _=>⟨nofun,fun _=>⟨hq,rfl,rfl⟩⟩,fun h=>by omega⟩
  ·rw[if_neg hi]
   refine At.tree (ZF Z3 fun _=>(Z2 _ _ _ _)) (Z6r p.ts i a.so false [] [] [] (PR.ok () 0).isOk  (PR.ok () 0).pos (flt (PR.ok () 0)) (ruL a.r) (coL a.c) (shL a.s)) ?_
   simp only[SS,List.length_map]
   exact⟨fun h=>by omega,fun _=>⟨rfl,rfl⟩⟩
theorem qPg1 (p:PS) (hne:0<p.ts.length):CallL Tryz.prog (.func (.func 29) [] [.ptr 0 0]) [.ptr 1 0] (psCz zsP p.ts (0:Nat)) (RClo p zsP (osP p) (Zz p.ts)):=by
 refine CallL.tree Z7 fp29 (ZF Z3 fun _=>(Z2 _ _ _ _)) (Zbm p.ts (0:Nat) false  (PR.ok () 0).isOk  (PR.ok () 0).pos (flt (PR.ok () 0)) [] [] []) ?_
 have hq:=nil3 (Zir p ac0 0)
 show At Tryz.prog 10 (cut sc29 0) (Zgs p.ts (0:Nat)) _
 unfold Zz Ps.fu
 rw[ZU,if_pos hne]
 cases hx:Zh p.ts ac0 0 with
 | ok b j =>
  rw[hx] at hq
  have hw:=Q9 (Sm.self p.ts) ac0 0 (.inr rfl)
  rw[show 0+0=0 from rfl,hx] at hw
  have hij:=hw.1
  refine At.tree (ZF Z3 fun _=>(Z2 _ _ _ _)) (Z6s p.ts (0:Nat) false b.so (ruL b.r) (coL b.c) (shL b.s) (PR.ok () j).isOk  (PR.ok () j).pos (flt (PR.ok () j)) [] [] []) ?_
  simp only[SS,List.length_map]
  exact⟨fun _=>⟨fun _=>⟨hq,qPgB p p.ts.length b j (by omega)⟩,nofun⟩,fun h=>by omega⟩
 | bad b e =>
  rw[hx] at hq
  refine At.tree (ZF Z3 fun _=>(Z2 _ _ _ _)) (Z6s p.ts (0:Nat) false false [] [] [] ((PR.bad b e:PR Unit)).isOk  ((PR.bad b e:PR Unit)).pos (flt ((PR.bad b e:PR Unit))) [] [] []) ?_
  simp only[SS,List.length_map]
  exact⟨fun _=>⟨nofun,fun _=>⟨hq,rfl,rfl⟩⟩,fun h=>by omega⟩
theorem qPg0 (p:PS) (hne:p.ts=[]):CallL Tryz.prog (.func (.func 29) [] [.ptr 0 0]) [.ptr 1 0] (psCz zsP p.ts (0:Nat)) fun r ob=>r= .tuple []/\ob=psCz [.slice [] [],.slice [] [],.slice [] [],.bool false] p.ts (0:Nat):=by
 refine CallL.tree Z7 fp29 (ZF Z3 fun _=>(Z2 _ _ _ _)) (Zbm p.ts (0:Nat) false  (PR.ok () 0).isOk  (PR.ok () 0).pos (flt (PR.ok () 0)) [] [] []) ?_
 show At Tryz.prog 10 (cut sc29 0) (Zgs p.ts (0:Nat)) _
 refine At.tree (ZF Z3 fun _=>(Z2 _ _ _ _)) (Z6s p.ts (0:Nat) false false [] [] [] (PR.ok () 0).isOk  (PR.ok () 0).pos (flt (PR.ok () 0)) [] [] []) ?_
 simp only[SS,List.length_map,hne,List.length_nil]
 refine⟨fun h=>by omega,fun _=> ?_⟩
 first | exact rfl | exact⟨rfl,rfl⟩
/- run. -/
theorem fnD:FnC Tryz.prog 53 27 (.seq (.spec (.rcv 7 (rcvO sc53))) (rcvB sc53)) []:=fp53.1
theorem ZaQ (src:LU) (a e:Int) (ts:List Tk):Sx.CallD Tryz.prog .returning (.func (.func 53) [] [.ptr 0 0,.ptr 1 0,.ptr 2 0,.ptr 3 0]) (obR src a e ts) fun u o=>u= .returning/\o=obR src a e ts :=
 CallD.tree Z7 fnD (first:=[]) (Z8 Z3 Z5) (Zkq src a e ts) ⟨rfl,rfl⟩
theorem Z7x (src:LU) (a e:Int) (ts:List Tk) (f:Nat) (fe:Int):Sx.CallD Tryz.prog (.panicking [⟨fltV f fe,false,false⟩]) (.func (.func 53) [] [.ptr 0 0,.ptr 1 0,.ptr 2 0,.ptr 3 0]) (obR src a e ts) fun u o=>u= .panicking [⟨fltV f fe,true,false⟩]/\o=obR src (Z0d ts src.length f) fe ts:=by
 cases ht:ts[f]? with
 | some t =>
  have hlt:f<ts.length:=(List.getElem?_eq_some_iff.1 ht).1
  refine CallD.tree Z7 fnD (first:=[]) (Z8 Z3 Z5) (Zec src a e ts f fe t.1 t.2.2 t.2.1) ?_
  unfold CdP Z0d
  rw[ht]
  simp only[SS,List.length_map]
  refine⟨fun _=>⟨⟨by omega, ?_⟩,rfl,rfl⟩,fun h=>by omega⟩
  rw[List.getElem?_map,ht]; rfl
 | none =>
  have hlt:ts.length<=f:=List.getElem?_eq_none_iff.1 ht
  refine CallD.tree Z7 fnD (first:=[]) (Z8 Z3 Z5) (Zec src a e ts f fe 0 0 []) ?_
  unfold CdP Z0d
  rw[ht]
  simp only[SS,List.length_map]
  exact⟨fun h=>by omega,fun _=>⟨rfl,rfl⟩⟩
def RRun {α:Type} (src:LU) (ts:List Tk) (zs:List D) (cs:α->List D) (x:PR α):D->Obs->Prop:=fun r ob=>match x with
 | .ok a j=>(r=if j<ts.length then .tuple [.int .i64 (Z0d ts src.length j),.int .i64 40] else .tuple [.int .i64 0,.int .i64 0])/\ob=[(0,.cells (cs a))]
 | .bad a e=>r= .tuple [.int .i64 (Z0d ts src.length a),.int .i64 e]/\ob=[(0,.cells zs)]
theorem Z6Q {b:Bool} {r:D} {o' op:Obs} {v v2:Value}:(⟨fun _=>libT,fun n=>if n=25 then psP b r o' v op else psB false .undef [] v2,noE⟩:Ctr).OK Tryz.prog:=ZF Z3 fun _=>Z4 (ZiD _ _ _ _ _) (Z2 _ _ _ _)
theorem Z61 {src:LU} (h:(ZJ src).2.2=0):(ZJ src).1=(Lx.run 0 src).1/\src.length<=32768/\(Lx.run 0 src).2.1=none/\(ZJ src).2.1=0:=by
 rw[Lx.Z2X] at h ⊢
 split at h
 ·cases h
 ·rename_i hl
  rw[if_neg hl]
  have he:=Lx.Z4j (src.length+1) src 0 (Nat.lt_succ_self _)
  generalize Lx.run 0 src=q at h he ⊢
  obtain⟨l,o,n⟩:=q
  cases o with
  | none=>exact⟨rfl,by omega,rfl,rfl⟩
  | some x =>
   obtain⟨a,e⟩:=x
   have:=(he a e rfl).1
   exact absurd h this
theorem Zgm {src:LU} (h:(ZJ src).2.2=0):(ZJ src).1.length<=1000000000:=by
 obtain⟨h1,h2,_⟩:=Z61 h
 have:=(Z4i (src.length+1) src 0 (Nat.lt_succ_self _)).1
 rw[h1]; omega
theorem Zgl {src:LU} (h:(ZJ src).2.2=0): ∀ t∈(ZJ src).1,t.2.1.length<=1000000000:=by
 obtain⟨h1,h2,_⟩:=Z61 h
 intro t ht
 rw[h1] at ht
 have:=(Z4i (src.length+1) src 0 (Nat.lt_succ_self _)).2 t ht
 omega
theorem Zgk {src:LU} (h:(ZJ src).2.2=0):Ps.Z4D (ZJ src).1:=by
 obtain⟨h1,_⟩:=Z61 h
 rw[h1]
 exact Lx.Z9i (src.length+1) src 0 (Nat.lt_succ_self _)
def lexS (src:LU) (h:(ZJ src).2.2=0):PS:=⟨(ZJ src).1,false,[],[],[],Zgm h,Zgl h,Zgk h⟩
theorem Zfq (p:PS) (src:LU) (a:Int) (x:PR Ru) (hc:CallL Tryz.prog (.func (.func 32) [] [.ptr 0 0]) [.ptr 1 0] (psCz zsR p.ts (0:Nat)) (RClo p zsR (fun r j=>psCr (ruCs r) p.ts (j:Nat) false [] [] []) x)) (hL:FK 11 [.str src] (.tuple [.slice (p.ts.map Zq) [],.int .i64 a,.int .i64 0])) :
  CF 28 [.str src,.func (.func 32) [] [.ptr 0 0]] [(0,.cells zsR)] (RRun src p.ts zsR ruCs x):=by
 refine CallL.treeD Z7 fp28 (Z8 (ZP _) Z5) (Ze5 src 32 (p.ts.map Zq) a 0) ?_
 rw[Qh,Z07]
 refine⟨hL,fun h=>by simp at h,fun _=> ?_⟩
 rw[Z0Y]
 refine KDef.at (k2:=20) 53 _ _ rfl (by kernel_rfl) (Nat.le_of_ble_eq_true rfl) (by decide) (Nat.le_of_ble_eq_true rfl) ?_
 cases x with
 | ok t j =>
  refine At.treeD Z6Q (Zb8 src 32 p.ts a 0 (Z0d p.ts src.length j) 40 (t.k:Nat) (heL t.h) (kT t.lo:Nat) (nT t.lo) (nmT t.lo) (Tm.cellsL (Ps.arT t.lo)) (kT t.up:Nat) (nT t.up) (nmT t.up) (Tm.cellsL (Ps.arT t.up)) (boL t.b) (kT t.w:Nat) (nT t.w) (nmT t.w) (Tm.cellsL (Ps.arT t.w)) (kT t.lv:Nat) (nT t.lv) (nmT t.lv) (Tm.cellsL (Ps.arT t.lv)) (Tm.cellsL t.t) true Go.undef (fltV j 40) j false [] [] []) ?_
  simp only[SS,List.length_map]
  refine⟨⟨hc,fun h=> ?_,fun h=> ?_⟩,nofun⟩
  ·refine⟨QQ (p.acc ac0) j 40,Z7x src a 0 p.ts j 40, ?_⟩
   show _/\_
   rw[if_pos (show j<p.ts.length by omega)]
   exact⟨rfl,rfl⟩
  ·refine⟨ZaQ src 0 0 p.ts, ?_⟩
   show _/\_
   rw[if_neg (show ¬ j<p.ts.length by omega)]
   exact⟨rfl,rfl⟩
 | bad b e =>
  refine At.treeD Z6Q (Zb8 src 32 p.ts a 0 (Z0d p.ts src.length b) e 0 [] 0 0 [] [] 0 0 [] [] [] 0 0 [] [] 0 0 [] [] [] false (fltV b e) Go.undef 0 false [] [] []) ?_
  simp only[SS,List.length_map]
  exact⟨nofun,hc,Z7x src a 0 p.ts b e,rfl,rfl⟩
theorem Zfr (p:PS) (src:LU) (a:Int) (x:PR Ac) (hc:CallL Tryz.prog (.func (.func 29) [] [.ptr 0 0]) [.ptr 1 0] (psCz zsP p.ts (0:Nat)) (RClo p zsP (osP p) x)) (hL:FK 11 [.str src] (.tuple [.slice (p.ts.map Zq) [],.int .i64 a,.int .i64 0])) :
  CF 28 [.str src,.func (.func 29) [] [.ptr 0 0]] [(0,.cells zsP)] (RRun src p.ts zsP pgCs x):=by
 refine CallL.treeD Z7 fp28 (Z8 (ZP _) Z5) (Zb7 src 29 (p.ts.map Zq) a 0) ?_
 rw[Qh,Z07]
 refine⟨hL,fun h=>by simp at h,fun _=> ?_⟩
 rw[Z0Y]
 refine KDef.at (k2:=20) 53 _ _ rfl (by kernel_rfl) (Nat.le_of_ble_eq_true rfl) (by decide) (Nat.le_of_ble_eq_true rfl) ?_
 cases x with
 | ok t j =>
  refine At.treeD Z6Q (Zb9 src 29 p.ts a 0 (Z0d p.ts src.length j) 40 (ruL t.r) (coL t.c) (shL t.s) t.so true Go.undef (fltV j 40) j t.so (ruL t.r) (coL t.c) (shL t.s)) ?_
  simp only[SS,List.length_map]
  refine⟨⟨hc,fun h=> ?_,fun h=> ?_⟩,nofun⟩
  ·refine⟨QQ (p.acc t) j 40,Z7x src a 0 p.ts j 40, ?_⟩
   show _/\_
   rw[if_pos (show j<p.ts.length by omega)]
   exact⟨rfl,rfl⟩
  ·refine⟨ZaQ src 0 0 p.ts, ?_⟩
   show _/\_
   rw[if_neg (show ¬ j<p.ts.length by omega)]
   exact⟨rfl,rfl⟩
 | bad b e =>
  refine At.treeD Z6Q (Zb9 src 29 p.ts a 0 (Z0d p.ts src.length b) e [] [] [] false false (fltV b e) Go.undef 0 false [] [] []) ?_
  simp only[SS,List.length_map]
  exact⟨nofun,hc,Z7x src a 0 p.ts b e,rfl,rfl⟩
theorem Zfs (p:PS) (hne:p.ts=[]) (src:LU) (a:Int) (hL:FK 11 [.str src] (.tuple [.slice (p.ts.map Zq) [],.int .i64 a,.int .i64 0])) :
  CF 28 [.str src,.func (.func 29) [] [.ptr 0 0]] [(0,.cells zsP)] (RRun src p.ts zsP pgCs (Zz p.ts)):=by
 refine CallL.treeD Z7 fp28 (Z8 (ZP _) Z5) (Zb7 src 29 (p.ts.map Zq) a 0) ?_
 rw[Qh,Z07]
 refine⟨hL,fun h=>by simp at h,fun _=> ?_⟩
 rw[Z0Y]
 refine KDef.at (k2:=20) 53 _ _ rfl (by kernel_rfl) (Nat.le_of_ble_eq_true rfl) (by decide) (Nat.le_of_ble_eq_true rfl) ?_
 refine At.treeD (ZF Z3 fun _=>Z4 (Zi _ _) Z5) (Zh4 src 29 p.ts a 0) ?_
 have hc:=qPg0 p hne
 simp only[SS,List.length_map]
 refine⟨hc,fun h=>by rw[hne] at h; simp at h,fun _=>⟨ZaQ src 0 0 p.ts, ?_⟩⟩
 rw[hne]
 exact⟨rfl,rfl⟩
end Go.Proofs.YtecgehidegnmnaaGreatDoor
/- Parse,Rule,Term. -/
namespace Go.Proofs.YtecgehidegnmnaaGreatDoor
open Go.Sx
open Go.Sx.Lx (Tk Zq)
open Go.Sx.Ps (kT nmT W Sm Ac)
theorem Ze7 (src:LU) (a e rkz:Int) (rhz:LD) (kza nza:Int) (sza:LU) (lza:LD) (kzb nzb:Int) (szb:LU) (lzb rbz:LD) (kzc nzc:Int) (szc:LU) (lzc:LD) (kzd nzd:Int) (szd:LU) (lzd rtz:LD):let A:=[dU rkz,dL rhz [],dU kza,dI nza,dS sza,dL lza [],dU kzb,dI nzb,dS szb,dL lzb [],dL rbz [],dU kzc,dI nzc,dS szc,dL lzc [],dU kzd,dI nzd,dS szd,dL lzd [],dL rtz []];let B:=D.tuple [dI a,dI e];gP (ctr libT (psQ B [(0,oC A)])) rs12 sc12 [dS src]=(Ow (CQ 28 [dS src,dF 32 [] [dP 0 0]] [(0,oC [dU 0,D.nils,dU 0,dI 0,dS [],D.nils,dU 0,dI 0,dS [],D.nils,D.nils,dU 0,dI 0,dS [],D.nils,dU 0,dI 0,dS [],D.nils,D.nils])] B [(0,oC A)]) (brT (!decide (e=(0:Int))) (Rt (D.tuple [dA [dU 0,dL [] [],dU 0,dI 0,dS [],dL [] [],dU 0,dI 0,dS [],dL [] [],dL [] [],dU 0,dI 0,dS [],dL [] [],dU 0,dI 0,dS [],dL [] [],dL [] []],dI a,dI e]) []) (Rt (D.tuple [dA A,dI a,dI e]) [])):Tr):=by intro A B;kernel_rfl
theorem Zbp (src:LU) (a e:Int):let A:=Rt (D.tuple [dA [dU 0,dL [] [],dU 0,dI 0,dS [],dL [] [],dU 0,dI 0,dS [],dL [] [],dL [] [],dU 0,dI 0,dS [],dL [] [],dU 0,dI 0,dS [],dL [] [],dL [] []],dI a,dI e]) [];let B:=[(0,oC [dU 0,D.nils,dU 0,dI 0,dS [],D.nils,dU 0,dI 0,dS [],D.nils,D.nils,dU 0,dI 0,dS [],D.nils,dU 0,dI 0,dS [],D.nils,D.nils])];let C:=D.tuple [dI a,dI e];gP (ctr libT (psQ C [(0,oC zsR)])) rs12 sc12 [dS src]=(Ow (CQ 28 [dS src,dF 32 [] [dP 0 0]] B C B) (brT (!decide (e=(0:Int))) A A):Tr):=by intro A B C;kernel_rfl
theorem Zka (src:LU) (a e:Int) (l1 l2 l3:LD) (cb:Bool):let A:=[dL l1 [],dL l2 [],dL l3 [],dB cb];let B:=D.tuple [dI a,dI e];gP (ctr libT (psQ B [(0,oC A)])) rs9 sc9 [dS src]=(Ow (CQ 28 [dS src,dF 29 [] [dP 0 0]] [(0,oC [D.nils,D.nils,D.nils,dB false])] B [(0,oC A)]) (Rt (D.tuple [dA A,dI a,dI e]) []):Tr):=by intro A B;kernel_rfl
theorem Zbq (src:LU) (a e:Int):let A:=[(0,oC [D.nils,D.nils,D.nils,dB false])];let B:=D.tuple [dI a,dI e];gP (ctr libT (psQ B [(0,oC zsP)])) rs9 sc9 [dS src]=(Ow (CQ 28 [dS src,dF 29 [] [dP 0 0]] A B A) (Rt (D.tuple [dA [dL [] [],dL [] [],dL [] [],dB false],dI a,dI e]) []):Tr):=by intro A B;kernel_rfl
end Go.Proofs.YtecgehidegnmnaaGreatDoor
/- Parse,Rule,Term: what they answer. -/
namespace Go.Proofs.YtecgehidegnmnaaGreatDoor
open Go.Sx
open Go.Sx.Lx (Tk Zq)
open Go.Sx.Ps (kT nmT W Sm Ac)
theorem lexF (src:LU) (h:(ZJ src).2.2=0):FK 11 [.str src] (.tuple [.slice ((lexS src h).ts.map Zq) [],.int .i64 (ZJ src).2.1,.int .i64 0]):=by
 have:=Za6 src
 rw[h] at this
 exact this
theorem ZbZ (src:LU) (g:Nat) (h:(ZJ src).2.2≠0):CF 28 [.str src,.func (.func g) [] [.ptr 0 0]] [(0,.cells zsR)] fun r ob=>r= .tuple [.int .i64 (ZJ src).2.1,.int .i64 (ZJ src).2.2]/\ob=[(0,.cells zsR)]:=by
 refine CallL.treeD Z7 fp28 (Z8 (ZP _) Z5) (Ze5 src g ((ZJ src).1.map Zq) (ZJ src).2.1 (ZJ src).2.2) ?_
 rw[Qh,Z07]
 exact⟨Za6 src,fun _=>⟨rfl,rfl⟩,fun h'=>absurd (by simpa using h') h⟩
theorem Z4v (src:LU):FK 12 [.str src] (.tuple [ruE (Z5P src).1,.int .i64 (Z5P src).2.1,.int .i64 (Z5P src).2.2]):=by
 unfold Z5P Za5
 by_cases hl:(ZJ src).2.2=0
 ·rw[if_pos hl]
  have hr:=Zfq (lexS src hl) src (ZJ src).2.1 _ (qRu1 (lexS src hl)) (lexF src hl)
  change CallL _ _ _ _ (RRun src (ZJ src).1 zsR ruCs (Zy (ZJ src).1 0)) at hr
  show FnOK _ _ _ (.tuple [ruE (Z5p (ZJ src).1 src zR (Zy (ZJ src).1 0)).1,.int .i64 (Z5p (ZJ src).1 src zR (Zy (ZJ src).1 0)).2.1,.int .i64 (Z5p (ZJ src).1 src zR (Zy (ZJ src).1 0)).2.2])
  have hw:=(Ps.Z8A (Sm.self (ZJ src).1) 0).w
  rw[show (0:Nat)+0=0 from rfl] at hw
  generalize Zy (ZJ src).1 0=x at hr hw
  cases x with
  | ok t j =>
   unfold RRun at hr
   simp only at hr
   unfold Z5p ZjE
   simp only[PR.bind]
   by_cases hj:j<(ZJ src).1.length
   ·rw[if_pos hj] at hr ⊢
    refine FnOK.tree Z7 fp12 (Z8 Z3 (Zi _ _)) (Ze7 src (Z0d (ZJ src).1 src.length j) 40 (t.k:Nat) (heL t.h) (kT t.lo:Nat) (nT t.lo) (nmT t.lo) (Tm.cellsL (Ps.arT t.lo)) (kT t.up:Nat) (nT t.up) (nmT t.up) (Tm.cellsL (Ps.arT t.up)) (boL t.b) (kT t.w:Nat) (nT t.w) (nmT t.w) (Tm.cellsL (Ps.arT t.w)) (kT t.lv:Nat) (nT t.lv) (nmT t.lv) (Tm.cellsL (Ps.arT t.lv)) (Tm.cellsL t.t)) ?_
    simp only[SS]
    exact⟨hr,fun _=>rfl,fun h=>absurd h (by decide)⟩
   ·rw[if_neg hj] at hr ⊢
    refine FnOK.tree Z7 fp12 (Z8 Z3 (Zi _ _)) (Ze7 src 0 0 (t.k:Nat) (heL t.h) (kT t.lo:Nat) (nT t.lo) (nmT t.lo) (Tm.cellsL (Ps.arT t.lo)) (kT t.up:Nat) (nT t.up) (nmT t.up) (Tm.cellsL (Ps.arT t.up)) (boL t.b) (kT t.w:Nat) (nT t.w) (nmT t.w) (Tm.cellsL (Ps.arT t.w)) (kT t.lv:Nat) (nT t.lv) (nmT t.lv) (Tm.cellsL (Ps.arT t.lv)) (Tm.cellsL t.t)) ?_
    simp only[SS]
    refine⟨hr, ?_⟩
    first | exact fun h=>absurd trivial h | exact⟨fun h=>absurd trivial h,fun _=>rfl⟩ | exact⟨fun h=>absurd trivial h,rfl⟩
  | bad b e =>
   have he:e≠0:=hw.1
   refine FnOK.tree Z7 fp12 (Z8 Z3 (Zi _ _)) (Zbp src (Z0d (ZJ src).1 src.length b) e) ?_
   simp only[SS]
   exact⟨hr,fun _=>rfl,fun h=>absurd h he⟩
 ·rw[if_neg hl]
  refine FnOK.tree Z7 fp12 (Z8 Z3 (Zi _ _)) (Zbp src (ZJ src).2.1 (ZJ src).2.2) ?_
  simp only[SS]
  exact⟨ZbZ src _ hl,fun _=>rfl,fun h=>absurd h hl⟩
theorem Zc0 (src:LU) (g:Nat) (h:(ZJ src).2.2≠0):CF 28 [.str src,.func (.func g) [] [.ptr 0 0]] [(0,.cells zsP)] fun r ob=>r= .tuple [.int .i64 (ZJ src).2.1,.int .i64 (ZJ src).2.2]/\ob=[(0,.cells zsP)]:=by
 refine CallL.treeD Z7 fp28 (Z8 (ZP _) Z5) (Zb7 src g ((ZJ src).1.map Zq) (ZJ src).2.1 (ZJ src).2.2) ?_
 rw[Qh,Z07]
 exact⟨Za6 src,fun _=>⟨rfl,rfl⟩,fun h'=>absurd (by simpa using h') h⟩
theorem Z4w (src:LU):FK 9 [.str src] (.tuple [.agg (pgCs (Zk src).1),.int .i64 (Zk src).2.1,.int .i64 (Zk src).2.2]):=by
 unfold Zk Za5
 by_cases hl:(ZJ src).2.2=0
 ·rw[if_pos hl]
  have hr:CF 28 [.str src,.func (.func 29) [] [.ptr 0 0]] [(0,.cells zsP)] (RRun src (ZJ src).1 zsP pgCs (Zz (ZJ src).1)):=by
   by_cases hn:(ZJ src).1=[]
   ·exact Zfs (lexS src hl) hn src _ (lexF src hl)
   ·exact Zfr (lexS src hl) src (ZJ src).2.1 _ (qPg1 (lexS src hl) (List.length_pos_iff.2 hn)) (lexF src hl)
  have hend: ∀ b j,Zz (ZJ src).1= .ok b j-> ¬ j<(ZJ src).1.length:=fun b j h=>Ps.Z4l _ _ _ _ _ h
  generalize Zz (ZJ src).1=x at hr hend
  cases x with
  | ok t j =>
   have hj:=hend t j rfl
   unfold RRun at hr
   simp only at hr
   unfold Z5p ZjE
   simp only[PR.bind]
   rw[if_neg hj] at hr ⊢
   refine FnOK.tree Z7 fp9 (Z8 Z3 (Zi _ _)) (Zka src 0 0 (ruL t.r) (coL t.c) (shL t.s) t.so) ?_
   simp only[SS]
   exact⟨hr,rfl⟩
  | bad b e =>
   refine FnOK.tree Z7 fp9 (Z8 Z3 (Zi _ _)) (Zbq src (Z0d (ZJ src).1 src.length b) e) ?_
   simp only[SS]
   exact⟨hr,rfl⟩
 ·rw[if_neg hl]
  refine FnOK.tree Z7 fp9 (Z8 Z3 (Zi _ _)) (Zbq src (ZJ src).2.1 (ZJ src).2.2) ?_
  simp only[SS]
  exact⟨Zc0 src _ hl,rfl⟩
end Go.Proofs.YtecgehidegnmnaaGreatDoor
/- awake,run: true. -/
namespace Go.Proofs.YtecgehidegnmnaaGreatDoor
open Go.Sx
set_option maxRecDepth 100000
def awF (f:FuncId) (xs:List D):Option D :=
 if f=9 then match xs with
  | [.str s]=>some (.tuple [.agg (pgCs (Zk s).1),.int .i64 (Zk s).2.1,.int .i64 (Zk s).2.2])
  | _=>none
 else if f=12 then match xs with
  | [.str s]=>some (.tuple [ruE (Z5P s).1,.int .i64 (Z5P s).2.1,.int .i64 (Z5P s).2.2])
  | _=>none
 else libF f xs
theorem ZjO: ∀ f xs r,awF f xs=some r->FK f xs r:=by
 intro f xs r h
 unfold awF at h
 split at h
 ·rename_i hf
  subst hf
  split at h
  ·cases h; exact Z4w _
  ·cases h
 split at h
 ·rename_i hf
  subst hf
  split at h
  ·cases h; exact Z4v _
  ·cases h
 ·exact Z11 _ _ _ h
def awT (f:FuncId):Option (Nat × SC × List SR):=if f=27 then some (33,Zi0,Zim) else lk tabL f
def ZgT:Tab:=⟨awT,fun _ _ _=>none,awF⟩
theorem ZjN: ∀ f N sc rs,awT f=some (N,sc,rs)->FnC Tryz.prog f N sc rs/\QE Tryz.prog f=true:=by
 intro f N sc rs h
 unfold awT at h
 split at h
 ·rename_i hf
  subst hf
  cases h
  exact Zl9
 ·exact Z8W.T _ _ _ _ h
theorem ZcP:ZgT.OK Tryz.prog:=⟨ZjN,(fun _ _ _ _ _ h=>by cases h),ZjO⟩
theorem ZaZ:fnE ZgT (go Tryz.prog ZgT 20000) 8 []=some (.bool true):=by kernel_rfl
theorem ZcO:FK 8 [] (.bool true):=Zak Z7 ZcP _ ZaZ
end Go.Proofs.YtecgehidegnmnaaGreatDoor
