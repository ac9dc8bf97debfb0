/- Own work: a layer over the kit: plain data,a walk over it,its soundness. -/
import Derived.Test.YtecgehidegnmnaaGreatDoorPrY
import Derived.Test.YtecgehidegnmnaaGreatDoorSx11
set_option linter.unusedSectionVars false
set_option linter.unusedVariables false
set_option linter.unusedSimpArgs false
set_option linter.deprecated false
set_option maxRecDepth 100000
/- The parser: run. -/
namespace Go.Proofs.YtecgehidegnmnaaGreatDoor
open Go.Sx
open Go.Sx.Lx (Tk tokC)
open Go.Sx.Ps (kT nmT W Sm Ac)
def psZ (ts:List Tk) (i:Int) (so:Bool):Obs:=[(0,.cells [.slice (ts.map tokC) [],.int .i64 i,.nils,.nils,.nils,.bool so])]
theorem nil3 {f:FuncId} {ts:List Tk} {i:Int} {so:Bool} {R:D->Obs->Prop} (h:CallL Tryz.prog (.func (.func f) [] []) [.ptr 0 0] (psO ts i so [] [] []) R):CallL Tryz.prog (.func (.func f) [] []) [.ptr 0 0] (psZ ts i so) R:=by
 have h3:CallL Tryz.prog (.func (.func f) [] []) [.ptr 0 0] [(0,.cells [.slice (ts.map tokC) [],.int .i64 i,.vec 1,.vec 2,.nils,.bool so]),(1,.arr true 20 42 []),(2,.arr true 5 53 [])] R:=by
  refine CallL.nilG (m:=3) (i:=0) (j:=4) (sz:=2) (e:=138) (ob:=psO ts i so [] [] []) (cs:=[.slice (ts.map tokC) [],.int .i64 i,.vec 1,.vec 2,.vec 3,.bool so]) (by decide) rfl rfl (by decide) rfl rfl rfl rfl rfl ?_ ?_ ?_ h
  ·intro k x hk hx
   rcases k with _ | _ | _ | _ | _ | _ | k <;> simp at hx hk <;> (subst hx; rfl)
  ·intro k q1 q2; simp[psO,lk,q1,q2]
  ·intro k o q1 q2 hk
   simp only[psO,lk,if_neg q1,if_neg q2] at hk
   left
   split at hk
   ·cases hk; exact⟨_,_,_,rfl⟩
   ·split at hk
    ·cases hk; exact⟨_,_,_,rfl⟩
    ·cases hk
 have h2:CallL Tryz.prog (.func (.func f) [] []) [.ptr 0 0] [(0,.cells [.slice (ts.map tokC) [],.int .i64 i,.vec 1,.nils,.nils,.bool so]),(1,.arr true 20 42 [])] R:=by
  refine CallL.nilG (m:=2) (i:=0) (j:=3) (sz:=5) (e:=53) (cs:=[.slice (ts.map tokC) [],.int .i64 i,.vec 1,.vec 2,.nils,.bool so]) (by decide) rfl rfl (by decide) rfl rfl rfl rfl rfl ?_ ?_ ?_ h3
  ·intro k x hk hx
   rcases k with _ | _ | _ | _ | _ | _ | k <;> simp at hx hk <;> (subst hx; rfl)
  ·intro k q1 q2; simp[lk,q1,q2]
  ·intro k o q1 q2 hk
   simp only[lk,if_neg q1,if_neg q2] at hk
   left
   split at hk
   ·cases hk; exact⟨_,_,_,rfl⟩
   ·cases hk
 refine CallL.nilG (m:=1) (i:=0) (j:=2) (sz:=20) (e:=42) (cs:=[.slice (ts.map tokC) [],.int .i64 i,.vec 1,.nils,.nils,.bool so]) (by decide) rfl rfl (by decide) rfl rfl rfl rfl rfl ?_ ?_ ?_ h2
 ·intro k x hk hx
  rcases k with _ | _ | _ | _ | _ | _ | k <;> simp at hx hk <;> (subst hx; rfl)
 ·intro k q1 q2; simp[psZ,lk,q1,q2]
 ·intro k o q1 q2 hk
  simp only[lk,if_neg q1,if_neg q2] at hk
  cases hk
abbrev ac0:Ac:=⟨[],[],[],false⟩
def RClo {α:Type} (p:PS) (zs:List D) (os:α->Nat->Obs) (x:Ps.PR α):D->Obs->Prop:=fun r ob=>match x with
 | .ok a j=>r= .tuple []/\ob=os a j
 | .bad a e=>r= .pan (fltV a e)/\ob=[(0,.cells zs)]
def ruCs (r:Ru):List D:=[.int .u8 r.k,.slice (heL r.h) [],.int .u8 (kT r.lo:Nat),.int .i64 (nT r.lo),.str (nmT r.lo),.slice (Tm.cellsL (Ps.arT r.lo)) [],.int .u8 (kT r.up:Nat),.int .i64 (nT r.up),.str (nmT r.up),.slice (Tm.cellsL (Ps.arT r.up)) [],.slice (boL r.b) [],.int .u8 (kT r.w:Nat),.int .i64 (nT r.w),.str (nmT r.w),.slice (Tm.cellsL (Ps.arT r.w)) [],.int .u8 (kT r.lv:Nat),.int .i64 (nT r.lv),.str (nmT r.lv),.slice (Tm.cellsL (Ps.arT r.lv)) [],.slice (Tm.cellsL r.t) []]
def pgCs (b:Ac):List D:=[.slice (ruL b.r) [],.slice (coL b.c) [],.slice (shL b.s) [],.bool b.so]
theorem qRu1 (p:PS):CallL Tryz.prog (.func (.func 32) [] [.ptr 0 0]) [.ptr 1 0] (psCz zsR p.ts (0:Nat)) (RClo p zsR (fun r j=>psCr (ruCs r) p.ts (j:Nat) false [] [] []) (Ps.ruleP p.ts 0)):=by
 have h:=nil3 (qRu (p.acc ac0) 0).1
 change CallL _ _ _ _ (RS _ _ (Ps.ruleP p.ts 0)) at h
 refine CallL.tree Z5 fp32 (Zi Z1 fun _=>(Z0 _ _ _ _)) (Zfi p.ts (0:Nat) false  (Ps.ruleP p.ts 0).isOk (((Ps.ruleP p.ts 0).val Ps.zR).k:Nat) (heL ((Ps.ruleP p.ts 0).val Ps.zR).h) (kT ((Ps.ruleP p.ts 0).val Ps.zR).lo:Nat) (nT ((Ps.ruleP p.ts 0).val Ps.zR).lo) (nmT ((Ps.ruleP p.ts 0).val Ps.zR).lo) (Tm.cellsL (Ps.arT ((Ps.ruleP p.ts 0).val Ps.zR).lo)) (kT ((Ps.ruleP p.ts 0).val Ps.zR).up:Nat) (nT ((Ps.ruleP p.ts 0).val Ps.zR).up) (nmT ((Ps.ruleP p.ts 0).val Ps.zR).up) (Tm.cellsL (Ps.arT ((Ps.ruleP p.ts 0).val Ps.zR).up)) (boL ((Ps.ruleP p.ts 0).val Ps.zR).b) (kT ((Ps.ruleP p.ts 0).val Ps.zR).w:Nat) (nT ((Ps.ruleP p.ts 0).val Ps.zR).w) (nmT ((Ps.ruleP p.ts 0).val Ps.zR).w) (Tm.cellsL (Ps.arT ((Ps.ruleP p.ts 0).val Ps.zR).w)) (kT ((Ps.ruleP p.ts 0).val Ps.zR).lv:Nat) (nT ((Ps.ruleP p.ts 0).val Ps.zR).lv) (nmT ((Ps.ruleP p.ts 0).val Ps.zR).lv) (Tm.cellsL (Ps.arT ((Ps.ruleP p.ts 0).val Ps.zR).lv)) (Tm.cellsL ((Ps.ruleP p.ts 0).val Ps.zR).t) (Ps.ruleP p.ts 0).pos (flt (Ps.ruleP p.ts 0)) [] [] []) ?_
 simp only[SS]
 refine psX Ps.zR h (fun t j h1=> ?_) fun a e h1=> ?_
 ·simp only[h1,Ps.PR.pos,Ps.PR.val]; exact⟨rfl,rfl⟩
 ·simp only[h1]; exact⟨rfl,rfl⟩
abbrev osP (p:PS) (b:Ac) (j:Nat):Obs:=psCr (pgCs b) p.ts (j:Nat) b.so (ruL b.r) (coL b.c) (shL b.s)
theorem qPgB (p:PS): ∀ (n:Nat) (a:Ac) (i:Nat),p.ts.length-i<n->At Tryz.prog 10 (cut sc29 0) (ZgN p.ts i a.so (ruL a.r) (coL a.c) (shL a.s)) (FinQ false 10 rs29 (RClo p zsP (osP p) (Ps.progGo p.ts n a i)))
 | 0,a,i,h=>by omega
 | n+1,a,i,h=>by
  have hq:=Zgr p a i
  unfold Ps.progGo
  by_cases hi:i<p.ts.length
  ·rw[if_pos hi]
   cases hx:Ps.statementP p.ts a i with
   | ok b j =>
    rw[hx] at hq
    have hw:=Ps.ws_statement (Sm.self p.ts) a i (.inr rfl)
    rw[show i+0=i from rfl,hx] at hw
    have hij:=hw.1
    refine At.tree (Zi Z1 fun _=>(Z0 _ _ _ _)) (Z4P p.ts i a.so b.so (ruL b.r) (coL b.c) (shL b.s) (Ps.PR.ok () j).isOk  (Ps.PR.ok () j).pos (flt (Ps.PR.ok () j)) (ruL a.r) (coL a.c) (shL a.s)) ?_
    simp only[SS,List.length_map]
    exact⟨fun _=>⟨fun _=>⟨hq,qPgB p n b j (by omega)⟩,nofun⟩,fun h=>by omega⟩
   | bad b e =>
    rw[hx] at hq
    refine At.tree (Zi Z1 fun _=>(Z0 _ _ _ _)) (Z4P p.ts i a.so false [] [] [] ((Ps.PR.bad b e:Ps.PR Unit)).isOk  ((Ps.PR.bad b e:Ps.PR Unit)).pos (flt ((Ps.PR.bad b e:Ps.PR Unit))) (ruL a.r) (coL a.c) (shL a.s)) ?_
    simp only[SS,List.length_map]
    exact⟨fun _=>⟨nofun,fun _=>⟨hq,rfl,rfl⟩⟩,fun h=>by omega⟩
  ·rw[if_neg hi]
   refine At.tree (Zi Z1 fun _=>(Z0 _ _ _ _)) (Z4P p.ts i a.so false [] [] [] (Ps.PR.ok () 0).isOk  (Ps.PR.ok () 0).pos (flt (Ps.PR.ok () 0)) (ruL a.r) (coL a.c) (shL a.s)) ?_
   simp only[SS,List.length_map]
   exact⟨fun h=>by omega,fun _=>⟨rfl,rfl⟩⟩
theorem qPg1 (p:PS) (hne:0<p.ts.length):CallL Tryz.prog (.func (.func 29) [] [.ptr 0 0]) [.ptr 1 0] (psCz zsP p.ts (0:Nat)) (RClo p zsP (osP p) (Ps.programP p.ts)):=by
 refine CallL.tree Z5 fp29 (Zi Z1 fun _=>(Z0 _ _ _ _)) (Z9t p.ts (0:Nat) false  (Ps.PR.ok () 0).isOk  (Ps.PR.ok () 0).pos (flt (Ps.PR.ok () 0)) [] [] []) ?_
 have hq:=nil3 (Zgr p ac0 0)
 show At Tryz.prog 10 (cut sc29 0) (Zeu p.ts (0:Nat)) _
 unfold Ps.programP Ps.fu
 rw[Ps.progGo,if_pos hne]
 cases hx:Ps.statementP p.ts ac0 0 with
 | ok b j =>
  rw[hx] at hq
  have hw:=Ps.ws_statement (Sm.self p.ts) ac0 0 (.inr rfl)
  rw[show 0+0=0 from rfl,hx] at hw
  have hij:=hw.1
  refine At.tree (Zi Z1 fun _=>(Z0 _ _ _ _)) (Z4Q p.ts (0:Nat) false b.so (ruL b.r) (coL b.c) (shL b.s) (Ps.PR.ok () j).isOk  (Ps.PR.ok () j).pos (flt (Ps.PR.ok () j)) [] [] []) ?_
  simp only[SS,List.length_map]
  exact⟨fun _=>⟨fun _=>⟨hq,qPgB p p.ts.length b j (by omega)⟩,nofun⟩,fun h=>by omega⟩
 | bad b e =>
  rw[hx] at hq
  refine At.tree (Zi Z1 fun _=>(Z0 _ _ _ _)) (Z4Q p.ts (0:Nat) false false [] [] [] ((Ps.PR.bad b e:Ps.PR Unit)).isOk  ((Ps.PR.bad b e:Ps.PR Unit)).pos (flt ((Ps.PR.bad b e:Ps.PR Unit))) [] [] []) ?_
  simp only[SS,List.length_map]
  exact⟨fun _=>⟨nofun,fun _=>⟨hq,rfl,rfl⟩⟩,fun h=>by omega⟩
theorem qPg0 (p:PS) (hne:p.ts=[]):CallL Tryz.prog (.func (.func 29) [] [.ptr 0 0]) [.ptr 1 0] (psCz zsP p.ts (0:Nat)) fun r ob=>r= .tuple []/\ob=psCz [.slice [] [],.slice [] [],.slice [] [],.bool false] p.ts (0:Nat):=by
 refine CallL.tree Z5 fp29 (Zi Z1 fun _=>(Z0 _ _ _ _)) (Z9t p.ts (0:Nat) false  (Ps.PR.ok () 0).isOk  (Ps.PR.ok () 0).pos (flt (Ps.PR.ok () 0)) [] [] []) ?_
 show At Tryz.prog 10 (cut sc29 0) (Zeu p.ts (0:Nat)) _
 refine At.tree (Zi Z1 fun _=>(Z0 _ _ _ _)) (Z4Q p.ts (0:Nat) false false [] [] [] (Ps.PR.ok () 0).isOk  (Ps.PR.ok () 0).pos (flt (Ps.PR.ok () 0)) [] [] []) ?_
 simp only[SS,List.length_map,hne,List.length_nil]
 refine⟨fun h=>by omega,fun _=> ?_⟩
 first | exact rfl | exact⟨rfl,rfl⟩
/- run. -/
theorem fnD:FnC Tryz.prog 53 27 (.seq (.spec (.rcv 7 (rcvO sc53))) (rcvB sc53)) []:=fp53.1
theorem Z8U (src:LU) (a e:Int) (ts:List Tk):Sx.CallD Tryz.prog .returning (.func (.func 53) [] [.ptr 0 0,.ptr 1 0,.ptr 2 0,.ptr 3 0]) (obR src a e ts) fun u o=>u= .returning/\o=obR src a e ts :=
 CallD.tree Z5 fnD (first:=[]) (Z4 Z1 Z3) (Zio src a e ts) ⟨rfl,rfl⟩
theorem Z5M (src:LU) (a e:Int) (ts:List Tk) (f:Nat) (fe:Int):Sx.CallD Tryz.prog (.panicking [⟨fltV f fe,false,false⟩]) (.func (.func 53) [] [.ptr 0 0,.ptr 1 0,.ptr 2 0,.ptr 3 0]) (obR src a e ts) fun u o=>u= .panicking [⟨fltV f fe,true,false⟩]/\o=obR src (Ps.offP ts src.length f) fe ts:=by
 cases ht:ts[f]? with
 | some t =>
  have hlt:f<ts.length:=(List.getElem?_eq_some_iff.1 ht).1
  refine CallD.tree Z5 fnD (first:=[]) (Z4 Z1 Z3) (Zci src a e ts f fe t.1 t.2.2 t.2.1) ?_
  unfold CdP Ps.offP
  rw[ht]
  simp only[SS,List.length_map]
  refine⟨fun _=>⟨⟨by omega, ?_⟩,rfl,rfl⟩,fun h=>by omega⟩
  rw[List.getElem?_map,ht]; rfl
 | none =>
  have hlt:ts.length<=f:=List.getElem?_eq_none_iff.1 ht
  refine CallD.tree Z5 fnD (first:=[]) (Z4 Z1 Z3) (Zci src a e ts f fe 0 0 []) ?_
  unfold CdP Ps.offP
  rw[ht]
  simp only[SS,List.length_map]
  exact⟨fun h=>by omega,fun _=>⟨rfl,rfl⟩⟩
def RRun {α:Type} (src:LU) (ts:List Tk) (zs:List D) (cs:α->List D) (x:Ps.PR α):D->Obs->Prop:=fun r ob=>match x with
 | .ok a j=>(r=if j<ts.length then .tuple [.int .i64 (Ps.offP ts src.length j),.int .i64 40] else .tuple [.int .i64 0,.int .i64 0])/\ob=[(0,.cells (cs a))]
 | .bad a e=>r= .tuple [.int .i64 (Ps.offP ts src.length a),.int .i64 e]/\ob=[(0,.cells zs)]
theorem Z5b {b:Bool} {r:D} {o' op:Obs} {v v2:Value}:(⟨fun _=>libT,fun n=>if n=25 then psP b r o' v op else psB false .undef [] v2,noE⟩:Ctr).OK Tryz.prog:=Zi Z1 fun _=>Z2 (ZgD _ _ _ _ _) (Z0 _ _ _ _)
theorem Z4s {src:LU} (h:(Lx.lexR src).2.2=0):(Lx.lexR src).1=(Lx.run 0 src).1/\src.length<=32768/\(Lx.run 0 src).2.1=none/\(Lx.lexR src).2.1=0:=by
 rw[Lx.lexR_eq] at h ⊢
 split at h
 ·cases h
 ·rename_i hl
  rw[if_neg hl]
  have he:=Lx.run_err (src.length+1) src 0 (Nat.lt_succ_self _)
  generalize Lx.run 0 src=q at h he ⊢
  obtain⟨l,o,n⟩:=q
  cases o with
  | none=>exact⟨rfl,by omega,rfl,rfl⟩
  | some x =>
   obtain⟨a,e⟩:=x
   have:=(he a e rfl).1
   exact absurd h this
theorem Zen {src:LU} (h:(Lx.lexR src).2.2=0):(Lx.lexR src).1.length<=1000000000:=by
 obtain⟨h1,h2,_⟩:=Z4s h
 have:=(Lx.run_toks (src.length+1) src 0 (Nat.lt_succ_self _)).1
 rw[h1]; omega
theorem Zem {src:LU} (h:(Lx.lexR src).2.2=0): ∀ t∈(Lx.lexR src).1,t.2.1.length<=1000000000:=by
 obtain⟨h1,h2,_⟩:=Z4s h
 intro t ht
 rw[h1] at ht
 have:=(Lx.run_toks (src.length+1) src 0 (Nat.lt_succ_self _)).2 t ht
 omega
theorem Zel {src:LU} (h:(Lx.lexR src).2.2=0):Ps.TokOK (Lx.lexR src).1:=by
 obtain⟨h1,_⟩:=Z4s h
 rw[h1]
 exact Lx.run_val (src.length+1) src 0 (Nat.lt_succ_self _)
def lexS (src:LU) (h:(Lx.lexR src).2.2=0):PS:=⟨(Lx.lexR src).1,false,[],[],[],Zen h,Zem h,Zel h⟩
theorem Zdv (p:PS) (src:LU) (a:Int) (x:Ps.PR Ru) (hc:CallL Tryz.prog (.func (.func 32) [] [.ptr 0 0]) [.ptr 1 0] (psCz zsR p.ts (0:Nat)) (RClo p zsR (fun r j=>psCr (ruCs r) p.ts (j:Nat) false [] [] []) x)) (hL:FK 11 [.str src] (.tuple [.slice (p.ts.map tokC) [],.int .i64 a,.int .i64 0])) :
  CF 28 [.str src,.func (.func 32) [] [.ptr 0 0]] [(0,.cells zsR)] (RRun src p.ts zsR ruCs x):=by
 refine CallL.treeD Z5 fp28 (Z4 (Zf _) Z3) (Zcb src 32 (p.ts.map tokC) a 0) ?_
 rw[Zz,Qe]
 refine⟨hL,fun h=>by simp at h,fun _=> ?_⟩
 rw[QY]
 refine KDef.at (k2:=20) 53 _ _ rfl (by kernel_rfl) (Nat.le_of_ble_eq_true rfl) (by decide) (Nat.le_of_ble_eq_true rfl) ?_
 cases x with
 | ok t j =>
  refine At.treeD Z5b (Z9c src 32 p.ts a 0 (Ps.offP p.ts src.length j) 40 (t.k:Nat) (heL t.h) (kT t.lo:Nat) (nT t.lo) (nmT t.lo) (Tm.cellsL (Ps.arT t.lo)) (kT t.up:Nat) (nT t.up) (nmT t.up) (Tm.cellsL (Ps.arT t.up)) (boL t.b) (kT t.w:Nat) (nT t.w) (nmT t.w) (Tm.cellsL (Ps.arT t.w)) (kT t.lv:Nat) (nT t.lv) (nmT t.lv) (Tm.cellsL (Ps.arT t.lv)) (Tm.cellsL t.t) true Go.undef (fltV j 40) j false [] [] []) ?_
  simp only[SS,List.length_map]
  refine⟨⟨hc,fun h=> ?_,fun h=> ?_⟩,nofun⟩
  ·refine⟨ZZ (p.acc ac0) j 40,Z5M src a 0 p.ts j 40, ?_⟩
   show _/\_
   rw[if_pos (show j<p.ts.length by omega)]
   exact⟨rfl,rfl⟩
  ·refine⟨Z8U src 0 0 p.ts, ?_⟩
   show _/\_
   rw[if_neg (show ¬ j<p.ts.length by omega)]
   exact⟨rfl,rfl⟩
 | bad b e =>
  refine At.treeD Z5b (Z9c src 32 p.ts a 0 (Ps.offP p.ts src.length b) e 0 [] 0 0 [] [] 0 0 [] [] [] 0 0 [] [] 0 0 [] [] [] false (fltV b e) Go.undef 0 false [] [] []) ?_
  simp only[SS,List.length_map]
  exact⟨nofun,hc,Z5M src a 0 p.ts b e,rfl,rfl⟩
theorem Zdw (p:PS) (src:LU) (a:Int) (x:Ps.PR Ac) (hc:CallL Tryz.prog (.func (.func 29) [] [.ptr 0 0]) [.ptr 1 0] (psCz zsP p.ts (0:Nat)) (RClo p zsP (osP p) x)) (hL:FK 11 [.str src] (.tuple [.slice (p.ts.map tokC) [],.int .i64 a,.int .i64 0])) :
  CF 28 [.str src,.func (.func 29) [] [.ptr 0 0]] [(0,.cells zsP)] (RRun src p.ts zsP pgCs x):=by
 refine CallL.treeD Z5 fp28 (Z4 (Zf _) Z3) (Z9b src 29 (p.ts.map tokC) a 0) ?_
 rw[Zz,Qe]
 refine⟨hL,fun h=>by simp at h,fun _=> ?_⟩
 rw[QY]
 refine KDef.at (k2:=20) 53 _ _ rfl (by kernel_rfl) (Nat.le_of_ble_eq_true rfl) (by decide) (Nat.le_of_ble_eq_true rfl) ?_
 cases x with
 | ok t j =>
  refine At.treeD Z5b (Z9d src 29 p.ts a 0 (Ps.offP p.ts src.length j) 40 (ruL t.r) (coL t.c) (shL t.s) t.so true Go.undef (fltV j 40) j t.so (ruL t.r) (coL t.c) (shL t.s)) ?_
  simp only[SS,List.length_map]
  refine⟨⟨hc,fun h=> ?_,fun h=> ?_⟩,nofun⟩
  ·refine⟨ZZ (p.acc t) j 40,Z5M src a 0 p.ts j 40, ?_⟩
   show _/\_
   rw[if_pos (show j<p.ts.length by omega)]
   exact⟨rfl,rfl⟩
  ·refine⟨Z8U src 0 0 p.ts, ?_⟩
   show _/\_
   rw[if_neg (show ¬ j<p.ts.length by omega)]
   exact⟨rfl,rfl⟩
 | bad b e =>
  refine At.treeD Z5b (Z9d src 29 p.ts a 0 (Ps.offP p.ts src.length b) e [] [] [] false false (fltV b e) Go.undef 0 false [] [] []) ?_
  simp only[SS,List.length_map]
  exact⟨nofun,hc,Z5M src a 0 p.ts b e,rfl,rfl⟩
theorem Zdx (p:PS) (hne:p.ts=[]) (src:LU) (a:Int) (hL:FK 11 [.str src] (.tuple [.slice (p.ts.map tokC) [],.int .i64 a,.int .i64 0])) :
  CF 28 [.str src,.func (.func 29) [] [.ptr 0 0]] [(0,.cells zsP)] (RRun src p.ts zsP pgCs (Ps.programP p.ts)):=by
 refine CallL.treeD Z5 fp28 (Z4 (Zf _) Z3) (Z9b src 29 (p.ts.map tokC) a 0) ?_
 rw[Zz,Qe]
 refine⟨hL,fun h=>by simp at h,fun _=> ?_⟩
 rw[QY]
 refine KDef.at (k2:=20) 53 _ _ rfl (by kernel_rfl) (Nat.le_of_ble_eq_true rfl) (by decide) (Nat.le_of_ble_eq_true rfl) ?_
 refine At.treeD (Zi Z1 fun _=>Z2 (Z7 _ _) Z3) (Zf7 src 29 p.ts a 0) ?_
 have hc:=qPg0 p hne
 simp only[SS,List.length_map]
 refine⟨hc,fun h=>by rw[hne] at h; simp at h,fun _=>⟨Z8U src 0 0 p.ts, ?_⟩⟩
 rw[hne]
 exact⟨rfl,rfl⟩
end Go.Proofs.YtecgehidegnmnaaGreatDoor
/- Parse,Rule,Term. -/
namespace Go.Proofs.YtecgehidegnmnaaGreatDoor
open Go.Sx
open Go.Sx.Lx (Tk tokC)
open Go.Sx.Ps (kT nmT W Sm Ac)
theorem Zcd (src:LU) (a e rkz:Int) (rhz:LD) (kza nza:Int) (sza:LU) (lza:LD) (kzb nzb:Int) (szb:LU) (lzb rbz:LD) (kzc nzc:Int) (szc:LU) (lzc:LD) (kzd nzd:Int) (szd:LU) (lzd rtz:LD):let A:=[dU rkz,dL rhz [],dU kza,dI nza,dS sza,dL lza [],dU kzb,dI nzb,dS szb,dL lzb [],dL rbz [],dU kzc,dI nzc,dS szc,dL lzc [],dU kzd,dI nzd,dS szd,dL lzd [],dL rtz []];let B:=[dI a,dI e];gP (ctr libT (psQ (D.tuple B) [(0,oC A)])) rs12 sc12 [dS src]=(Ow (CF 28 [dS src,dF 32 [] [dP 0 0]] [(0,oC [dU 0,D.nils,dU 0,dI 0,dS [],D.nils,dU 0,dI 0,dS [],D.nils,D.nils,dU 0,dI 0,dS [],D.nils,dU 0,dI 0,dS [],D.nils,D.nils])] fun r0 ob0=>r0=D.tuple B/\ob0=[(0,oC A)]) (brT (!decide (e=(0:Int))) (Rt (D.tuple [dA [dU 0,dL [] [],dU 0,dI 0,dS [],dL [] [],dU 0,dI 0,dS [],dL [] [],dL [] [],dU 0,dI 0,dS [],dL [] [],dU 0,dI 0,dS [],dL [] [],dL [] []],dI a,dI e]) []) (Rt (D.tuple [dA A,dI a,dI e]) [])):Tr):=by intro A B;kernel_rfl
theorem Z9x (src:LU) (a e:Int):let A:=Rt (D.tuple [dA [dU 0,dL [] [],dU 0,dI 0,dS [],dL [] [],dU 0,dI 0,dS [],dL [] [],dL [] [],dU 0,dI 0,dS [],dL [] [],dU 0,dI 0,dS [],dL [] [],dL [] []],dI a,dI e]) [];let B:=[(0,oC [dU 0,D.nils,dU 0,dI 0,dS [],D.nils,dU 0,dI 0,dS [],D.nils,D.nils,dU 0,dI 0,dS [],D.nils,dU 0,dI 0,dS [],D.nils,D.nils])];let C:=[dI a,dI e];gP (ctr libT (psQ (D.tuple C) [(0,oC zsR)])) rs12 sc12 [dS src]=(Ow (CF 28 [dS src,dF 32 [] [dP 0 0]] B fun r0 ob0=>r0=D.tuple C/\ob0=B) (brT (!decide (e=(0:Int))) A A):Tr):=by intro A B C;kernel_rfl
theorem Zi9 (src:LU) (a e:Int) (l1 l2 l3:LD) (cb:Bool):let A:=[dL l1 [],dL l2 [],dL l3 [],dB cb];let B:=[dI a,dI e];gP (ctr libT (psQ (D.tuple B) [(0,oC A)])) rs9 sc9 [dS src]=(Ow (CF 28 [dS src,dF 29 [] [dP 0 0]] [(0,oC [D.nils,D.nils,D.nils,dB false])] fun r0 ob0=>r0=D.tuple B/\ob0=[(0,oC A)]) (Rt (D.tuple [dA A,dI a,dI e]) []):Tr):=by intro A B;kernel_rfl
theorem Z9y (src:LU) (a e:Int):let A:=[(0,oC [D.nils,D.nils,D.nils,dB false])];let B:=[dI a,dI e];gP (ctr libT (psQ (D.tuple B) [(0,oC zsP)])) rs9 sc9 [dS src]=(Ow (CF 28 [dS src,dF 29 [] [dP 0 0]] A fun r0 ob0=>r0=D.tuple B/\ob0=A) (Rt (D.tuple [dA [dL [] [],dL [] [],dL [] [],dB false],dI a,dI e]) []):Tr):=by intro A B;kernel_rfl
end Go.Proofs.YtecgehidegnmnaaGreatDoor
/- Parse,Rule,Term: what they answer. -/
namespace Go.Proofs.YtecgehidegnmnaaGreatDoor
open Go.Sx
open Go.Sx.Lx (Tk tokC)
open Go.Sx.Ps (kT nmT W Sm Ac)
theorem lexF (src:LU) (h:(Lx.lexR src).2.2=0):FK 11 [.str src] (.tuple [.slice ((lexS src h).ts.map tokC) [],.int .i64 (Lx.lexR src).2.1,.int .i64 0]):=by
 have:=Z3F src
 rw[h] at this
 exact this
theorem Za6 (src:LU) (g:Nat) (h:(Lx.lexR src).2.2≠0):CF 28 [.str src,.func (.func g) [] [.ptr 0 0]] [(0,.cells zsR)] fun r ob=>r= .tuple [.int .i64 (Lx.lexR src).2.1,.int .i64 (Lx.lexR src).2.2]/\ob=[(0,.cells zsR)]:=by
 refine CallL.treeD Z5 fp28 (Z4 (Zf _) Z3) (Zcb src g ((Lx.lexR src).1.map tokC) (Lx.lexR src).2.1 (Lx.lexR src).2.2) ?_
 rw[Zz,Qe]
 exact⟨Z3F src,fun _=>⟨rfl,rfl⟩,fun h'=>absurd (by simpa using h') h⟩
theorem Z33 (src:LU):FK 12 [.str src] (.tuple [ruE (Ps.ruleR src).1,.int .i64 (Ps.ruleR src).2.1,.int .i64 (Ps.ruleR src).2.2]):=by
 unfold Ps.ruleR Ps.lexd
 by_cases hl:(Lx.lexR src).2.2=0
 ·rw[if_pos hl]
  have hr:=Zdv (lexS src hl) src (Lx.lexR src).2.1 _ (qRu1 (lexS src hl)) (lexF src hl)
  change CallL _ _ _ _ (RRun src (Lx.lexR src).1 zsR ruCs (Ps.ruleP (Lx.lexR src).1 0)) at hr
  show FnOK _ _ _ (.tuple [ruE (Ps.outE (Lx.lexR src).1 src Ps.zR (Ps.ruleP (Lx.lexR src).1 0)).1,.int .i64 (Ps.outE (Lx.lexR src).1 src Ps.zR (Ps.ruleP (Lx.lexR src).1 0)).2.1,.int .i64 (Ps.outE (Lx.lexR src).1 src Ps.zR (Ps.ruleP (Lx.lexR src).1 0)).2.2])
  have hw:=(Ps.ws_rule (Sm.self (Lx.lexR src).1) 0).w
  rw[show (0:Nat)+0=0 from rfl] at hw
  generalize Ps.ruleP (Lx.lexR src).1 0=x at hr hw
  cases x with
  | ok t j =>
   unfold RRun at hr
   simp only at hr
   unfold Ps.outE Ps.endP
   simp only[Ps.PR.bind]
   by_cases hj:j<(Lx.lexR src).1.length
   ·rw[if_pos hj] at hr ⊢
    refine FnOK.tree Z5 fp12 (Z4 Z1 (Z7 _ _)) (Zcd src (Ps.offP (Lx.lexR src).1 src.length j) 40 (t.k:Nat) (heL t.h) (kT t.lo:Nat) (nT t.lo) (nmT t.lo) (Tm.cellsL (Ps.arT t.lo)) (kT t.up:Nat) (nT t.up) (nmT t.up) (Tm.cellsL (Ps.arT t.up)) (boL t.b) (kT t.w:Nat) (nT t.w) (nmT t.w) (Tm.cellsL (Ps.arT t.w)) (kT t.lv:Nat) (nT t.lv) (nmT t.lv) (Tm.cellsL (Ps.arT t.lv)) (Tm.cellsL t.t)) ?_
    simp only[SS]
    exact⟨hr,fun _=>rfl,fun h=>absurd h (by decide)⟩
   ·rw[if_neg hj] at hr ⊢
    refine FnOK.tree Z5 fp12 (Z4 Z1 (Z7 _ _)) (Zcd src 0 0 (t.k:Nat) (heL t.h) (kT t.lo:Nat) (nT t.lo) (nmT t.lo) (Tm.cellsL (Ps.arT t.lo)) (kT t.up:Nat) (nT t.up) (nmT t.up) (Tm.cellsL (Ps.arT t.up)) (boL t.b) (kT t.w:Nat) (nT t.w) (nmT t.w) (Tm.cellsL (Ps.arT t.w)) (kT t.lv:Nat) (nT t.lv) (nmT t.lv) (Tm.cellsL (Ps.arT t.lv)) (Tm.cellsL t.t)) ?_
    simp only[SS]
    refine⟨hr, ?_⟩
    first | exact fun h=>absurd trivial h | exact⟨fun h=>absurd trivial h,fun _=>rfl⟩ | exact⟨fun h=>absurd trivial h,rfl⟩
  | bad b e =>
   have he:e≠0:=hw.1
   refine FnOK.tree Z5 fp12 (Z4 Z1 (Z7 _ _)) (Z9x src (Ps.offP (Lx.lexR src).1 src.length b) e) ?_
   simp only[SS]
   exact⟨hr,fun _=>rfl,fun h=>absurd h he⟩
 ·rw[if_neg hl]
  refine FnOK.tree Z5 fp12 (Z4 Z1 (Z7 _ _)) (Z9x src (Lx.lexR src).2.1 (Lx.lexR src).2.2) ?_
  simp only[SS]
  exact⟨Za6 src _ hl,fun _=>rfl,fun h=>absurd h hl⟩
theorem Za7 (src:LU) (g:Nat) (h:(Lx.lexR src).2.2≠0):CF 28 [.str src,.func (.func g) [] [.ptr 0 0]] [(0,.cells zsP)] fun r ob=>r= .tuple [.int .i64 (Lx.lexR src).2.1,.int .i64 (Lx.lexR src).2.2]/\ob=[(0,.cells zsP)]:=by
 refine CallL.treeD Z5 fp28 (Z4 (Zf _) Z3) (Z9b src g ((Lx.lexR src).1.map tokC) (Lx.lexR src).2.1 (Lx.lexR src).2.2) ?_
 rw[Zz,Qe]
 exact⟨Z3F src,fun _=>⟨rfl,rfl⟩,fun h'=>absurd (by simpa using h') h⟩
theorem Z4A (src:LU):FK 9 [.str src] (.tuple [.agg (pgCs (Ps.parseR src).1),.int .i64 (Ps.parseR src).2.1,.int .i64 (Ps.parseR src).2.2]):=by
 unfold Ps.parseR Ps.lexd
 by_cases hl:(Lx.lexR src).2.2=0
 ·rw[if_pos hl]
  have hr:CF 28 [.str src,.func (.func 29) [] [.ptr 0 0]] [(0,.cells zsP)] (RRun src (Lx.lexR src).1 zsP pgCs (Ps.programP (Lx.lexR src).1)):=by
   by_cases hn:(Lx.lexR src).1=[]
   ·exact Zdx (lexS src hl) hn src _ (lexF src hl)
   ·exact Zdw (lexS src hl) src (Lx.lexR src).2.1 _ (qPg1 (lexS src hl) (List.length_pos_iff.2 hn)) (lexF src hl)
  have hend: ∀ b j,Ps.programP (Lx.lexR src).1= .ok b j-> ¬ j<(Lx.lexR src).1.length:=fun b j h=>Ps.prog_end _ _ _ _ _ h
  generalize Ps.programP (Lx.lexR src).1=x at hr hend
  cases x with
  | ok t j =>
   have hj:=hend t j rfl
   unfold RRun at hr
   simp only at hr
   unfold Ps.outE Ps.endP
   simp only[Ps.PR.bind]
   rw[if_neg hj] at hr ⊢
   refine FnOK.tree Z5 fp9 (Z4 Z1 (Z7 _ _)) (Zi9 src 0 0 (ruL t.r) (coL t.c) (shL t.s) t.so) ?_
   simp only[SS]
   exact⟨hr,rfl⟩
  | bad b e =>
   refine FnOK.tree Z5 fp9 (Z4 Z1 (Z7 _ _)) (Z9y src (Ps.offP (Lx.lexR src).1 src.length b) e) ?_
   simp only[SS]
   exact⟨hr,rfl⟩
 ·rw[if_neg hl]
  refine FnOK.tree Z5 fp9 (Z4 Z1 (Z7 _ _)) (Z9y src (Lx.lexR src).2.1 (Lx.lexR src).2.2) ?_
  simp only[SS]
  exact⟨Za7 src _ hl,rfl⟩
end Go.Proofs.YtecgehidegnmnaaGreatDoor
/- awake,run: true. -/
namespace Go.Proofs.YtecgehidegnmnaaGreatDoor
open Go.Sx
set_option maxRecDepth 100000
def awF (f:FuncId) (xs:List D):Option D :=
 if f=9 then match xs with
  | [.str s]=>some (.tuple [.agg (pgCs (Ps.parseR s).1),.int .i64 (Ps.parseR s).2.1,.int .i64 (Ps.parseR s).2.2])
  | _=>none
 else if f=12 then match xs with
  | [.str s]=>some (.tuple [ruE (Ps.ruleR s).1,.int .i64 (Ps.ruleR s).2.1,.int .i64 (Ps.ruleR s).2.2])
  | _=>none
 else libF f xs
theorem ZhL: ∀ f xs r,awF f xs=some r->FK f xs r:=by
 intro f xs r h
 unfold awF at h
 split at h
 ·rename_i hf
  subst hf
  split at h
  ·cases h; exact Z4A _
  ·cases h
 split at h
 ·rename_i hf
  subst hf
  split at h
  ·cases h; exact Z33 _
  ·cases h
 ·exact Z00 _ _ _ h
def awT (f:FuncId):Option (Nat × SC × List SR):=if f=27 then some (33,Zg2,Zgm) else lk tabL f
def ZeX:Tab:=⟨awT,fun _ _ _=>none,awF⟩
theorem ZhK: ∀ f N sc rs,awT f=some (N,sc,rs)->FnC Tryz.prog f N sc rs/\ZS Tryz.prog f=true:=by
 intro f N sc rs h
 unfold awT at h
 split at h
 ·rename_i hf
  subst hf
  cases h
  exact Zja
 ·exact Z7a.T _ _ _ _ h
theorem ZaT:ZeX.OK Tryz.prog:=⟨ZhK,(fun _ _ _ _ _ h=>by cases h),ZhL⟩
theorem Z93:fnE ZeX (go Tryz.prog ZeX 20000) 8 []=some (.bool true):=by kernel_rfl
theorem ZaS:FK 8 [] (.bool true):=Z8r Z5 ZaT _ Z93
end Go.Proofs.YtecgehidegnmnaaGreatDoor
