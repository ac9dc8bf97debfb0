/- Own work: a layer over the kit: plain data,a walk over it,its soundness. -/
import Derived.Test.YtecgehidegnmnaaGreatDoorPrY
import Derived.Test.YtecgehidegnmnaaGreatDoorSx11
set_option linter.all false
set_option maxRecDepth 100000
/- The parser: run. -/
open Go.Sx.Ps (PR Zy zR Z1I Zz Z2d Qi Z7L Z5A Zhg ZbF Zkx Qn)
open Go.Sx.Lx (Qh Z6C)
namespace Go.Proofs.YtecgehidegnmnaaGreatDoor
open Go.Sx
open Go.Sx.Lx (Tk Zo)
open Go.Sx.Ps (kT nmT W Sm Ac)
def psZ (ts:List Tk) (i:Int) (so:Bool):Obs:=[(0,.cells [.slice (ts.map Zo) [],.int .i64 i,.nils,.nils,.nils,.bool so])]
theorem nil3 {f:FuncId} {ts:List Tk} {i:Int} {so:Bool} {R:D->Obs->Prop} (h:CallL Tryz.prog (.func (.func f) [] []) [.ptr 0 0] (psO ts i so [] [] []) R):CallL Tryz.prog (.func (.func f) [] []) [.ptr 0 0] (psZ ts i so) R:=by
 have d:CallL Tryz.prog (.func (.func f) [] []) [.ptr 0 0] [(0,.cells [.slice (ts.map Zo) [],.int .i64 i,.vec 1,.vec 2,.nils,.bool so]),(1,.arr true 20 42 []),(2,.arr true 5 53 [])] R:=by
  refine CallL.nilG (m:=3) (i:=0) (j:=4) (sz:=2) (e:=138) (ob:=psO ts i so [] [] []) (cs:=[.slice (ts.map Zo) [],.int .i64 i,.vec 1,.vec 2,.vec 3,.bool so]) (by decide) rfl rfl (by decide) rfl rfl rfl rfl rfl ?_ ?_ ?_ h
  ·intro k x a hx;rcases k with _|_|_|_|_|_|k<;>simp at hx a<;>(subst hx;rfl)
  ·intro k b c;simp[psO,lk,b,c]
  ·intro k o b c a;simp only[psO,lk,if_neg b,if_neg c] at a;left;split at a
   ·cases a;exact⟨_,_,_,rfl⟩
   ·split at a
    ·cases a;exact⟨_,_,_,rfl⟩
    ·cases a
 have h2:CallL Tryz.prog (.func (.func f) [] []) [.ptr 0 0] [(0,.cells [.slice (ts.map Zo) [],.int .i64 i,.vec 1,.nils,.nils,.bool so]),(1,.arr true 20 42 [])] R:=by
  refine CallL.nilG (m:=2) (i:=0) (j:=3) (sz:=5) (e:=53) (cs:=[.slice (ts.map Zo) [],.int .i64 i,.vec 1,.vec 2,.nils,.bool so]) (by decide) rfl rfl (by decide) rfl rfl rfl rfl rfl ?_ ?_ ?_ d
  ·intro k x a hx;rcases k with _|_|_|_|_|_|k<;>simp at hx a<;>(subst hx;rfl)
  ·intro k b c;simp[lk,b,c]
  ·intro k o b c a;simp only[lk,if_neg b,if_neg c] at a;left;split at a
   ·cases a;exact⟨_,_,_,rfl⟩
   ·cases a
 refine CallL.nilG (m:=1) (i:=0) (j:=2) (sz:=20) (e:=42) (cs:=[.slice (ts.map Zo) [],.int .i64 i,.vec 1,.nils,.nils,.bool so]) (by decide) rfl rfl (by decide) rfl rfl rfl rfl rfl ?_ ?_ ?_ h2
 ·intro k x a hx;rcases k with _|_|_|_|_|_|k<;>simp at hx a<;>(subst hx;rfl)
 ·intro k b c;simp[psZ,lk,b,c]
 ·intro k o b c a;simp only[lk,if_neg b,if_neg c] at a;cases a
abbrev ac0:Ac:=⟨[],[],[],false⟩
def RClo {α:Type} (p:PS) (zs:List D) (os:α->Nat->Obs) (x:PR α):D->Obs->Prop:=λr ob=>match x with
 |.ok a j=>r=.tuple []/\ob=os a j
 |.bad a e=>r=.pan (fltV a e)/\ob=[(0,.cells zs)]
def ruCs (r:Ru):List D:=[.int .u8 r.k,.slice (heL r.h) [],.int .u8 (kT r.lo:Nat),.int .i64 (nT r.lo),.str (nmT r.lo),.slice (Tm.cellsL (Ps.arT r.lo)) [],.int .u8 (kT r.up:Nat),.int .i64 (nT r.up),.str (nmT r.up),.slice (Tm.cellsL (Ps.arT r.up)) [],.slice (boL r.b) [],.int .u8 (kT r.w:Nat),.int .i64 (nT r.w),.str (nmT r.w),.slice (Tm.cellsL (Ps.arT r.w)) [],.int .u8 (kT r.lv:Nat),.int .i64 (nT r.lv),.str (nmT r.lv),.slice (Tm.cellsL (Ps.arT r.lv)) [],.slice (Tm.cellsL r.t) []]
def pgCs (b:Ac):List D:=[.slice (ruL b.r) [],.slice (coL b.c) [],.slice (shL b.s) [],.bool b.so]
theorem qRu1 (p:PS):CallL Tryz.prog (.func (.func 32) [] [.ptr 0 0]) [.ptr 1 0] (psCz zsR p.ts (0:Nat)) (RClo p zsR (λr j=>psCr (ruCs r) p.ts (j:Nat) false [] [] []) (Zy p.ts 0)):=by
 have h:=nil3 (qRu (p.acc ac0) 0).1;change CallL _ _ _ _ (RS _ _ (Zy p.ts 0)) at h;refine CallL.tree Z5 fp32 (ZE Z3 λ_=>(Z2 _ _ _ _)) (ZgH p.ts (0:Nat) false  (Zy p.ts 0).isOk (((Zy p.ts 0).val zR).k:Nat) (heL ((Zy p.ts 0).val zR).h) (kT ((Zy p.ts 0).val zR).lo:Nat) (nT ((Zy p.ts 0).val zR).lo) (nmT ((Zy p.ts 0).val zR).lo) (Tm.cellsL (Ps.arT ((Zy p.ts 0).val zR).lo)) (kT ((Zy p.ts 0).val zR).up:Nat) (nT ((Zy p.ts 0).val zR).up) (nmT ((Zy p.ts 0).val zR).up) (Tm.cellsL (Ps.arT ((Zy p.ts 0).val zR).up)) (boL ((Zy p.ts 0).val zR).b) (kT ((Zy p.ts 0).val zR).w:Nat) (nT ((Zy p.ts 0).val zR).w) (nmT ((Zy p.ts 0).val zR).w) (Tm.cellsL (Ps.arT ((Zy p.ts 0).val zR).w)) (kT ((Zy p.ts 0).val zR).lv:Nat) (nT ((Zy p.ts 0).val zR).lv) (nmT ((Zy p.ts 0).val zR).lv) (Tm.cellsL (Ps.arT ((Zy p.ts 0).val zR).lv)) (Tm.cellsL ((Zy p.ts 0).val zR).t) (Zy p.ts 0).pos (flt (Zy p.ts 0)) [] [] []) ?_;simp only[SS];refine psX zR h (λt j h1=>?_) λa e h1=>?_
 ·simp only[h1,PR.pos,PR.val];exact⟨rfl,rfl⟩
 ·simp only[h1];exact⟨rfl,rfl⟩
abbrev osP (p:PS) (b:Ac) (j:Nat):Obs:=psCr (pgCs b) p.ts (j:Nat) b.so (ruL b.r) (coL b.c) (shL b.s)
theorem qPgB (p:PS): ∀ (n:Nat) (a:Ac) (i:Nat),p.ts.length-i<n->At Tryz.prog 10 (cut sc29 0) (ZiD p.ts i a.so (ruL a.r) (coL a.c) (shL a.s)) (FinQ false 10 rs29 (RClo p zsP (osP p) (Z1I p.ts n a i)))
 |0,a,i,h=>by omega
 |n+1,a,i,h=>by
  have c:=Zia p a i;unfold Z1I;by_cases hi:i<p.ts.length
  ·rw[if_pos hi];cases hx:Zz p.ts a i with
   |ok b j =>
    rw[hx] at c;have d:=Z2d (Sm.self p.ts) a i (.inr rfl);rw[show i+0=i from rfl,hx] at d;have f:=d.1;refine At.tree (ZE Z3 λ_=>(Z2 _ _ _ _)) (Z66 p.ts i a.so b.so (ruL b.r) (coL b.c) (shL b.s) (PR.ok () j).isOk  (PR.ok () j).pos (flt (PR.ok () j)) (ruL a.r) (coL a.c) (shL a.s)) ?_;simp only[SS,List.length_map];exact⟨λ_=>⟨λ_=>⟨c,qPgB p n b j (by omega)⟩,nofun⟩,λh=>by omega⟩
   |bad b e =>
    rw[hx] at c;refine At.tree (ZE Z3 λ_=>(Z2 _ _ _ _)) (Z66 p.ts i a.so false [] [] [] ((PR.bad b e:PR Unit)).isOk  ((PR.bad b e:PR Unit)).pos (flt ((PR.bad b e:PR Unit))) (ruL a.r) (coL a.c) (shL a.s)) ?_;simp only[SS,List.length_map];exact⟨λ_=>⟨nofun,λ_=>⟨c,rfl,rfl⟩⟩,λh=>by omega⟩
  ·rw[if_neg hi];refine At.tree (ZE Z3 λ_=>(Z2 _ _ _ _)) (Z66 p.ts i a.so false [] [] [] (PR.ok () 0).isOk  (PR.ok () 0).pos (flt (PR.ok () 0)) (ruL a.r) (coL a.c) (shL a.s)) ?_;simp only[SS,List.length_map];exact⟨λh=>by omega,λ_=>⟨rfl,rfl⟩⟩
theorem qPg1 (p:PS) (c:0<p.ts.length):CallL Tryz.prog (.func (.func 29) [] [.ptr 0 0]) [.ptr 1 0] (psCz zsP p.ts (0:Nat)) (RClo p zsP (osP p) (Qi p.ts)):=by
 refine CallL.tree Z5 fp29 (ZE Z3 λ_=>(Z2 _ _ _ _)) (ZaO p.ts (0:Nat) false  (PR.ok () 0).isOk  (PR.ok () 0).pos (flt (PR.ok () 0)) [] [] []) ?_;have a:=nil3 (Zia p ac0 0);show At Tryz.prog 10 (cut sc29 0) (ZfO p.ts (0:Nat)) _;unfold Qi Ps.fu;rw[Z1I,if_pos c];cases hx:Zz p.ts ac0 0 with
 |ok b j =>
  rw[hx] at a;have d:=Z2d (Sm.self p.ts) ac0 0 (.inr rfl);rw[show 0+0=0 from rfl,hx] at d;have f:=d.1;refine At.tree (ZE Z3 λ_=>(Z2 _ _ _ _)) (Z67 p.ts (0:Nat) false b.so (ruL b.r) (coL b.c) (shL b.s) (PR.ok () j).isOk  (PR.ok () j).pos (flt (PR.ok () j)) [] [] []) ?_;simp only[SS,List.length_map];exact⟨λ_=>⟨λ_=>⟨a,qPgB p p.ts.length b j (by omega)⟩,nofun⟩,λh=>by omega⟩
 |bad b e =>
  rw[hx] at a;refine At.tree (ZE Z3 λ_=>(Z2 _ _ _ _)) (Z67 p.ts (0:Nat) false false [] [] [] ((PR.bad b e:PR Unit)).isOk  ((PR.bad b e:PR Unit)).pos (flt ((PR.bad b e:PR Unit))) [] [] []) ?_;simp only[SS,List.length_map];exact⟨λ_=>⟨nofun,λ_=>⟨a,rfl,rfl⟩⟩,λh=>by omega⟩
theorem qPg0 (p:PS) (a:p.ts=[]):CallL Tryz.prog (.func (.func 29) [] [.ptr 0 0]) [.ptr 1 0] (psCz zsP p.ts (0:Nat)) λr ob=>r=.tuple []/\ob=psCz [.slice [] [],.slice [] [],.slice [] [],.bool false] p.ts (0:Nat):=by
 refine CallL.tree Z5 fp29 (ZE Z3 λ_=>(Z2 _ _ _ _)) (ZaO p.ts (0:Nat) false  (PR.ok () 0).isOk  (PR.ok () 0).pos (flt (PR.ok () 0)) [] [] []) ?_;show At Tryz.prog 10 (cut sc29 0) (ZfO p.ts (0:Nat)) _;refine At.tree (ZE Z3 λ_=>(Z2 _ _ _ _)) (Z67 p.ts (0:Nat) false false [] [] [] (PR.ok () 0).isOk  (PR.ok () 0).pos (flt (PR.ok () 0)) [] [] []) ?_;simp only[SS,List.length_map,a,List.length_nil];refine⟨λh=>by omega,λ_=>?_⟩;first|exact rfl|exact⟨rfl,rfl⟩
/- run. -/
theorem fnD:FnC Tryz.prog 53 27 (.seq (.spec (.rcv 7 (rcvO sc53))) (rcvB sc53)) []:=fp53.1
theorem Zal (src:LU) (a e:Int) (ts:List Tk):Sx.CallD Tryz.prog .returning (.func (.func 53) [] [.ptr 0 0,.ptr 1 0,.ptr 2 0,.ptr 3 0]) (obR src a e ts) λu o=>u=.returning/\o=obR src a e ts :=
 CallD.tree Z5 fnD (first:=[]) (Z9 Z3 Z8) (Zkk src a e ts) ⟨rfl,rfl⟩
theorem Z75 (src:LU) (a e:Int) (ts:List Tk) (f:Nat) (b:Int):Sx.CallD Tryz.prog (.panicking [⟨fltV f b,false,false⟩]) (.func (.func 53) [] [.ptr 0 0,.ptr 1 0,.ptr 2 0,.ptr 3 0]) (obR src a e ts) λu o=>u=.panicking [⟨fltV f b,true,false⟩]/\o=obR src (Z7L ts src.length f) b ts:=by
 cases c:ts[f]? with
 |some t =>
  have d:f<ts.length:=(List.getElem?_eq_some_iff.1 c).1;refine CallD.tree Z5 fnD (first:=[]) (Z9 Z3 Z8) (ZdF src a e ts f b t.1 t.2.2 t.2.1) ?_;unfold CdP Z7L;rw[c];simp only[SS,List.length_map];refine⟨λ_=>⟨⟨by omega,?_⟩,rfl,rfl⟩,λh=>by omega⟩;rw[List.getElem?_map,c];rfl
 |none =>
  have d:ts.length<=f:=List.getElem?_eq_none_iff.1 c;refine CallD.tree Z5 fnD (first:=[]) (Z9 Z3 Z8) (ZdF src a e ts f b 0 0 []) ?_;unfold CdP Z7L;rw[c];simp only[SS,List.length_map];exact⟨λh=>by omega,λ_=>⟨rfl,rfl⟩⟩
def RRun {α:Type} (src:LU) (ts:List Tk) (zs:List D) (cs:α->List D) (x:PR α):D->Obs->Prop:=λr ob=>match x with
 |.ok a j=>(r=if j<ts.length then .tuple [.int .i64 (Z7L ts src.length j),.int .i64 40] else .tuple [.int .i64 0,.int .i64 0])/\ob=[(0,.cells (cs a))]
 |.bad a e=>r=.tuple [.int .i64 (Z7L ts src.length a),.int .i64 e]/\ob=[(0,.cells zs)]
theorem Z6u {b:Bool} {r:D} {o' op:Obs} {v a:Value}:(⟨λ_=>libT,λn=>if n=25 then psP b r o' v op else psB false .undef [] a,noE⟩:Ctr).OK Tryz.prog:=ZE Z3 λ_=>Z4 (Zim _ _ _ _ _) (Z2 _ _ _ _)
theorem Z5K {src:LU} (h:(Qh src).2.2=0):(Qh src).1=(Lx.run 0 src).1/\src.length<=32768/\(Lx.run 0 src).2.1=none/\(Qh src).2.1=0:=by
 rw[Lx.Z9x] at h ⊢;split at h
 ·cases h
 ·rename_i hl;rw[if_neg hl];have b:=Lx.Z8T (src.length+1) src 0 (Nat.lt_succ_self _);generalize Lx.run 0 src=q at h b ⊢;obtain⟨l,o,n⟩:=q;cases o with
  |none=>exact⟨rfl,by omega,rfl,rfl⟩
  |some x =>
   obtain⟨a,e⟩:=x
   have:=(b a e rfl).1;exact absurd h this
theorem ZfJ {src:LU} (h:(Qh src).2.2=0):(Qh src).1.length<=1000000000:=by
 obtain⟨h1,h2,_⟩:=Z5K h
 have:=(Z6C (src.length+1) src 0 (Nat.lt_succ_self _)).1;rw[h1];omega
theorem ZfI {src:LU} (h:(Qh src).2.2=0): ∀ t∈(Qh src).1,t.2.1.length<=1000000000:=by
 obtain⟨h1,h2,_⟩:=Z5K h;intro t a;rw[h1] at a
 have:=(Z6C (src.length+1) src 0 (Nat.lt_succ_self _)).2 t a;omega
theorem ZfH {src:LU} (h:(Qh src).2.2=0):Ps.Z86 (Qh src).1:=by
 obtain⟨h1,_⟩:=Z5K h;rw[h1];exact Lx.Z8R (src.length+1) src 0 (Nat.lt_succ_self _)
def lexS (src:LU) (h:(Qh src).2.2=0):PS:=⟨(Qh src).1,false,[],[],[],ZfJ h,ZfI h,ZfH h⟩
theorem ZeQ (p:PS) (src:LU) (a:Int) (x:PR Ru) (hc:CallL Tryz.prog (.func (.func 32) [] [.ptr 0 0]) [.ptr 1 0] (psCz zsR p.ts (0:Nat)) (RClo p zsR (λr j=>psCr (ruCs r) p.ts (j:Nat) false [] [] []) x)) (c:FK 11 [.str src] (.tuple [.slice (p.ts.map Zo) [],.int .i64 a,.int .i64 0])) :
  CF 28 [.str src,.func (.func 32) [] [.ptr 0 0]] [(0,.cells zsR)] (RRun src p.ts zsR ruCs x):=by
 refine CallL.treeD Z5 fp28 (Z9 (Z2b _) Z8) (Zdy src 32 (p.ts.map Zo) a 0) ?_;rw[Zs,Qw];refine⟨c,λh=>by simp at h,λ_=>?_⟩;rw[Z0r];refine KDef.at (k2:=20) 53 _ _ rfl (by kernel_rfl) (Nat.le_of_ble_eq_true rfl) (by decide) (Nat.le_of_ble_eq_true rfl) ?_;cases x with
 |ok t j =>
  refine At.treeD Z6u (ZaD src 32 p.ts a 0 (Z7L p.ts src.length j) 40 (t.k:Nat) (heL t.h) (kT t.lo:Nat) (nT t.lo) (nmT t.lo) (Tm.cellsL (Ps.arT t.lo)) (kT t.up:Nat) (nT t.up) (nmT t.up) (Tm.cellsL (Ps.arT t.up)) (boL t.b) (kT t.w:Nat) (nT t.w) (nmT t.w) (Tm.cellsL (Ps.arT t.w)) (kT t.lv:Nat) (nT t.lv) (nmT t.lv) (Tm.cellsL (Ps.arT t.lv)) (Tm.cellsL t.t) true Go.undef (fltV j 40) j false [] [] []) ?_;simp only[SS,List.length_map];refine⟨⟨hc,λh=>?_,λh=>?_⟩,nofun⟩
  ·refine⟨QV (p.acc ac0) j 40,Z75 src a 0 p.ts j 40,?_⟩;show _/\_;rw[if_pos (show j<p.ts.length by omega)];exact⟨rfl,rfl⟩
  ·refine⟨Zal src 0 0 p.ts,?_⟩;show _/\_;rw[if_neg (show ¬ j<p.ts.length by omega)];exact⟨rfl,rfl⟩
 |bad b e =>
  refine At.treeD Z6u (ZaD src 32 p.ts a 0 (Z7L p.ts src.length b) e 0 [] 0 0 [] [] 0 0 [] [] [] 0 0 [] [] 0 0 [] [] [] false (fltV b e) Go.undef 0 false [] [] []) ?_;simp only[SS,List.length_map];exact⟨nofun,hc,Z75 src a 0 p.ts b e,rfl,rfl⟩
theorem ZeR (p:PS) (src:LU) (a:Int) (x:PR Ac) (hc:CallL Tryz.prog (.func (.func 29) [] [.ptr 0 0]) [.ptr 1 0] (psCz zsP p.ts (0:Nat)) (RClo p zsP (osP p) x)) (c:FK 11 [.str src] (.tuple [.slice (p.ts.map Zo) [],.int .i64 a,.int .i64 0])) :
  CF 28 [.str src,.func (.func 29) [] [.ptr 0 0]] [(0,.cells zsP)] (RRun src p.ts zsP pgCs x):=by
 refine CallL.treeD Z5 fp28 (Z9 (Z2b _) Z8) (ZaC src 29 (p.ts.map Zo) a 0) ?_;rw[Zs,Qw];refine⟨c,λh=>by simp at h,λ_=>?_⟩;rw[Z0r];refine KDef.at (k2:=20) 53 _ _ rfl (by kernel_rfl) (Nat.le_of_ble_eq_true rfl) (by decide) (Nat.le_of_ble_eq_true rfl) ?_;cases x with
 |ok t j =>
  refine At.treeD Z6u (ZaE src 29 p.ts a 0 (Z7L p.ts src.length j) 40 (ruL t.r) (coL t.c) (shL t.s) t.so true Go.undef (fltV j 40) j t.so (ruL t.r) (coL t.c) (shL t.s)) ?_;simp only[SS,List.length_map];refine⟨⟨hc,λh=>?_,λh=>?_⟩,nofun⟩
  ·refine⟨QV (p.acc t) j 40,Z75 src a 0 p.ts j 40,?_⟩;show _/\_;rw[if_pos (show j<p.ts.length by omega)];exact⟨rfl,rfl⟩
  ·refine⟨Zal src 0 0 p.ts,?_⟩;show _/\_;rw[if_neg (show ¬ j<p.ts.length by omega)];exact⟨rfl,rfl⟩
 |bad b e =>
  refine At.treeD Z6u (ZaE src 29 p.ts a 0 (Z7L p.ts src.length b) e [] [] [] false false (fltV b e) Go.undef 0 false [] [] []) ?_;simp only[SS,List.length_map];exact⟨nofun,hc,Z75 src a 0 p.ts b e,rfl,rfl⟩
theorem ZeS (p:PS) (b:p.ts=[]) (src:LU) (a:Int) (c:FK 11 [.str src] (.tuple [.slice (p.ts.map Zo) [],.int .i64 a,.int .i64 0])) :
  CF 28 [.str src,.func (.func 29) [] [.ptr 0 0]] [(0,.cells zsP)] (RRun src p.ts zsP pgCs (Qi p.ts)):=by
 refine CallL.treeD Z5 fp28 (Z9 (Z2b _) Z8) (ZaC src 29 (p.ts.map Zo) a 0) ?_;rw[Zs,Qw];refine⟨c,λh=>by simp at h,λ_=>?_⟩;rw[Z0r];refine KDef.at (k2:=20) 53 _ _ rfl (by kernel_rfl) (Nat.le_of_ble_eq_true rfl) (by decide) (Nat.le_of_ble_eq_true rfl) ?_;refine At.treeD (ZE Z3 λ_=>Z4 (Zh _ _) Z8) (Zgu src 29 p.ts a 0) ?_;have hc:=qPg0 p b;simp only[SS,List.length_map];refine⟨hc,λh=>by rw[b] at h;simp at h,λ_=>⟨Zal src 0 0 p.ts,?_⟩⟩;rw[b];exact⟨rfl,rfl⟩
end Go.Proofs.YtecgehidegnmnaaGreatDoor
/- Parse,Rule,Term. -/
namespace Go.Proofs.YtecgehidegnmnaaGreatDoor
open Go.Sx
open Go.Sx.Lx (Tk Zo)
open Go.Sx.Ps (kT nmT W Sm Ac)
theorem ZdA (src:LU) (a e q:Int) (p:LD) (b k:Int) (s:LU) (g:LD) (c l:Int) (t:LU) (h o:LD) (d m:Int) (u:LU) (i:LD) (f n:Int) (v:LU) (j r:LD):let A:=[dU q,dL p [],dU b,dI k,dS s,dL g [],dU c,dI l,dS t,dL h [],dL o [],dU d,dI m,dS u,dL i [],dU f,dI n,dS v,dL j [],dL r []];let B:=D.tuple [dI a,dI e];gP (ctr libT (psQ B [(0,oC A)])) rs12 sc12 [dS src]=(Ow (CQ 28 [dS src,dF 32 [] [dP 0 0]] [(0,oC [dU 0,D.nils,dU 0,dI 0,dS [],D.nils,dU 0,dI 0,dS [],D.nils,D.nils,dU 0,dI 0,dS [],D.nils,dU 0,dI 0,dS [],D.nils,D.nils])] B [(0,oC A)]) (brT (!decide (e=(0:Int))) (Rt (D.tuple [dA [dU 0,dL [] [],dU 0,dI 0,dS [],dL [] [],dU 0,dI 0,dS [],dL [] [],dL [] [],dU 0,dI 0,dS [],dL [] [],dU 0,dI 0,dS [],dL [] [],dL [] []],dI a,dI e]) []) (Rt (D.tuple [dA A,dI a,dI e]) [])):Tr):=by intro A B;kernel_rfl
theorem ZaW (src:LU) (a e:Int):let A:=Rt (D.tuple [dA [dU 0,dL [] [],dU 0,dI 0,dS [],dL [] [],dU 0,dI 0,dS [],dL [] [],dL [] [],dU 0,dI 0,dS [],dL [] [],dU 0,dI 0,dS [],dL [] [],dL [] []],dI a,dI e]) [];let B:=[(0,oC [dU 0,D.nils,dU 0,dI 0,dS [],D.nils,dU 0,dI 0,dS [],D.nils,D.nils,dU 0,dI 0,dS [],D.nils,dU 0,dI 0,dS [],D.nils,D.nils])];let C:=D.tuple [dI a,dI e];gP (ctr libT (psQ C [(0,oC zsR)])) rs12 sc12 [dS src]=(Ow (CQ 28 [dS src,dF 32 [] [dP 0 0]] B C B) (brT (!decide (e=(0:Int))) A A):Tr):=by intro A B C;kernel_rfl
theorem Zk5 (src:LU) (a e:Int) (c d f:LD) (b:Bool):let A:=[dL c [],dL d [],dL f [],dB b];let B:=D.tuple [dI a,dI e];gP (ctr libT (psQ B [(0,oC A)])) rs9 sc9 [dS src]=(Ow (CQ 28 [dS src,dF 29 [] [dP 0 0]] [(0,oC [D.nils,D.nils,D.nils,dB false])] B [(0,oC A)]) (Rt (D.tuple [dA A,dI a,dI e]) []):Tr):=by intro A B;kernel_rfl
theorem ZaX (src:LU) (a e:Int):let A:=[(0,oC [D.nils,D.nils,D.nils,dB false])];let B:=D.tuple [dI a,dI e];gP (ctr libT (psQ B [(0,oC zsP)])) rs9 sc9 [dS src]=(Ow (CQ 28 [dS src,dF 29 [] [dP 0 0]] A B A) (Rt (D.tuple [dA [dL [] [],dL [] [],dL [] [],dB false],dI a,dI e]) []):Tr):=by intro A B;kernel_rfl
end Go.Proofs.YtecgehidegnmnaaGreatDoor
/- Parse,Rule,Term: what they answer. -/
namespace Go.Proofs.YtecgehidegnmnaaGreatDoor
open Go.Sx
open Go.Sx.Lx (Tk Zo)
open Go.Sx.Ps (kT nmT W Sm Ac)
theorem lexF (src:LU) (h:(Qh src).2.2=0):FK 11 [.str src] (.tuple [.slice ((lexS src h).ts.map Zo) [],.int .i64 (Qh src).2.1,.int .i64 0]):=by
 have:=Z9w src;rw[h] at this;exact this
theorem Zbv (src:LU) (g:Nat) (h:(Qh src).2.2≠0):CF 28 [.str src,.func (.func g) [] [.ptr 0 0]] [(0,.cells zsR)] λr ob=>r=.tuple [.int .i64 (Qh src).2.1,.int .i64 (Qh src).2.2]/\ob=[(0,.cells zsR)]:=by
 refine CallL.treeD Z5 fp28 (Z9 (Z2b _) Z8) (Zdy src g ((Qh src).1.map Zo) (Qh src).2.1 (Qh src).2.2) ?_;rw[Zs,Qw];exact⟨Z9w src,λ_=>⟨rfl,rfl⟩,λh'=>absurd (by simpa using h') h⟩
theorem Z4k (src:LU):FK 12 [.str src] (.tuple [ruE (Z5A src).1,.int .i64 (Z5A src).2.1,.int .i64 (Z5A src).2.2]):=by
 unfold Z5A Zhg;by_cases hl:(Qh src).2.2=0
 ·rw[if_pos hl];have hr:=ZeQ (lexS src hl) src (Qh src).2.1 _ (qRu1 (lexS src hl)) (lexF src hl);change CallL _ _ _ _ (RRun src (Qh src).1 zsR ruCs (Zy (Qh src).1 0)) at hr;show FnOK _ _ _ (.tuple [ruE (ZbF (Qh src).1 src zR (Zy (Qh src).1 0)).1,.int .i64 (ZbF (Qh src).1 src zR (Zy (Qh src).1 0)).2.1,.int .i64 (ZbF (Qh src).1 src zR (Zy (Qh src).1 0)).2.2]);have a:=(Ps.Z88 (Sm.self (Qh src).1) 0).w;rw[show (0:Nat)+0=0 from rfl] at a;generalize Zy (Qh src).1 0=x at hr a;cases x with
  |ok t j =>
   unfold RRun at hr;simp only at hr;unfold ZbF Zkx;simp only[PR.bind];by_cases c:j<(Qh src).1.length
   ·rw[if_pos c] at hr ⊢;refine FnOK.tree Z5 fp12 (Z9 Z3 (Zh _ _)) (ZdA src (Z7L (Qh src).1 src.length j) 40 (t.k:Nat) (heL t.h) (kT t.lo:Nat) (nT t.lo) (nmT t.lo) (Tm.cellsL (Ps.arT t.lo)) (kT t.up:Nat) (nT t.up) (nmT t.up) (Tm.cellsL (Ps.arT t.up)) (boL t.b) (kT t.w:Nat) (nT t.w) (nmT t.w) (Tm.cellsL (Ps.arT t.w)) (kT t.lv:Nat) (nT t.lv) (nmT t.lv) (Tm.cellsL (Ps.arT t.lv)) (Tm.cellsL t.t)) ?_;simp only[SS];exact⟨hr,λ_=>rfl,λh=>absurd h (by decide)⟩
   ·rw[if_neg c] at hr ⊢;refine FnOK.tree Z5 fp12 (Z9 Z3 (Zh _ _)) (ZdA src 0 0 (t.k:Nat) (heL t.h) (kT t.lo:Nat) (nT t.lo) (nmT t.lo) (Tm.cellsL (Ps.arT t.lo)) (kT t.up:Nat) (nT t.up) (nmT t.up) (Tm.cellsL (Ps.arT t.up)) (boL t.b) (kT t.w:Nat) (nT t.w) (nmT t.w) (Tm.cellsL (Ps.arT t.w)) (kT t.lv:Nat) (nT t.lv) (nmT t.lv) (Tm.cellsL (Ps.arT t.lv)) (Tm.cellsL t.t)) ?_;simp only[SS];refine⟨hr,?_⟩;first|exact λh=>absurd trivial h|exact⟨λh=>absurd trivial h,λ_=>rfl⟩|exact⟨λh=>absurd trivial h,rfl⟩
  |bad b e =>
   have d:e≠0:=a.1;refine FnOK.tree Z5 fp12 (Z9 Z3 (Zh _ _)) (ZaW src (Z7L (Qh src).1 src.length b) e) ?_;simp only[SS];exact⟨hr,λ_=>rfl,λh=>absurd h d⟩
 ·rw[if_neg hl];refine FnOK.tree Z5 fp12 (Z9 Z3 (Zh _ _)) (ZaW src (Qh src).2.1 (Qh src).2.2) ?_;simp only[SS];exact⟨Zbv src _ hl,λ_=>rfl,λh=>absurd h hl⟩
theorem Zbw (src:LU) (g:Nat) (h:(Qh src).2.2≠0):CF 28 [.str src,.func (.func g) [] [.ptr 0 0]] [(0,.cells zsP)] λr ob=>r=.tuple [.int .i64 (Qh src).2.1,.int .i64 (Qh src).2.2]/\ob=[(0,.cells zsP)]:=by
 refine CallL.treeD Z5 fp28 (Z9 (Z2b _) Z8) (ZaC src g ((Qh src).1.map Zo) (Qh src).2.1 (Qh src).2.2) ?_;rw[Zs,Qw];exact⟨Z9w src,λ_=>⟨rfl,rfl⟩,λh'=>absurd (by simpa using h') h⟩
theorem Z9P (src:LU):FK 9 [.str src] (.tuple [.agg (pgCs (Qn src).1),.int .i64 (Qn src).2.1,.int .i64 (Qn src).2.2]):=by
 unfold Qn Zhg;by_cases hl:(Qh src).2.2=0
 ·rw[if_pos hl];have hr:CF 28 [.str src,.func (.func 29) [] [.ptr 0 0]] [(0,.cells zsP)] (RRun src (Qh src).1 zsP pgCs (Qi (Qh src).1)):=by
   by_cases c:(Qh src).1=[]
   ·exact ZeS (lexS src hl) c src _ (lexF src hl)
   ·exact ZeR (lexS src hl) src (Qh src).2.1 _ (qPg1 (lexS src hl) (List.length_pos_iff.2 c)) (lexF src hl)
  have a: ∀ b j,Qi (Qh src).1=.ok b j-> ¬ j<(Qh src).1.length:=λb j h=>Ps.Z49 _ _ _ _ _ h;generalize Qi (Qh src).1=x at hr a;cases x with
  |ok t j =>
   have d:=a t j rfl;unfold RRun at hr;simp only at hr;unfold ZbF Zkx;simp only[PR.bind];rw[if_neg d] at hr ⊢;refine FnOK.tree Z5 fp9 (Z9 Z3 (Zh _ _)) (Zk5 src 0 0 (ruL t.r) (coL t.c) (shL t.s) t.so) ?_;simp only[SS];exact⟨hr,rfl⟩
  |bad b e =>
   refine FnOK.tree Z5 fp9 (Z9 Z3 (Zh _ _)) (ZaX src (Z7L (Qh src).1 src.length b) e) ?_;simp only[SS];exact⟨hr,rfl⟩
 ·rw[if_neg hl];refine FnOK.tree Z5 fp9 (Z9 Z3 (Zh _ _)) (ZaX src (Qh src).2.1 (Qh src).2.2) ?_;simp only[SS];exact⟨Zbw src _ hl,rfl⟩
end Go.Proofs.YtecgehidegnmnaaGreatDoor
/- awake,run: true. -/
namespace Go.Proofs.YtecgehidegnmnaaGreatDoor
open Go.Sx
set_option maxRecDepth 100000
def awF (f:FuncId) (xs:List D):Option D :=
 if f=9 then match xs with
  |[.str s]=>some (.tuple [.agg (pgCs (Qn s).1),.int .i64 (Qn s).2.1,.int .i64 (Qn s).2.2])
  |_=>none
 else if f=12 then match xs with
  |[.str s]=>some (.tuple [ruE (Z5A s).1,.int .i64 (Z5A s).2.1,.int .i64 (Z5A s).2.2])
  |_=>none
 else libF f xs
theorem ZjH: ∀ f xs r,awF f xs=some r->FK f xs r:=by
 intro f xs r h;unfold awF at h;split at h
 ·rename_i hf;subst hf;split at h
  ·cases h;exact Z9P _
  ·cases h
 split at h
 ·rename_i hf;subst hf;split at h
  ·cases h;exact Z4k _
  ·cases h
 ·exact Z14 _ _ _ h
def awT (f:FuncId):Option (Nat × SC × List SR):=if f=27 then some (33,ZhF,ZhZ) else lk tabL f
def Zgi:Tab:=⟨awT,λ_ _ _=>none,awF⟩
theorem ZjG: ∀ f N sc rs,awT f=some (N,sc,rs)->FnC Tryz.prog f N sc rs/\QE Tryz.prog f=true:=by
 intro f N sc rs h;unfold awT at h;split at h
 ·rename_i hf;subst hf;cases h;exact Zlc
 ·exact Z8w.T _ _ _ _ h
theorem Zco:Zgi.OK Tryz.prog:=⟨ZjG,(λ_ _ _ _ _ h=>by cases h),ZjH⟩
theorem Zau:fnE Zgi (go Tryz.prog Zgi 20000) 8 []=some (.bool true):=by kernel_rfl
theorem Zcn:FK 8 [] (.bool true):=Z9N Z5 Zco _ Zau
end Go.Proofs.YtecgehidegnmnaaGreatDoor
