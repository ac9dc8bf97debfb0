/- Own work: a layer over the kit: plain data,a walk over it,its soundness. -/
import Derived.Test.YtecgehidegnmnaaGreatDoorPrY
import Derived.Test.YtecgehidegnmnaaGreatDoorSx11
set_option linter.all false
set_option maxRecDepth 100000
/- The parser: run. -/
open Go.Sx.Ps (PR Z8 z0 ZD zR Z33 ZK Z2n Z0I Z59 Z2z Zek Z9T ZkY ZL Z35)
open Go.Sx.Lx (Q5 Z77)
namespace Go.Proofs.YtecgehidegnmnaaGreatDoor
open Go.Sx
open Go.Sx.Lx (Tk Zq)
open Go.Sx.Ps (kT nmT W Sm Ac)
def psZ (ts:List Tk) (i:Int) (so:Bool):Obs:=[(0,.cells [.slice (ts.map Zq) [],.int .i64 i,.nils,.nils,.nils,.bool so])]
theorem nil3 {f:FuncId} {ts:List Tk} {i:Int} {so:Bool} {R:D->Obs->Prop} (h:CallL Tryz.prog (.func (.func f) [] []) [.ptr 0 0] (psO ts i so [] [] []) R):CallL Tryz.prog (.func (.func f) [] []) [.ptr 0 0] (psZ ts i so) R:=by
 have d:CallL Tryz.prog (.func (.func f) [] []) [.ptr 0 0] [(0,.cells [.slice (ts.map Zq) [],.int .i64 i,.vec 1,.vec 2,.nils,.bool so]),(1,.arr true 20 42 []),(2,.arr true 5 53 [])] R:=by
  refine CallL.nilG (m:=3) (i:=0) (j:=4) (sz:=2) (e:=138) (ob:=psO ts i so [] [] []) (cs:=[.slice (ts.map Zq) [],.int .i64 i,.vec 1,.vec 2,.vec 3,.bool so]) (by decide) rfl rfl (by decide) rfl rfl rfl rfl rfl ?_ ?_ ?_ h
  ·intro k x a hx;rcases k with _|_|_|_|_|_|k<;>simp at hx a<;>(subst hx;rfl)
  ·intro k b c;simp[psO,lk,b,c]
  ·intro k o b c a;simp only[psO,lk,if_neg b,if_neg c] at a;left;split at a
   ·cases a;exact⟨_,_,_,rfl⟩
   ·split at a
    ·cases a;exact⟨_,_,_,rfl⟩
    ·cases a
 have h2:CallL Tryz.prog (.func (.func f) [] []) [.ptr 0 0] [(0,.cells [.slice (ts.map Zq) [],.int .i64 i,.vec 1,.nils,.nils,.bool so]),(1,.arr true 20 42 [])] R:=by
  refine CallL.nilG (m:=2) (i:=0) (j:=3) (sz:=5) (e:=53) (cs:=[.slice (ts.map Zq) [],.int .i64 i,.vec 1,.vec 2,.nils,.bool so]) (by decide) rfl rfl (by decide) rfl rfl rfl rfl rfl ?_ ?_ ?_ d
  ·intro k x a hx;rcases k with _|_|_|_|_|_|k<;>simp at hx a<;>(subst hx;rfl)
  ·intro k b c;simp[lk,b,c]
  ·intro k o b c a;simp only[lk,if_neg b,if_neg c] at a;left;split at a
   ·cases a;exact⟨_,_,_,rfl⟩
   ·cases a
 refine CallL.nilG (m:=1) (i:=0) (j:=2) (sz:=20) (e:=42) (cs:=[.slice (ts.map Zq) [],.int .i64 i,.vec 1,.nils,.nils,.bool so]) (by decide) rfl rfl (by decide) rfl rfl rfl rfl rfl ?_ ?_ ?_ h2
 ·intro k x a hx;rcases k with _|_|_|_|_|_|k<;>simp at hx a<;>(subst hx;rfl)
 ·intro k b c;simp[psZ,lk,b,c]
 ·intro k o b c a;simp only[lk,if_neg b,if_neg c] at a;cases a
abbrev ac0:Ac:=⟨[],[],[],false⟩
def RClo {α:Type} (p:PS) (zs:List D) (os:α->Nat->Obs) (x:PR α):D->Obs->Prop:=λr ob=>match x with
 |.ok a j=>r=.tuple []/\ob=os a j
 |.bad a e=>r=.pan (fltV a e)/\ob=[(0,.cells zs)]
def tmCs (t:Tm):List D:=tC (kT t:Nat) (nT t) (nmT t) (Tm.cellsL (Ps.arT t))
def ruCs (r:Ru):List D:=[.int .u8 r.k,.slice (heL r.h) [],.int .u8 (kT r.lo:Nat),.int .i64 (nT r.lo),.str (nmT r.lo),.slice (Tm.cellsL (Ps.arT r.lo)) [],.int .u8 (kT r.up:Nat),.int .i64 (nT r.up),.str (nmT r.up),.slice (Tm.cellsL (Ps.arT r.up)) [],.slice (boL r.b) [],.int .u8 (kT r.w:Nat),.int .i64 (nT r.w),.str (nmT r.w),.slice (Tm.cellsL (Ps.arT r.w)) [],.int .u8 (kT r.lv:Nat),.int .i64 (nT r.lv),.str (nmT r.lv),.slice (Tm.cellsL (Ps.arT r.lv)) [],.slice (Tm.cellsL r.t) []]
def pgCs (b:Ac):List D:=[.slice (ruL b.r) [],.slice (coL b.c) [],.slice (shL b.s) [],.bool b.so]
theorem qTe1 (p:PS):CallL Tryz.prog (.func (.func 50) [] [.ptr 0 0]) [.ptr 1 0] (psCz zsT p.ts (0:Nat)) (RClo p zsT (λt j=>psCr (tmCs t) p.ts (j:Nat) false [] [] []) (Z8 p.ts 0)):=by
 have h:=nil3 (Z32 (p.acc ac0) 0).1;change CallL _ _ _ _ (RS _ _ (Z8 p.ts 0)) at h;refine CallL.tree Z6 fp50 (ZJ Z2 λ_=>(Z3 _ _ _ _)) (Zi7 p.ts (0:Nat) false  (Z8 p.ts 0).isOk (kT ((Z8 p.ts 0).val z0):Nat) (nT ((Z8 p.ts 0).val z0)) (nmT ((Z8 p.ts 0).val z0)) (Tm.cellsL (Ps.arT ((Z8 p.ts 0).val z0))) (Z8 p.ts 0).pos (flt (Z8 p.ts 0)) [] [] []) ?_;simp only[SS];refine psX z0 h (λt j h1=>?_) λa e h1=>?_
 ·simp only[h1,PR.pos,PR.val];exact⟨rfl,rfl⟩
 ·simp only[h1];exact⟨rfl,rfl⟩
theorem qRu1 (p:PS):CallL Tryz.prog (.func (.func 32) [] [.ptr 0 0]) [.ptr 1 0] (psCz zsR p.ts (0:Nat)) (RClo p zsR (λr j=>psCr (ruCs r) p.ts (j:Nat) false [] [] []) (ZD p.ts 0)):=by
 have h:=nil3 (qRu (p.acc ac0) 0).1;change CallL _ _ _ _ (RS _ _ (ZD p.ts 0)) at h;refine CallL.tree Z6 fp32 (ZJ Z2 λ_=>(Z3 _ _ _ _)) (Zid p.ts (0:Nat) false  (ZD p.ts 0).isOk (((ZD p.ts 0).val zR).k:Nat) (heL ((ZD p.ts 0).val zR).h) (kT ((ZD p.ts 0).val zR).lo:Nat) (nT ((ZD p.ts 0).val zR).lo) (nmT ((ZD p.ts 0).val zR).lo) (Tm.cellsL (Ps.arT ((ZD p.ts 0).val zR).lo)) (kT ((ZD p.ts 0).val zR).up:Nat) (nT ((ZD p.ts 0).val zR).up) (nmT ((ZD p.ts 0).val zR).up) (Tm.cellsL (Ps.arT ((ZD p.ts 0).val zR).up)) (boL ((ZD p.ts 0).val zR).b) (kT ((ZD p.ts 0).val zR).w:Nat) (nT ((ZD p.ts 0).val zR).w) (nmT ((ZD p.ts 0).val zR).w) (Tm.cellsL (Ps.arT ((ZD p.ts 0).val zR).w)) (kT ((ZD p.ts 0).val zR).lv:Nat) (nT ((ZD p.ts 0).val zR).lv) (nmT ((ZD p.ts 0).val zR).lv) (Tm.cellsL (Ps.arT ((ZD p.ts 0).val zR).lv)) (Tm.cellsL ((ZD p.ts 0).val zR).t) (ZD p.ts 0).pos (flt (ZD p.ts 0)) [] [] []) ?_;simp only[SS];refine psX zR h (λt j h1=>?_) λa e h1=>?_
 ·simp only[h1,PR.pos,PR.val];exact⟨rfl,rfl⟩
 ·simp only[h1];exact⟨rfl,rfl⟩
abbrev osP (p:PS) (b:Ac) (j:Nat):Obs:=psCr (pgCs b) p.ts (j:Nat) b.so (ruL b.r) (coL b.c) (shL b.s)
theorem qPgB (p:PS): ∀ (n:Nat) (a:Ac) (i:Nat),p.ts.length-i<n->At Tryz.prog 10 (cut sc29 0) (Zk6 p.ts i a.so (ruL a.r) (coL a.c) (shL a.s)) (FinQ false 10 rs29 (RClo p zsP (osP p) (Z33 p.ts n a i)))
 |0,a,i,h=>by omega
 |n+1,a,i,h=>by
  have c:=ZjF p a i;unfold Z33;by_cases hi:i<p.ts.length
  ·rw[if_pos hi];cases hx:ZK p.ts a i with
   |ok b j =>
    rw[hx] at c;have d:=Z2n (Sm.self p.ts) a i (.inr rfl);rw[show i+0=i from rfl,hx] at d;have f:=d.1;refine At.tree (ZJ Z2 λ_=>(Z3 _ _ _ _)) (Z6y p.ts i a.so b.so (ruL b.r) (coL b.c) (shL b.s) (PR.ok () j).isOk  (PR.ok () j).pos (flt (PR.ok () j)) (ruL a.r) (coL a.c) (shL a.s)) ?_;simp only[SS,List.length_map];exact⟨λ_=>⟨λ_=>⟨c,qPgB p n b j (by omega)⟩,nofun⟩,λh=>by omega⟩
   |bad b e =>
    rw[hx] at c;refine At.tree (ZJ Z2 λ_=>(Z3 _ _ _ _)) (Z6y p.ts i a.so false [] [] [] ((PR.bad b e:PR Unit)).isOk  ((PR.bad b e:PR Unit)).pos (flt ((PR.bad b e:PR Unit))) (ruL a.r) (coL a.c) (shL a.s)) ?_;simp only[SS,List.length_map];exact⟨λ_=>⟨nofun,λ_=>⟨c,rfl,rfl⟩⟩,λh=>by omega⟩
  ·rw[if_neg hi];refine At.tree (ZJ Z2 λ_=>(Z3 _ _ _ _)) (Z6y p.ts i a.so false [] [] [] (PR.ok () 0).isOk  (PR.ok () 0).pos (flt (PR.ok () 0)) (ruL a.r) (coL a.c) (shL a.s)) ?_;simp only[SS,List.length_map];exact⟨λh=>by omega,λ_=>⟨rfl,rfl⟩⟩
theorem qPg1 (p:PS) (c:0<p.ts.length):CallL Tryz.prog (.func (.func 29) [] [.ptr 0 0]) [.ptr 1 0] (psCz zsP p.ts (0:Nat)) (RClo p zsP (osP p) (Z0I p.ts)):=by
 refine CallL.tree Z6 fp29 (ZJ Z2 λ_=>(Z3 _ _ _ _)) (Zbv p.ts (0:Nat) false  (PR.ok () 0).isOk  (PR.ok () 0).pos (flt (PR.ok () 0)) [] [] []) ?_;have a:=nil3 (ZjF p ac0 0);show At Tryz.prog 10 (cut sc29 0) (Zhb p.ts (0:Nat)) _;unfold Z0I Ps.fu;rw[Z33,if_pos c];cases hx:ZK p.ts ac0 0 with
 |ok b j =>
  rw[hx] at a;have d:=Z2n (Sm.self p.ts) ac0 0 (.inr rfl);rw[show 0+0=0 from rfl,hx] at d;have f:=d.1;refine At.tree (ZJ Z2 λ_=>(Z3 _ _ _ _)) (Z6z p.ts (0:Nat) false b.so (ruL b.r) (coL b.c) (shL b.s) (PR.ok () j).isOk  (PR.ok () j).pos (flt (PR.ok () j)) [] [] []) ?_;simp only[SS,List.length_map];exact⟨λ_=>⟨λ_=>⟨a,qPgB p p.ts.length b j (by omega)⟩,nofun⟩,λh=>by omega⟩
 |bad b e =>
  rw[hx] at a;refine At.tree (ZJ Z2 λ_=>(Z3 _ _ _ _)) (Z6z p.ts (0:Nat) false false [] [] [] ((PR.bad b e:PR Unit)).isOk  ((PR.bad b e:PR Unit)).pos (flt ((PR.bad b e:PR Unit))) [] [] []) ?_;simp only[SS,List.length_map];exact⟨λ_=>⟨nofun,λ_=>⟨a,rfl,rfl⟩⟩,λh=>by omega⟩
theorem qPg0 (p:PS) (a:p.ts=[]):CallL Tryz.prog (.func (.func 29) [] [.ptr 0 0]) [.ptr 1 0] (psCz zsP p.ts (0:Nat)) λr ob=>r=.tuple []/\ob=psCz [.slice [] [],.slice [] [],.slice [] [],.bool false] p.ts (0:Nat):=by
 refine CallL.tree Z6 fp29 (ZJ Z2 λ_=>(Z3 _ _ _ _)) (Zbv p.ts (0:Nat) false  (PR.ok () 0).isOk  (PR.ok () 0).pos (flt (PR.ok () 0)) [] [] []) ?_;show At Tryz.prog 10 (cut sc29 0) (Zhb p.ts (0:Nat)) _;refine At.tree (ZJ Z2 λ_=>(Z3 _ _ _ _)) (Z6z p.ts (0:Nat) false false [] [] [] (PR.ok () 0).isOk  (PR.ok () 0).pos (flt (PR.ok () 0)) [] [] []) ?_;simp only[SS,List.length_map,a,List.length_nil];refine⟨λh=>by omega,λ_=>?_⟩;first|exact rfl|exact⟨rfl,rfl⟩
/- run. -/
theorem fnD:FnC Tryz.prog 53 27 (.seq (.spec (.rcv 7 (rcvO sc53))) (rcvB sc53)) []:=fp53.1
theorem Z7H (src:LU) (a e:Int) (ts:List Tk):Sx.CallD Tryz.prog .returning (.func (.func 53) [] [.ptr 0 0,.ptr 1 0,.ptr 2 0,.ptr 3 0]) (obR src a e ts) λu o=>u=.returning/\o=obR src a e ts :=
 CallD.tree Z6 fnD (first:=[]) (Z7 Z2 Z5) (Zm2 src a e ts) ⟨rfl,rfl⟩
theorem Z49 (src:LU) (a e:Int) (ts:List Tk) (f:Nat) (b:Int):Sx.CallD Tryz.prog (.panicking [⟨fltV f b,false,false⟩]) (.func (.func 53) [] [.ptr 0 0,.ptr 1 0,.ptr 2 0,.ptr 3 0]) (obR src a e ts) λu o=>u=.panicking [⟨fltV f b,true,false⟩]/\o=obR src (Z59 ts src.length f) b ts:=by
 cases c:ts[f]? with
 |some t =>
  have d:f<ts.length:=(List.getElem?_eq_some_iff.1 c).1;refine CallD.tree Z6 fnD (first:=[]) (Z7 Z2 Z5) (ZeF src a e ts f b t.1 t.2.2 t.2.1) ?_;unfold CdP Z59;rw[c];simp only[SS,List.length_map];refine⟨λ_=>⟨⟨by omega,?_⟩,rfl,rfl⟩,λh=>by omega⟩;rw[List.getElem?_map,c];rfl
 |none =>
  have d:ts.length<=f:=List.getElem?_eq_none_iff.1 c;refine CallD.tree Z6 fnD (first:=[]) (Z7 Z2 Z5) (ZeF src a e ts f b 0 0 []) ?_;unfold CdP Z59;rw[c];simp only[SS,List.length_map];exact⟨λh=>by omega,λ_=>⟨rfl,rfl⟩⟩
def RRun {α:Type} (src:LU) (ts:List Tk) (zs:List D) (cs:α->List D) (x:PR α):D->Obs->Prop:=λr ob=>match x with
 |.ok a j=>(r=if j<ts.length then .tuple [.int .i64 (Z59 ts src.length j),.int .i64 40] else .tuple [.int .i64 0,.int .i64 0])/\ob=[(0,.cells (cs a))]
 |.bad a e=>r=.tuple [.int .i64 (Z59 ts src.length a),.int .i64 e]/\ob=[(0,.cells zs)]
theorem Z3L {b:Bool} {r:D} {o' op:Obs} {v a:Value}:(⟨λ_=>libT,λn=>if n=25 then psP b r o' v op else psB false .undef [] a,noE⟩:Ctr).OK Tryz.prog:=ZJ Z2 λ_=>Z4 (ZjR _ _ _ _ _) (Z3 _ _ _ _)
theorem Z66 {src:LU} (h:(Q5 src).2.2=0):(Q5 src).1=(Lx.run 0 src).1/\src.length<=32768/\(Lx.run 0 src).2.1=none/\(Q5 src).2.1=0:=by
 rw[Lx.Zab] at h ⊢;split at h
 ·cases h
 ·rename_i hl;rw[if_neg hl];have b:=Lx.ZfV (src.length+1) src 0 (Nat.lt_succ_self _);generalize Lx.run 0 src=q at h b ⊢;obtain⟨l,o,n⟩:=q;cases o with
  |none=>exact⟨rfl,by omega,rfl,rfl⟩
  |some x =>
   obtain⟨a,e⟩:=x
   have:=(b a e rfl).1;exact absurd h this
theorem Zh1 {src:LU} (h:(Q5 src).2.2=0):(Q5 src).1.length<=1000000000:=by
 obtain⟨h1,h2,_⟩:=Z66 h
 have:=(Z77 (src.length+1) src 0 (Nat.lt_succ_self _)).1;rw[h1];omega
theorem Zh0 {src:LU} (h:(Q5 src).2.2=0): ∀ t∈(Q5 src).1,t.2.1.length<=1000000000:=by
 obtain⟨h1,h2,_⟩:=Z66 h;intro t a;rw[h1] at a
 have:=(Z77 (src.length+1) src 0 (Nat.lt_succ_self _)).2 t a;omega
theorem ZgZ {src:LU} (h:(Q5 src).2.2=0):Ps.Zdd (Q5 src).1:=by
 obtain⟨h1,_⟩:=Z66 h;rw[h1];exact Lx.ZfT (src.length+1) src 0 (Nat.lt_succ_self _)
def lexS (src:LU) (h:(Q5 src).2.2=0):PS:=⟨(Q5 src).1,false,[],[],[],Zh1 h,Zh0 h,ZgZ h⟩
theorem ZfX (p:PS) (src:LU) (a:Int) (x:PR Tm) (hc:CallL Tryz.prog (.func (.func 50) [] [.ptr 0 0]) [.ptr 1 0] (psCz zsT p.ts (0:Nat)) (RClo p zsT (λt j=>psCr (tmCs t) p.ts (j:Nat) false [] [] []) x)) (c:FK 11 [.str src] (.tuple [.slice (p.ts.map Zq) [],.int .i64 a,.int .i64 0])) :
  CF 28 [.str src,.func (.func 50) [] [.ptr 0 0]] [(0,.cells zsT)] (RRun src p.ts zsT tmCs x):=by
 refine CallL.treeD Z6 fp28 (Z7 (QR _) Z5) (Zew src 50 (p.ts.map Zq) a 0) ?_;rw[Zo,Qb];refine⟨c,λh=>by simp at h,λ_=>?_⟩;rw[QY];refine KDef.at (k2:=20) 53 _ _ rfl (by kernel_rfl) (Nat.le_of_ble_eq_true rfl) (by decide) (Nat.le_of_ble_eq_true rfl) ?_;cases x with
 |ok t j =>
  refine At.treeD Z3L (Zbk src 50 p.ts a 0 (Z59 p.ts src.length j) 40 (kT t:Nat) (nT t) (nmT t) (Tm.cellsL (Ps.arT t)) true Go.undef (fltV j 40) j false [] [] []) ?_;simp only[SS,List.length_map];refine⟨⟨hc,λh=>?_,λh=>?_⟩,nofun⟩
  ·refine⟨QX (p.acc ac0) j 40,Z49 src a 0 p.ts j 40,?_⟩;show _/\_;rw[if_pos (show j<p.ts.length by omega)];exact⟨rfl,rfl⟩
  ·refine⟨Z7H src 0 0 p.ts,?_⟩;show _/\_;rw[if_neg (show ¬ j<p.ts.length by omega)];exact⟨rfl,rfl⟩
 |bad b e =>
  refine At.treeD Z3L (Zbk src 50 p.ts a 0 (Z59 p.ts src.length b) e 0 0 [] [] false (fltV b e) Go.undef 0 false [] [] []) ?_;simp only[SS,List.length_map];exact⟨nofun,hc,Z49 src a 0 p.ts b e,rfl,rfl⟩
theorem ZfY (p:PS) (src:LU) (a:Int) (x:PR Ru) (hc:CallL Tryz.prog (.func (.func 32) [] [.ptr 0 0]) [.ptr 1 0] (psCz zsR p.ts (0:Nat)) (RClo p zsR (λr j=>psCr (ruCs r) p.ts (j:Nat) false [] [] []) x)) (c:FK 11 [.str src] (.tuple [.slice (p.ts.map Zq) [],.int .i64 a,.int .i64 0])) :
  CF 28 [.str src,.func (.func 32) [] [.ptr 0 0]] [(0,.cells zsR)] (RRun src p.ts zsR ruCs x):=by
 refine CallL.treeD Z6 fp28 (Z7 (QR _) Z5) (Zex src 32 (p.ts.map Zq) a 0) ?_;rw[Zo,Qb];refine⟨c,λh=>by simp at h,λ_=>?_⟩;rw[QY];refine KDef.at (k2:=20) 53 _ _ rfl (by kernel_rfl) (Nat.le_of_ble_eq_true rfl) (by decide) (Nat.le_of_ble_eq_true rfl) ?_;cases x with
 |ok t j =>
  refine At.treeD Z3L (Zbl src 32 p.ts a 0 (Z59 p.ts src.length j) 40 (t.k:Nat) (heL t.h) (kT t.lo:Nat) (nT t.lo) (nmT t.lo) (Tm.cellsL (Ps.arT t.lo)) (kT t.up:Nat) (nT t.up) (nmT t.up) (Tm.cellsL (Ps.arT t.up)) (boL t.b) (kT t.w:Nat) (nT t.w) (nmT t.w) (Tm.cellsL (Ps.arT t.w)) (kT t.lv:Nat) (nT t.lv) (nmT t.lv) (Tm.cellsL (Ps.arT t.lv)) (Tm.cellsL t.t) true Go.undef (fltV j 40) j false [] [] []) ?_;simp only[SS,List.length_map];refine⟨⟨hc,λh=>?_,λh=>?_⟩,nofun⟩
  ·refine⟨QX (p.acc ac0) j 40,Z49 src a 0 p.ts j 40,?_⟩;show _/\_;rw[if_pos (show j<p.ts.length by omega)];exact⟨rfl,rfl⟩
  ·refine⟨Z7H src 0 0 p.ts,?_⟩;show _/\_;rw[if_neg (show ¬ j<p.ts.length by omega)];exact⟨rfl,rfl⟩
 |bad b e =>
  refine At.treeD Z3L (Zbl src 32 p.ts a 0 (Z59 p.ts src.length b) e 0 [] 0 0 [] [] 0 0 [] [] [] 0 0 [] [] 0 0 [] [] [] false (fltV b e) Go.undef 0 false [] [] []) ?_;simp only[SS,List.length_map];exact⟨nofun,hc,Z49 src a 0 p.ts b e,rfl,rfl⟩
theorem ZfZ (p:PS) (src:LU) (a:Int) (x:PR Ac) (hc:CallL Tryz.prog (.func (.func 29) [] [.ptr 0 0]) [.ptr 1 0] (psCz zsP p.ts (0:Nat)) (RClo p zsP (osP p) x)) (c:FK 11 [.str src] (.tuple [.slice (p.ts.map Zq) [],.int .i64 a,.int .i64 0])) :
  CF 28 [.str src,.func (.func 29) [] [.ptr 0 0]] [(0,.cells zsP)] (RRun src p.ts zsP pgCs x):=by
 refine CallL.treeD Z6 fp28 (Z7 (QR _) Z5) (Zbj src 29 (p.ts.map Zq) a 0) ?_;rw[Zo,Qb];refine⟨c,λh=>by simp at h,λ_=>?_⟩;rw[QY];refine KDef.at (k2:=20) 53 _ _ rfl (by kernel_rfl) (Nat.le_of_ble_eq_true rfl) (by decide) (Nat.le_of_ble_eq_true rfl) ?_;cases x with
 |ok t j =>
  refine At.treeD Z3L (Zbm src 29 p.ts a 0 (Z59 p.ts src.length j) 40 (ruL t.r) (coL t.c) (shL t.s) t.so true Go.undef (fltV j 40) j t.so (ruL t.r) (coL t.c) (shL t.s)) ?_;simp only[SS,List.length_map];refine⟨⟨hc,λh=>?_,λh=>?_⟩,nofun⟩
  ·refine⟨QX (p.acc t) j 40,Z49 src a 0 p.ts j 40,?_⟩;show _/\_;rw[if_pos (show j<p.ts.length by omega)];exact⟨rfl,rfl⟩
  ·refine⟨Z7H src 0 0 p.ts,?_⟩;show _/\_;rw[if_neg (show ¬ j<p.ts.length by omega)];exact⟨rfl,rfl⟩
 |bad b e =>
  refine At.treeD Z3L (Zbm src 29 p.ts a 0 (Z59 p.ts src.length b) e [] [] [] false false (fltV b e) Go.undef 0 false [] [] []) ?_;simp only[SS,List.length_map];exact⟨nofun,hc,Z49 src a 0 p.ts b e,rfl,rfl⟩
theorem Zg0 (p:PS) (b:p.ts=[]) (src:LU) (a:Int) (c:FK 11 [.str src] (.tuple [.slice (p.ts.map Zq) [],.int .i64 a,.int .i64 0])) :
  CF 28 [.str src,.func (.func 29) [] [.ptr 0 0]] [(0,.cells zsP)] (RRun src p.ts zsP pgCs (Z0I p.ts)):=by
 refine CallL.treeD Z6 fp28 (Z7 (QR _) Z5) (Zbj src 29 (p.ts.map Zq) a 0) ?_;rw[Zo,Qb];refine⟨c,λh=>by simp at h,λ_=>?_⟩;rw[QY];refine KDef.at (k2:=20) 53 _ _ rfl (by kernel_rfl) (Nat.le_of_ble_eq_true rfl) (by decide) (Nat.le_of_ble_eq_true rfl) ?_;refine At.treeD (ZJ Z2 λ_=>Z4 (Zi _ _) Z5) (ZhY src 29 p.ts a 0) ?_;have hc:=qPg0 p b;simp only[SS,List.length_map];refine⟨hc,λh=>by rw[b] at h;simp at h,λ_=>⟨Z7H src 0 0 p.ts,?_⟩⟩;rw[b];exact⟨rfl,rfl⟩
end Go.Proofs.YtecgehidegnmnaaGreatDoor
/- Parse,Rule,Term. -/
namespace Go.Proofs.YtecgehidegnmnaaGreatDoor
open Go.Sx
open Go.Sx.Lx (Tk Zq)
open Go.Sx.Ps (kT nmT W Sm Ac)
theorem Zez (src:LU) (a e b d:Int) (sz:LU) (c:LD):let A:=tC b d sz c;let B:=D.tuple [dI a,dI e];gP (ctr libT (psQ B [(0,oC A)])) rs23 sc23 [dS src]=(Ow (CQ 28 [dS src,dF 50 [] [dP 0 0]] [(0,oC [dU 0,dI 0,dS [],D.nils])] B [(0,oC A)]) (brT (!decide (e=(0:Int))) (Rt (D.tuple [dA [dU 0,dI 0,dS [],dL [] []],dI a,dI e]) []) (Rt (D.tuple [dA A,dI a,dI e]) [])):Tr):=by intro A B;kernel_rfl
theorem Zbz (src:LU) (a e:Int):let A:=Rt (D.tuple [dA [dU 0,dI 0,dS [],dL [] []],dI a,dI e]) [];let B:=[(0,oC [dU 0,dI 0,dS [],D.nils])];let C:=D.tuple [dI a,dI e];gP (ctr libT (psQ C [(0,oC zsT)])) rs23 sc23 [dS src]=(Ow (CQ 28 [dS src,dF 50 [] [dP 0 0]] B C B) (brT (!decide (e=(0:Int))) A A):Tr):=by intro A B C;kernel_rfl
theorem ZeA (src:LU) (a e q:Int) (p:LD) (b k:Int) (s:LU) (g:LD) (c l:Int) (t:LU) (h o:LD) (d m:Int) (u:LU) (i:LD) (f n:Int) (v:LU) (j r:LD):let A:=[dU q,dL p [],dU b,dI k,dS s,dL g [],dU c,dI l,dS t,dL h [],dL o [],dU d,dI m,dS u,dL i [],dU f,dI n,dS v,dL j [],dL r []];let B:=D.tuple [dI a,dI e];gP (ctr libT (psQ B [(0,oC A)])) rs12 sc12 [dS src]=(Ow (CQ 28 [dS src,dF 32 [] [dP 0 0]] [(0,oC [dU 0,D.nils,dU 0,dI 0,dS [],D.nils,dU 0,dI 0,dS [],D.nils,D.nils,dU 0,dI 0,dS [],D.nils,dU 0,dI 0,dS [],D.nils,D.nils])] B [(0,oC A)]) (brT (!decide (e=(0:Int))) (Rt (D.tuple [dA [dU 0,dL [] [],dU 0,dI 0,dS [],dL [] [],dU 0,dI 0,dS [],dL [] [],dL [] [],dU 0,dI 0,dS [],dL [] [],dU 0,dI 0,dS [],dL [] [],dL [] []],dI a,dI e]) []) (Rt (D.tuple [dA A,dI a,dI e]) [])):Tr):=by intro A B;kernel_rfl
theorem ZbA (src:LU) (a e:Int):let A:=Rt (D.tuple [dA [dU 0,dL [] [],dU 0,dI 0,dS [],dL [] [],dU 0,dI 0,dS [],dL [] [],dL [] [],dU 0,dI 0,dS [],dL [] [],dU 0,dI 0,dS [],dL [] [],dL [] []],dI a,dI e]) [];let B:=[(0,oC [dU 0,D.nils,dU 0,dI 0,dS [],D.nils,dU 0,dI 0,dS [],D.nils,D.nils,dU 0,dI 0,dS [],D.nils,dU 0,dI 0,dS [],D.nils,D.nils])];let C:=D.tuple [dI a,dI e];gP (ctr libT (psQ C [(0,oC zsR)])) rs12 sc12 [dS src]=(Ow (CQ 28 [dS src,dF 32 [] [dP 0 0]] B C B) (brT (!decide (e=(0:Int))) A A):Tr):=by intro A B C;kernel_rfl
theorem ZlI (src:LU) (a e:Int) (c d f:LD) (b:Bool):let A:=[dL c [],dL d [],dL f [],dB b];let B:=D.tuple [dI a,dI e];gP (ctr libT (psQ B [(0,oC A)])) rs9 sc9 [dS src]=(Ow (CQ 28 [dS src,dF 29 [] [dP 0 0]] [(0,oC [D.nils,D.nils,D.nils,dB false])] B [(0,oC A)]) (Rt (D.tuple [dA A,dI a,dI e]) []):Tr):=by intro A B;kernel_rfl
theorem ZbB (src:LU) (a e:Int):let A:=[(0,oC [D.nils,D.nils,D.nils,dB false])];let B:=D.tuple [dI a,dI e];gP (ctr libT (psQ B [(0,oC zsP)])) rs9 sc9 [dS src]=(Ow (CQ 28 [dS src,dF 29 [] [dP 0 0]] A B A) (Rt (D.tuple [dA [dL [] [],dL [] [],dL [] [],dB false],dI a,dI e]) []):Tr):=by intro A B;kernel_rfl
end Go.Proofs.YtecgehidegnmnaaGreatDoor
/- Parse,Rule,Term: what they answer. -/
namespace Go.Proofs.YtecgehidegnmnaaGreatDoor
open Go.Sx
open Go.Sx.Lx (Tk Zq)
open Go.Sx.Ps (kT nmT W Sm Ac)
theorem lexF (src:LU) (h:(Q5 src).2.2=0):FK 11 [.str src] (.tuple [.slice ((lexS src h).ts.map Zq) [],.int .i64 (Q5 src).2.1,.int .i64 0]):=by
 have:=Z7r src;rw[h] at this;exact this
theorem Zc9 (src:LU) (g:Nat) (h:(Q5 src).2.2≠0):CF 28 [.str src,.func (.func g) [] [.ptr 0 0]] [(0,.cells zsT)] λr ob=>r=.tuple [.int .i64 (Q5 src).2.1,.int .i64 (Q5 src).2.2]/\ob=[(0,.cells zsT)]:=by
 refine CallL.treeD Z6 fp28 (Z7 (QR _) Z5) (Zew src g ((Q5 src).1.map Zq) (Q5 src).2.1 (Q5 src).2.2) ?_;rw[Zo,Qb];exact⟨Z7r src,λ_=>⟨rfl,rfl⟩,λh'=>absurd (by simpa using h') h⟩
theorem Zho (src:LU):FK 23 [.str src] (.tuple [tmE (Z2z src).1,.int .i64 (Z2z src).2.1,.int .i64 (Z2z src).2.2]):=by
 unfold Z2z Zek;by_cases hl:(Q5 src).2.2=0
 ·rw[if_pos hl];have hr:=ZfX (lexS src hl) src (Q5 src).2.1 _ (qTe1 (lexS src hl)) (lexF src hl);change CallL _ _ _ _ (RRun src (Q5 src).1 zsT tmCs (Z8 (Q5 src).1 0)) at hr;show FnOK _ _ _ (.tuple [tmE (Z9T (Q5 src).1 src z0 (Z8 (Q5 src).1 0)).1,.int .i64 (Z9T (Q5 src).1 src z0 (Z8 (Q5 src).1 0)).2.1,.int .i64 (Z9T (Q5 src).1 src z0 (Z8 (Q5 src).1 0)).2.2]);have a:=Ps.Z1G (Sm.self (Q5 src).1) 0;rw[show (0:Nat)+0=0 from rfl] at a;generalize Z8 (Q5 src).1 0=x at hr a;cases x with
  |ok t j =>
   unfold RRun at hr;simp only at hr;unfold Z9T ZkY;simp only[PR.bind];by_cases c:j<(Q5 src).1.length
   ·rw[if_pos c] at hr ⊢;refine FnOK.tree Z6 fp23 (Z7 Z2 (Zi _ _)) (Zez src (Z59 (Q5 src).1 src.length j) 40 (kT t:Nat) (nT t) (nmT t) (Tm.cellsL (Ps.arT t))) ?_;simp only[SS];exact⟨hr,λ_=>rfl,λh=>absurd h (by decide)⟩
   ·rw[if_neg c] at hr ⊢;refine FnOK.tree Z6 fp23 (Z7 Z2 (Zi _ _)) (Zez src 0 0 (kT t:Nat) (nT t) (nmT t) (Tm.cellsL (Ps.arT t))) ?_;simp only[SS];refine⟨hr,?_⟩;first|exact λh=>absurd trivial h|exact⟨λh=>absurd trivial h,λ_=>rfl⟩|exact⟨λh=>absurd trivial h,rfl⟩
  |bad b e =>
   have d:e≠0:=a.1;refine FnOK.tree Z6 fp23 (Z7 Z2 (Zi _ _)) (Zbz src (Z59 (Q5 src).1 src.length b) e) ?_;simp only[SS];exact⟨hr,λ_=>rfl,λh=>absurd h d⟩
 ·rw[if_neg hl];refine FnOK.tree Z6 fp23 (Z7 Z2 (Zi _ _)) (Zbz src (Q5 src).2.1 (Q5 src).2.2) ?_;simp only[SS];exact⟨Zc9 src _ hl,λ_=>rfl,λh=>absurd h hl⟩
theorem Zca (src:LU) (g:Nat) (h:(Q5 src).2.2≠0):CF 28 [.str src,.func (.func g) [] [.ptr 0 0]] [(0,.cells zsR)] λr ob=>r=.tuple [.int .i64 (Q5 src).2.1,.int .i64 (Q5 src).2.2]/\ob=[(0,.cells zsR)]:=by
 refine CallL.treeD Z6 fp28 (Z7 (QR _) Z5) (Zex src g ((Q5 src).1.map Zq) (Q5 src).2.1 (Q5 src).2.2) ?_;rw[Zo,Qb];exact⟨Z7r src,λ_=>⟨rfl,rfl⟩,λh'=>absurd (by simpa using h') h⟩
theorem Z2c (src:LU):FK 12 [.str src] (.tuple [ruE (ZL src).1,.int .i64 (ZL src).2.1,.int .i64 (ZL src).2.2]):=by
 unfold ZL Zek;by_cases hl:(Q5 src).2.2=0
 ·rw[if_pos hl];have hr:=ZfY (lexS src hl) src (Q5 src).2.1 _ (qRu1 (lexS src hl)) (lexF src hl);change CallL _ _ _ _ (RRun src (Q5 src).1 zsR ruCs (ZD (Q5 src).1 0)) at hr;show FnOK _ _ _ (.tuple [ruE (Z9T (Q5 src).1 src zR (ZD (Q5 src).1 0)).1,.int .i64 (Z9T (Q5 src).1 src zR (ZD (Q5 src).1 0)).2.1,.int .i64 (Z9T (Q5 src).1 src zR (ZD (Q5 src).1 0)).2.2]);have a:=(Ps.Z8H (Sm.self (Q5 src).1) 0).w;rw[show (0:Nat)+0=0 from rfl] at a;generalize ZD (Q5 src).1 0=x at hr a;cases x with
  |ok t j =>
   unfold RRun at hr;simp only at hr;unfold Z9T ZkY;simp only[PR.bind];by_cases c:j<(Q5 src).1.length
   ·rw[if_pos c] at hr ⊢;refine FnOK.tree Z6 fp12 (Z7 Z2 (Zi _ _)) (ZeA src (Z59 (Q5 src).1 src.length j) 40 (t.k:Nat) (heL t.h) (kT t.lo:Nat) (nT t.lo) (nmT t.lo) (Tm.cellsL (Ps.arT t.lo)) (kT t.up:Nat) (nT t.up) (nmT t.up) (Tm.cellsL (Ps.arT t.up)) (boL t.b) (kT t.w:Nat) (nT t.w) (nmT t.w) (Tm.cellsL (Ps.arT t.w)) (kT t.lv:Nat) (nT t.lv) (nmT t.lv) (Tm.cellsL (Ps.arT t.lv)) (Tm.cellsL t.t)) ?_;simp only[SS];exact⟨hr,λ_=>rfl,λh=>absurd h (by decide)⟩
   ·rw[if_neg c] at hr ⊢;refine FnOK.tree Z6 fp12 (Z7 Z2 (Zi _ _)) (ZeA src 0 0 (t.k:Nat) (heL t.h) (kT t.lo:Nat) (nT t.lo) (nmT t.lo) (Tm.cellsL (Ps.arT t.lo)) (kT t.up:Nat) (nT t.up) (nmT t.up) (Tm.cellsL (Ps.arT t.up)) (boL t.b) (kT t.w:Nat) (nT t.w) (nmT t.w) (Tm.cellsL (Ps.arT t.w)) (kT t.lv:Nat) (nT t.lv) (nmT t.lv) (Tm.cellsL (Ps.arT t.lv)) (Tm.cellsL t.t)) ?_;simp only[SS];refine⟨hr,?_⟩;first|exact λh=>absurd trivial h|exact⟨λh=>absurd trivial h,λ_=>rfl⟩|exact⟨λh=>absurd trivial h,rfl⟩
  |bad b e =>
   have d:e≠0:=a.1;refine FnOK.tree Z6 fp12 (Z7 Z2 (Zi _ _)) (ZbA src (Z59 (Q5 src).1 src.length b) e) ?_;simp only[SS];exact⟨hr,λ_=>rfl,λh=>absurd h d⟩
 ·rw[if_neg hl];refine FnOK.tree Z6 fp12 (Z7 Z2 (Zi _ _)) (ZbA src (Q5 src).2.1 (Q5 src).2.2) ?_;simp only[SS];exact⟨Zca src _ hl,λ_=>rfl,λh=>absurd h hl⟩
theorem Zcb (src:LU) (g:Nat) (h:(Q5 src).2.2≠0):CF 28 [.str src,.func (.func g) [] [.ptr 0 0]] [(0,.cells zsP)] λr ob=>r=.tuple [.int .i64 (Q5 src).2.1,.int .i64 (Q5 src).2.2]/\ob=[(0,.cells zsP)]:=by
 refine CallL.treeD Z6 fp28 (Z7 (QR _) Z5) (Zbj src g ((Q5 src).1.map Zq) (Q5 src).2.1 (Q5 src).2.2) ?_;rw[Zo,Qb];exact⟨Z7r src,λ_=>⟨rfl,rfl⟩,λh'=>absurd (by simpa using h') h⟩
theorem Zhp (src:LU):FK 9 [.str src] (.tuple [.agg (pgCs (Z35 src).1),.int .i64 (Z35 src).2.1,.int .i64 (Z35 src).2.2]):=by
 unfold Z35 Zek;by_cases hl:(Q5 src).2.2=0
 ·rw[if_pos hl];have hr:CF 28 [.str src,.func (.func 29) [] [.ptr 0 0]] [(0,.cells zsP)] (RRun src (Q5 src).1 zsP pgCs (Z0I (Q5 src).1)):=by
   by_cases c:(Q5 src).1=[]
   ·exact Zg0 (lexS src hl) c src _ (lexF src hl)
   ·exact ZfZ (lexS src hl) src (Q5 src).2.1 _ (qPg1 (lexS src hl) (List.length_pos_iff.2 c)) (lexF src hl)
  have a: ∀ b j,Z0I (Q5 src).1=.ok b j-> ¬ j<(Q5 src).1.length:=λb j h=>Ps.Z7a _ _ _ _ _ h;generalize Z0I (Q5 src).1=x at hr a;cases x with
  |ok t j =>
   have d:=a t j rfl;unfold RRun at hr;simp only at hr;unfold Z9T ZkY;simp only[PR.bind];rw[if_neg d] at hr ⊢;refine FnOK.tree Z6 fp9 (Z7 Z2 (Zi _ _)) (ZlI src 0 0 (ruL t.r) (coL t.c) (shL t.s) t.so) ?_;simp only[SS];exact⟨hr,rfl⟩
  |bad b e =>
   refine FnOK.tree Z6 fp9 (Z7 Z2 (Zi _ _)) (ZbB src (Z59 (Q5 src).1 src.length b) e) ?_;simp only[SS];exact⟨hr,rfl⟩
 ·rw[if_neg hl];refine FnOK.tree Z6 fp9 (Z7 Z2 (Zi _ _)) (ZbB src (Q5 src).2.1 (Q5 src).2.2) ?_;simp only[SS];exact⟨Zcb src _ hl,rfl⟩
end Go.Proofs.YtecgehidegnmnaaGreatDoor
/- awake,run: true. -/
namespace Go.Proofs.YtecgehidegnmnaaGreatDoor
open Go.Sx
set_option maxRecDepth 100000
def awF (f:FuncId) (xs:List D):Option D :=
 if f=9 then match xs with
  |[.str s]=>some (.tuple [.agg (pgCs (Z35 s).1),.int .i64 (Z35 s).2.1,.int .i64 (Z35 s).2.2])
  |_=>none
 else if f=12 then match xs with
  |[.str s]=>some (.tuple [ruE (ZL s).1,.int .i64 (ZL s).2.1,.int .i64 (ZL s).2.2])
  |_=>none
 else libF f xs
theorem Zlg: ∀ f xs r,awF f xs=some r->FK f xs r:=by
 intro f xs r h;unfold awF at h;split at h
 ·rename_i hf;subst hf;split at h
  ·cases h;exact Zhp _
  ·cases h
 split at h
 ·rename_i hf;subst hf;split at h
  ·cases h;exact Z2c _
  ·cases h
 ·exact Z15 _ _ _ h
def awT (f:FuncId):Option (Nat × SC × List SR):=if f=27 then some (33,Zj8,Zjs) else lk tabL f
def ZhM:Tab:=⟨awT,λ_ _ _=>none,awF⟩
theorem Zlf: ∀ f N sc rs,awT f=some (N,sc,rs)->FnC Tryz.prog f N sc rs/\QC Tryz.prog f=true:=by
 intro f N sc rs h;unfold awT at h;split at h
 ·rename_i hf;subst hf;cases h;exact ZmT
 ·exact Z97.T _ _ _ _ h
theorem Zda:ZhM.OK Tryz.prog:=⟨Zlf,(λ_ _ _ _ _ h=>by cases h),Zlg⟩
theorem Zba:fnE ZhM (go Tryz.prog ZhM 20000) 8 []=some (.bool true):=by kernel_rfl
theorem Zd9:FK 8 [] (.bool true):=Zaq Z6 Zda _ Zba
end Go.Proofs.YtecgehidegnmnaaGreatDoor
