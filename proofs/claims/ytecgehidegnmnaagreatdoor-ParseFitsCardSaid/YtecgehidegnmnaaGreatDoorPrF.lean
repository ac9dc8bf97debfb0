/- Own work: a layer over the kit: plain data,a walk over it,its soundness. -/
import Derived.Test.YtecgehidegnmnaaGreatDoorShape
set_option linter.all false
set_option maxRecDepth 100000
/- The parser: terms. -/
open Go.Sx.Ps (PR ZH ZZ Zv Z1 Q9 Z0 Z0v Zg Z0b z0 Z5x Z1f Z4B ZP Zj Z19 Z1J Zq fu Q2 Z2B)
namespace Go.Proofs.YtecgehidegnmnaaGreatDoor
open Go.Sx
open Go.Sx.Lx (Tk Zo)
open Go.Sx.Ps (kT nmT)
def flt {α:Type}:PR α->Value
 |.bad a e=>fltV a e
 |.ok _ _=>Go.undef
def RS {α:Type} (os:Nat->Obs) (enc:α->D) (x:PR α):D->Obs->Prop:=λr ob=>match x with
 |.ok a j=>r=enc a/\ob=os j
 |.bad a e=>r=.pan (fltV a e)/\ob=[]
theorem Z0P {α:Type} {os:Nat->Obs} {enc:α->D} {x:PR α} {d:D} {ys:List D} {ob:Obs} (h:CallL Tryz.prog d ys ob (RW os enc x)):CallL Tryz.prog d ys ob (RS os enc x):=by
 cases x with
 |ok l j=>exact h
 |bad a e=>exact CallL.pdrop h λ_ _ h=>h
theorem ZG {α:Type} {p:PS} {enc:α->D} {x:PR α} {d:D} {ys:List D} {ob:Obs} (h:CallL Tryz.prog d ys ob (PRes p enc x)):CallL Tryz.prog d ys ob (RS p.o enc x):=by
 cases x<;>exact h
theorem psX {α:Type} (z:α) {os:Nat->Obs} {enc:α->D} {x:PR α} {d:D} {ys:List D} {ob:Obs} (h:CallL Tryz.prog d ys ob (RS os enc x)) {A B:Prop} (h1: ∀ a j,x=.ok a j->A) (h2: ∀ a e,x=.bad a e->B) :
  (x.isOk=true->(CallL Tryz.prog d ys ob λr0 ob0=>r0=enc (x.val z)/\ob0=os x.pos)/\A)/\(x.isOk=false->(CallL Tryz.prog d ys ob λr0 ob0=>r0=.pan (flt x)/\ob0=[])/\B):=by
 cases x with
 |ok a j=>exact⟨λ_=>⟨h,h1 a j rfl⟩,nofun⟩
 |bad a e=>exact⟨nofun,λ_=>⟨h,h2 a e rfl⟩⟩
def nT:Tm->Int
 |.mk _ n _ _=>n
abbrev tmE (t:Tm):D:=.agg (tC (kT t:Nat) (nT t) (nmT t) (Tm.cellsL (Ps.arT t)))
theorem Z8v (t:Tm):tmE t=.agg t.cells:=by cases t;rfl
def Mth (f:FuncId) (ob:Obs) (R:D->Obs->Prop):Prop:=CallL Tryz.prog (.func (.func f) [] []) [.ptr 0 0] ob R/\CallL Tryz.prog (.func (.func f) [.ptr 0 0] []) [] ob R
theorem Mth.tree {f:FuncId} {N:Nat} {sc:SC} {rs:List SR} (hf:FnC Tryz.prog f N sc rs/\QE Tryz.prog f=true) {tb:Ctr} (c:tb.OK Tryz.prog) {n bs:Nat} {ob:Obs} {R:D->Obs->Prop} {T:Tr}
  (e:goT Tryz.prog tb bs (finF false bs rs) n [.sc sc] ⟨Zu 0 [.ptr 0 0],ob⟩=T) (h:T.ok R (λK s=>At Tryz.prog bs K s (FinQ false bs rs R))) (a:Nat.ble 1 N=true:=by rfl) (b:Nat.ble (Obs.top ob) bs=true:=by rfl):Mth f ob R :=
 ⟨CallL.tree (first:=[]) (args:=[.ptr 0 0]) (caps:=[]) Z5 hf c e h a b,CallL.tree (first:=[.ptr 0 0]) (args:=[]) (caps:=[]) Z5 hf c e h a b⟩
theorem Mth.rs {α:Type} {f:FuncId} {os:Nat->Obs} {enc:α->D} {x:PR α} {ob:Obs} (h:Mth f ob (RW os enc x)):Mth f ob (RS os enc x):=⟨Z0P h.1,Z0P h.2⟩
theorem qFit (p:PS) (t:Tm) (d:Ps.Sh t) (c:t.depth<=1000000000) (a at' i:Nat):CF 90 [.ptr 0 0,tmE t,.int .i64 a,.int .i64 at'] (p.o i) (RS p.o tmE (ZH t a at' i)):=by
 refine Z0P (CallL.tree Z5 fp90 (Z9 (Z2b _) Z8) (ZgT p.ts i a at' t.depth (kT t:Nat) (nT t) (nmT t) (Tm.cellsL (Ps.arT t)) p.so p.r1 p.r2 p.r3) ?_);have b:=Za8 t (Ps.Ze8 t d) c;unfold DepP at b;rw[<- Z8v] at b;unfold PFit ZH;simp only[SS];refine⟨b,λh=>?_,λh=>?_⟩
 ·rw[if_pos (by omega)];exact rfl
 ·rw[if_neg (by omega)];exact⟨rfl,rfl⟩
theorem tq4 {a:PT} (hp:a.OK) {h i n3:Nat} {b c d e:QT} (h1:b.OK) (h2:c.OK) (f:d.OK) (g:e.OK):(⟨λ_=>a,λn=>if n=h then b else if n=i then c else if n=n3 then d else e,noE⟩:Ctr).OK Tryz.prog:=ZE hp λ_=>Z4 h1 (Z4 h2 (Z4 f g))
theorem tq3 {a:PT} (hp:a.OK) {f g:Nat} {b c d:QT} (h1:b.OK) (h2:c.OK) (e:d.OK):(⟨λ_=>a,λn=>if n=f then b else if n=g then c else d,noE⟩:Ctr).OK Tryz.prog:=ZE hp λ_=>Z4 h1 (Z4 h2 e)
theorem Zdj (p:PS) (i:Nat) (part:Nat->PR Tm) (u: ∀ k,i<k->i<p.ts.length->Mth 91 (p.o k) (RS p.o tmE (part k))) (t: ∀ k a j,i<k->i<p.ts.length->part k=.ok a j->k<=j):Mth 148 (p.o i) (RS p.o tmE (ZZ p.ts part i)):=by
 have n:=ZG (Z99 p i 1 (by decide));generalize c:Zv p.ts (1:Nat) i=b at n;have w:=ZY p b.pos [[40]] [] (by simp);refine Mth.rs (Mth.tree ZiY (tq4 Z3 (Z2 _ _ _ _) (Zh _ _) (Z2 _ _ _ _) (Z2 _ _ _ _)) (ZgK p.ts i b.pos ((if Z1 p.ts b.pos [[40]]=true then b.pos+1 else b.pos:Nat):Int) (Q9 p.ts 8 [44] part (b.pos+1)).pos (Z0 p.ts [41] (Q9 p.ts 8 [44] part (b.pos+1)).pos).pos p.so b.isOk (Z1 p.ts b.pos [[40]]) (Q9 p.ts 8 [44] part (b.pos+1)).isOk (Z0 p.ts [41] (Q9 p.ts 8 [44] part (b.pos+1)).pos).isOk (b.val []) (Tm.cellsL ((Q9 p.ts 8 [44] part (b.pos+1)).val [])) (flt b) (flt (Q9 p.ts 8 [44] part (b.pos+1))) (flt (Z0 p.ts [41] (Q9 p.ts 8 [44] part (b.pos+1)).pos)) p.r1 p.r2 p.r3) ?_);unfold PNam ZZ;simp only[SS];change Zv p.ts 1 i=b at c;refine psX [] n (λs j h1=>⟨w,λh2=>?_,λh2=>?_⟩) λa e h1=>?_
 ·subst h1;change Z1 p.ts j [[40]]=true at h2;have x:=Ps.Z2u c;have d:i<p.ts.length:=by have:=Qd h2;omega
  have hl:=ZG (Zdk p 91 8 [44] part (j+1) (by decide) (λk v=>(u k (by omega) d).2.mono λr ob h=>by
   unfold RS at h;unfold PRes;cases q:part k with
   |ok a m=>rw[q] at h;simp only at h ⊢;rw[<- Z8v];exact h
   |bad a e=>rw[q] at h;exact h) λk a m v=>t k a m (by omega) d)
  simp only[h2,if_true,c,PR.bind,PR.pos] at hl ⊢;refine psX [] hl (λl m f=>?_) λa e f=>?_
  ·simp only[f,PR.pos,PR.bind,PR.val];refine psX () (ZG (Qe p m [41])) (λ_ o g=>?_) λa e g=>?_
   ·simp only[g,PR.pos];exact⟨rfl,rfl⟩
   ·simp only[g];exact rfl
  ·simp only[f,PR.bind];exact rfl
 ·subst h1;change Z1 p.ts j [[40]]=false at h2;simp only[h2,Bool.false_eq_true,if_false,c,PR.bind,PR.pos,PR.val];exact⟨rfl,rfl⟩
 ·subst h1;simp only[c,PR.bind];exact rfl
theorem Zik (p:PS) (g:Nat) (l:List (LU)) (ext:LD) (hl:l.length<=1000) (f:Nat->PR Tm) (i0:Nat)
  (c: ∀ k,i0<=k->CallL Tryz.prog (.func (.func g) [.ptr 0 0] []) [] (p.o k) (RS p.o tmE (f k))) (b: ∀ k a j,i0<=k->f k=.ok a j->k<=j): ∀ (n:Nat) (t:Tm) (i:Nat),i0<=i->p.ts.length-i<n →
  At Tryz.prog 10 (cut Z2p 0) (ZiI p.ts i g (strC l) ext p.so (tC (kT t:Nat) (nT t) (nmT t) (Tm.cellsL (Ps.arT t))) p.r1 p.r2 p.r3) (FinQ false 10 Z4M (RW p.o tmE (Z0v p.ts f l n t i)))
 |0,t,i,hi,o=>by omega
 |n+1,t,i,hi,o=>by
  have hs:=Z1H p i l ext hl;refine At.tree (tq3 Z3 (Zh _ _) (Zh _ _) (Z2 _ _ _ _)) (ZcN p.ts i (f (i+1)).pos g (f (i+1)).isOk (Z1 p.ts i l) p.so (strC l) ext (Zg p.ts i).1 (Zg p.ts i).2.2 (Zg p.ts i).2.1 (kT t:Nat) (nT t) (kT ((f (i+1)).val t):Nat) (nT ((f (i+1)).val t)) (nmT t) (nmT ((f (i+1)).val t)) (Tm.cellsL (Ps.arT t)) (Tm.cellsL (Ps.arT ((f (i+1)).val t))) (flt (f (i+1))) p.r1 p.r2 p.r3) ?_;unfold Zkc Z0v;simp only[SS];refine⟨hs,λh1=>?_,λh1=>?_⟩
  ·have m:=Qd h1;have hp:=p.hl;refine⟨Z3l p i,by omega,psX t (c (i+1) (by omega)) (λu j h2=>?_) λa e h2=>?_⟩
   ·have h:=b _ _ _ (by omega) h2;have d:=Zik p g l ext hl f i0 c b n (.mk 5 0 (Zg p.ts i).2.1 [t,u]) j (by omega) (by omega);simp only[h1,if_true,h2,PR.bind,PR.pos,PR.val];have e:Tm.cellsL [t,u]=[tC (kT t:Nat) (nT t) (nmT t) (Tm.cellsL (Ps.arT t)),tC (kT u:Nat) (nT u) (nmT u) (Tm.cellsL (Ps.arT u))]:=by cases t;cases u;rfl
    simp only[kT,nT,nmT,Ps.arT,e] at d;exact d
   ·simp only[h1,if_true,h2,PR.bind];exact rfl
  ·simp only[h1,Bool.false_eq_true,if_false];exact⟨rfl,rfl⟩
theorem qChA (p:PS) (g:Nat) (l:List (LU)) (ext:LD) (hl:l.length<=1000) (f:Nat->PR Tm) (i:Nat)
  (c: ∀ k,i<=k->CallL Tryz.prog (.func (.func g) [.ptr 0 0] []) [] (p.o k) (RS p.o tmE (f k))) (b: ∀ k a j,i<=k->f k=.ok a j->k<=j):CF 161 [.ptr 0 0,.func (.func g) [.ptr 0 0] [],.slice (strC l) ext] (p.o i) (RS p.o tmE (Z0b p.ts f l i)):=by
 refine Z0P (CallL.tree Z5 ZfU (Z9 Z3 (Z2 _ _ _ _)) (Zh0 p.ts i (f i).pos g (f i).isOk p.so (strC l) ext (kT ((f i).val z0):Nat) (nT ((f i).val z0)) (nmT ((f i).val z0)) (Tm.cellsL (Ps.arT ((f i).val z0))) (flt (f i)) p.r1 p.r2 p.r3) ?_);unfold PChA Z0b;simp only[SS];refine psX z0 (c i (Nat.le_refl _)) (λt j h1=>?_) λa e h1=>?_
 ·have d:=b _ _ _ (Nat.le_refl _) h1;simp only[h1,PR.bind,PR.pos,PR.val];exact Zik p g l ext hl f i c b (p.ts.length+1) t j (by omega) (by omega)
 ·simp only[h1,PR.bind];exact rfl
theorem Zij (p:PS) (g:Nat) (l:List (LU)) (ext:LD) (hl:l.length<=1000) (f:Nat->PR Tm) (i0:Nat)
  (c: ∀ k,i0<=k->CallL Tryz.prog (.func (.func g) [] [.ptr 0 0]) [] (p.oq k) (RS p.oq tmE (f k))) (b: ∀ k a j,i0<=k->f k=.ok a j->k<=j): ∀ (n:Nat) (t:Tm) (i:Nat),i0<=i->p.ts.length-i<n →
  At Tryz.prog 10 (cut Z2p 0) (ZiH p.ts i g (strC l) ext p.so (tC (kT t:Nat) (nT t) (nmT t) (Tm.cellsL (Ps.arT t))) p.r1 p.r2 p.r3) (FinQ false 10 Z4M (RW p.ob tmE (Z0v p.ts f l n t i)))
 |0,t,i,hi,o=>by omega
 |n+1,t,i,hi,o=>by
  have hs:=Z1H p i l ext hl;refine At.tree (tq3 Z3 (Zh _ _) (Zh _ _) (Z2 _ _ _ _)) (ZcM p.ts i (f (i+1)).pos g (f (i+1)).isOk (Z1 p.ts i l) p.so (strC l) ext (Zg p.ts i).1 (Zg p.ts i).2.2 (Zg p.ts i).2.1 (kT t:Nat) (nT t) (kT ((f (i+1)).val t):Nat) (nT ((f (i+1)).val t)) (nmT t) (nmT ((f (i+1)).val t)) (Tm.cellsL (Ps.arT t)) (Tm.cellsL (Ps.arT ((f (i+1)).val t))) (flt (f (i+1))) p.r1 p.r2 p.r3) ?_;unfold Zkb Z0v;simp only[SS];refine⟨hs,λh1=>?_,λh1=>?_⟩
  ·have m:=Qd h1;have hp:=p.hl;refine⟨Z3l p i,by omega,psX t (c (i+1) (by omega)) (λu j h2=>?_) λa e h2=>?_⟩
   ·have h:=b _ _ _ (by omega) h2;have d:=Zij p g l ext hl f i0 c b n (.mk 5 0 (Zg p.ts i).2.1 [t,u]) j (by omega) (by omega);simp only[h1,if_true,h2,PR.bind,PR.pos,PR.val];have e:Tm.cellsL [t,u]=[tC (kT t:Nat) (nT t) (nmT t) (Tm.cellsL (Ps.arT t)),tC (kT u:Nat) (nT u) (nmT u) (Tm.cellsL (Ps.arT u))]:=by cases t;cases u;rfl
    simp only[kT,nT,nmT,Ps.arT,e] at d;exact d
   ·simp only[h1,if_true,h2,PR.bind];exact rfl
  ·simp only[h1,Bool.false_eq_true,if_false];exact⟨rfl,rfl⟩
theorem qChB (p:PS) (g:Nat) (l:List (LU)) (ext:LD) (hl:l.length<=1000) (f:Nat->PR Tm) (i:Nat)
  (c: ∀ k,i<=k->CallL Tryz.prog (.func (.func g) [] [.ptr 0 0]) [] (p.oq k) (RS p.oq tmE (f k))) (b: ∀ k a j,i<=k->f k=.ok a j->k<=j):CF 161 [.ptr 0 0,.func (.func g) [] [.ptr 1 0],.slice (strC l) ext] (p.ob i) (RS p.ob tmE (Z0b p.ts f l i)):=by
 refine Z0P (CallL.tree Z5 ZfU (Z9 Z3 (Z2 _ _ _ _)) (ZgZ p.ts i (f i).pos g (f i).isOk p.so (strC l) ext (kT ((f i).val z0):Nat) (nT ((f i).val z0)) (nmT ((f i).val z0)) (Tm.cellsL (Ps.arT ((f i).val z0))) (flt (f i)) p.r1 p.r2 p.r3) ?_);unfold PChB Z0b;simp only[SS];refine psX z0 (c i (Nat.le_refl _)) (λt j h1=>?_) λa e h1=>?_
 ·have d:=b _ _ _ (Nat.le_refl _) h1;simp only[h1,PR.bind,PR.pos,PR.val];exact Zij p g l ext hl f i c b (p.ts.length+1) t j (by omega) (by omega)
 ·simp only[h1,PR.bind];exact rfl
end Go.Proofs.YtecgehidegnmnaaGreatDoor
/- The parser: factor's tree. -/
namespace Go.Proofs.YtecgehidegnmnaaGreatDoor
open Go.Sx
open Go.Sx.Lx (Tk Zo)
theorem ZgU (ts:List Tk) (i v w y z j34 j41 j51 j55 j59:Int) (so f g a h j b k l n:Bool) (u ho gk go c d k30 n30 k55 n55 k59 n59:Int) (hs gs e s30 s55 s59:LU) (l30 l55 l59:LD) (o p v30 q r s t:Value) (r1 r2 r3:LD):let A:=psO ts j41 so r1 r2 r3;let B:=psO ts i so r1 r2 r3;let G:=psO ts y so r1 r2 r3;let H:=psO ts z so r1 r2 r3;let I:=dA (tC k30 n30 s30 l30);let J:=dA (tC k59 n59 s59 l59);let K:=psO ts v so r1 r2 r3;let L:=psO ts w so r1 r2 r3;let M:=psO ts j34 so r1 r2 r3;let N:=psO ts j51 so r1 r2 r3;let O:=psO ts j55 so r1 r2 r3;let P:=psO ts j59 so r1 r2 r3;let Q:=tC k55 n55 s55 l55;let R:=dA [dU u,dS hs,dI ho];let S:=dA [dU gk,dS gs,dI go];let T:=[dP 0 0,dS [41]];let U:=[dP 0 0,dU 2];let V:=((0:Int)-d);let W:=D.tuple [];let X:=D.pan o;let Y:=D.pan p;let Z:=D.pan q;let A1:=D.pan v30;let B1:=D.pan r;let C1:=D.pan s;let E1:=D.pan t;goT Tryz.prog {F:=λx=>libT,C:=λm=>if m=7 then psQ R B else if m=14 then psB f (dI c) K o else if m=21 then psB g (dS e) L p else if m=28 then psQ (dB a) G else if m=30 then psB h I H v30 else if m=34 then psB j W M q else if m=41 then psQ (dB b) A else if m=45 then psQ S A else if m=51 then psB k (dI d) N r else if m=55 then psB l (dA Q) O s else psB n J P t,E:=noE} 10 (finF false 10 ZeY) 2000 [Fr.sc Zee] {tm:=Zu 0 ([]++[dP 0 0]++[]),ob:=psO ts i so r1 r2 r3}=(Ow (CQ 58 [dP 0 0] B R B) (brT (decide (u=(3:Int))) (brT f (Ow (CQ 98 [dP 0 0] B (dI c) K) (Rt (dA [dU 1,dI c,dS [],dL [] []]) K)) (Ow (CQ 98 [dP 0 0] B X []) (Rt X []))) (brT (decide (u=(2:Int))) (brT g (Ow (CQ 97 U B (dS e) L) (Rt (dA [dU 3,dI 0,dS e,dL [] []]) L)) (Ow (CQ 97 U B Y []) (Rt Y []))) (Ow (CQ 66 [dP 0 0,dL [[dS [40]]] []] B (dB a) G) (brT a (brT h (Ow (CQ 91 [dP 0 0] G I H) (brT j (Ow (CQ 68 T H W M) (Rt I M)) (Ow (CQ 68 T H Z []) (Rt Z [])))) (Ow (CQ 91 [dP 0 0] G A1 []) (Rt A1 []))) (Ow (CQ 66 [dP 0 0,dL [[dS [45]]] []] G (dB b) A) (brT b (Ow (CQ 58 [dP 0 0] A S A) (brT (decide (gk=(3:Int))) (brT k (Ow (CQ 98 [dP 0 0] A (dI d) N) (I8 V (Rt (dA [dU 1,dI V,dS [],dL [] []]) N))) (Ow (CQ 98 [dP 0 0] A B1 []) (Rt B1 []))) (brT l (Ow (CQ 162 [dP 0 0] A (dA Q) O) (Rt (dA [dU 5,dI 0,dS [45],dL [Q] []]) O)) (Ow (CQ 162 [dP 0 0] A C1 []) (Rt C1 []))))) (brT n (Ow (CQ 148 [dP 0 0] A J P) (Rt J P)) (Ow (CQ 148 [dP 0 0] A E1 []) (Rt E1 []))))))))):Tr):=by intro A B G H I J K L M N O P Q R S T U V W X Y Z A1 B1 C1 E1;kernel_rfl
end Go.Proofs.YtecgehidegnmnaaGreatDoor
/- The parser: sums,parts,factors. -/
namespace Go.Proofs.YtecgehidegnmnaaGreatDoor
open Go.Sx
open Go.Sx.Lx (Tk Zo)
open Go.Sx.Ps (kT nmT W Sm)
theorem w_le {ts:List Tk} {α:Type} {i j:Nat} {x:PR α} {a:α} (h:W ts 0 true i x x) (hx:x=.ok a j):i<=j:=(Z5x h hx).1
theorem qSu1 (p:PS) (f:Nat->PR Tm) (i:Nat) (c: ∀ k,i<=k->Mth 162 (p.o k) (RS p.o tmE (f k))) (d: ∀ k,i<=k->W p.ts 0 true k (f k) (f k)) :
  CallL Tryz.prog (.func (.func 160) [] [.ptr 0 0]) [] (p.oq i) (RS p.oq tmE (Z1f p.ts f i)):=by
 have hc:=qChA p 162 [[42],[47],[92]] [] (by decide) f i (λk b=>(c k b).2) λk a j b hx=>w_le (d k b) hx;unfold Z1f;generalize Z0b p.ts f [[42],[47],[92]] i=x at hc;refine Z0P (CallL.tree Z5 ZiV (Z9 Z3 (Z2 _ _ _ _)) (ZgG p.ts i x.pos x.isOk p.so (kT (x.val z0):Nat) (nT (x.val z0)) (nmT (x.val z0)) (Tm.cellsL (Ps.arT (x.val z0))) (flt x) p.r1 p.r2 p.r3) ?_);simp only[SS];refine psX z0 hc (λt j h1=>?_) λa e h1=>?_
 ·subst h1;exact⟨rfl,rfl⟩
 ·subst h1;exact rfl
theorem qSum (p:PS) (f:Nat->PR Tm) (i:Nat) (d: ∀ k,i<=k->Mth 162 (p.o k) (RS p.o tmE (f k))) (b: ∀ k,i<=k->W p.ts 0 true k (f k) (f k)) :
  CF 131 [.ptr 0 0] (p.o i) (RS p.o tmE (Z4B p.ts f i)):=by
 have hc:=qChB p 160 [[43],[45]] [] (by decide) (Z1f p.ts f) i (λk c=>qSu1 p f k (λm hm=>d m (by omega)) λm hm=>b m (by omega)) λk a j c hx=>w_le (Ps.Z3V (Sm.self p.ts) (i0:=i) b c) hx;unfold Z4B;generalize Z0b p.ts (Z1f p.ts f) [[43],[45]] i=x at hc;refine Z0P (CallL.tree Z5 Zj9 (Z9 Z3 (Z2 _ _ _ _)) (ZgF p.ts i x.pos x.isOk p.so (kT (x.val z0):Nat) (nT (x.val z0)) (nmT (x.val z0)) (Tm.cellsL (Ps.arT (x.val z0))) (flt x) p.r1 p.r2 p.r3) ?_);simp only[SS];refine psX z0 hc (λt j h1=>?_) λa e h1=>?_
 ·subst h1;exact⟨rfl,rfl⟩
 ·subst h1;exact rfl
theorem ZjC (t u:Tm):Tm.cellsL [t,u]=[tC (kT t:Nat) (nT t) (nmT t) (Tm.cellsL (Ps.arT t)),tC (kT u:Nat) (nT u) (nmT u) (Tm.cellsL (Ps.arT u))]:=by cases t;cases u;rfl
theorem ZjD (t:Tm):Tm.cellsL [t]=[tC (kT t:Nat) (nT t) (nmT t) (Tm.cellsL (Ps.arT t))]:=by cases t;rfl
theorem Zdc (k:Nat) (n:Int) (s:LU) (l:List Tm):tmE (.mk k n s l)=.agg [.int .u8 k,.int .i64 n,.str s,.slice (Tm.cellsL l) []]:=rfl
theorem Zib (p:PS) (f:Nat->PR Tm) (i:Nat) (d: ∀ k,i<=k->Mth 162 (p.o k) (RS p.o tmE (f k))) (c: ∀ k,i<=k->W p.ts 0 true k (f k) (f k)) :
  Mth 91 (p.o i) (RS p.o tmE (ZP p.ts f i)):=by
 have h0:=qSum p f i d c;have g:=Ps.ZdO (Sm.self p.ts) (i0:=i) c (Nat.le_refl i);unfold ZP;generalize hx:Z4B p.ts f i=x at h0 g;have o:=ZY p x.pos [[46,46]] [] (by simp);refine Mth.rs (Mth.tree fp91 (tq3 Z3 (Z2 _ _ _ _) (Zh _ _) (Z2 _ _ _ _)) (ZgI p.ts i x.pos ((if Z1 p.ts x.pos [[46,46]]=true then x.pos+1 else x.pos:Nat):Int) (Z4B p.ts f (x.pos+1)).pos p.so x.isOk (Z1 p.ts x.pos [[46,46]]) (Z4B p.ts f (x.pos+1)).isOk
  (kT (x.val z0):Nat) (nT (x.val z0)) (kT ((Z4B p.ts f (x.pos+1)).val z0):Nat) (nT ((Z4B p.ts f (x.pos+1)).val z0)) (nmT (x.val z0)) (nmT ((Z4B p.ts f (x.pos+1)).val z0)) (Tm.cellsL (Ps.arT (x.val z0))) (Tm.cellsL (Ps.arT ((Z4B p.ts f (x.pos+1)).val z0))) (flt x) (flt (Z4B p.ts f (x.pos+1))) p.r1 p.r2 p.r3) ?_)
 simp only[SS];refine psX z0 h0 (λt j h1=>⟨o,λh2=>?_,λh2=>?_⟩) λa e h1=>?_
 ·subst h1;change Z1 p.ts j [[46,46]]=true at h2;have l:i<=j:=g.1;have h:=qSum p f (j+1) (λk n=>d k (by omega)) λk n=>c k (by omega);simp only[h2,if_true,PR.bind,PR.pos,PR.val];refine psX z0 h (λu m b=>?_) λa e b=>?_
  ·simp only[b,PR.pos,PR.val];show _=tmE _/\_;rw[Zdc,ZjC];exact⟨rfl,rfl⟩
  ·simp only[b];exact rfl
 ·subst h1;change Z1 p.ts j [[46,46]]=false at h2;simp only[h2,Bool.false_eq_true,if_false,PR.bind,PR.pos,PR.val];exact⟨rfl,rfl⟩
 ·subst h1;exact rfl
end Go.Proofs.YtecgehidegnmnaaGreatDoor
/- The parser: factor. -/
namespace Go.Proofs.YtecgehidegnmnaaGreatDoor
open Go.Sx
open Go.Sx.Lx (Tk Zo)
open Go.Sx.Ps (kT nmT W Sm)
theorem ZhB {a:PT} (hp:a.OK) {b c d e f g h i j k l:QT} (h1:b.OK) (h2:c.OK) (n:d.OK) (o:e.OK) (p:f.OK) (q:g.OK) (r:h.OK) (s:i.OK) (t:j.OK) (ha:k.OK) (u:l.OK) :
  (⟨λ_=>a,λm=>if m=7 then b else if m=14 then c else if m=21 then d else if m=28 then e else if m=30 then f else if m=34 then g else if m=41 then h else if m=45 then i else if m=51 then j else if m=55 then k else l,noE⟩:Ctr).OK Tryz.prog :=
 ZE hp λ_=>Z4 h1 (Z4 h2 (Z4 n (Z4 o (Z4 p (Z4 q (Z4 r (Z4 s (Z4 t (Z4 ha u)))))))))
theorem Z9b (p:PS): ∀ (n i:Nat),p.ts.length-i<n->Mth 162 (p.o i) (RS p.o tmE (Zj p.ts n i))
 |0,i,w=>by omega
 |n+1,i,w=>by
  have q: ∀ k,i+1<=k->i<p.ts.length->Mth 162 (p.o k) (RS p.o tmE (Zj p.ts n k)):=λk o b=>Z9b p n k (by omega);have s: ∀ k,i+1<=k->i<p.ts.length->W p.ts 0 true k (Zj p.ts n k) (Zj p.ts n k):=λk o b=>Z19 (Sm.self p.ts) n n k (by omega) (by omega);have r: ∀ k,i<k->i<p.ts.length->Mth 91 (p.o k) (RS p.o tmE (ZP p.ts (Zj p.ts n) k)):=λk o b=>Zib p _ k (λm hm=>q m (by omega) b) λm hm=>s m (by omega) b;have u:=Zdj p i (ZP p.ts (Zj p.ts n)) r λk a j o b hx=>w_le (Ps.Z6d (Sm.self p.ts) (i0:=i+1) (λm hm=>s m (by omega) b) (by omega)) hx;refine Mth.rs (Mth.tree ZiU (ZhB Z3 (Zh _ _) (Z2 _ _ _ _) (Z2 _ _ _ _) (Zh _ _) (Z2 _ _ _ _) (Z2 _ _ _ _) (Zh _ _) (Zh _ _) (Z2 _ _ _ _) (Z2 _ _ _ _) (Z2 _ _ _ _))
   (ZgU p.ts i (Z1J p.ts i).pos (Zv p.ts (2:Nat) i).pos ((if Z1 p.ts i [[40]]=true then i+1 else i:Nat):Int) (ZP p.ts (Zj p.ts n) (i+1)).pos (Z0 p.ts [41] (ZP p.ts (Zj p.ts n) (i+1)).pos).pos ((if Z1 p.ts i [[45]]=true then i+1 else i:Nat):Int) (Z1J p.ts (i+1)).pos (Zj p.ts n (i+1)).pos (ZZ p.ts (ZP p.ts (Zj p.ts n)) i).pos
    p.so (Z1J p.ts i).isOk (Zv p.ts (2:Nat) i).isOk (Z1 p.ts i [[40]]) (ZP p.ts (Zj p.ts n) (i+1)).isOk (Z0 p.ts [41] (ZP p.ts (Zj p.ts n) (i+1)).pos).isOk (Z1 p.ts i [[45]]) (Z1J p.ts (i+1)).isOk (Zj p.ts n (i+1)).isOk (ZZ p.ts (ZP p.ts (Zj p.ts n)) i).isOk
    (Zg p.ts i).1 (Zg p.ts i).2.2 (Zg p.ts (i+1)).1 (Zg p.ts (i+1)).2.2 ((Z1J p.ts i).val 0) ((Z1J p.ts (i+1)).val 0) (kT ((ZP p.ts (Zj p.ts n) (i+1)).val z0):Nat) (nT ((ZP p.ts (Zj p.ts n) (i+1)).val z0)) (kT ((Zj p.ts n (i+1)).val z0):Nat) (nT ((Zj p.ts n (i+1)).val z0)) (kT ((ZZ p.ts (ZP p.ts (Zj p.ts n)) i).val z0):Nat) (nT ((ZZ p.ts (ZP p.ts (Zj p.ts n)) i).val z0))
    (Zg p.ts i).2.1 (Zg p.ts (i+1)).2.1 ((Zv p.ts (2:Nat) i).val []) (nmT ((ZP p.ts (Zj p.ts n) (i+1)).val z0)) (nmT ((Zj p.ts n (i+1)).val z0)) (nmT ((ZZ p.ts (ZP p.ts (Zj p.ts n)) i).val z0))
    (Tm.cellsL (Ps.arT ((ZP p.ts (Zj p.ts n) (i+1)).val z0))) (Tm.cellsL (Ps.arT ((Zj p.ts n (i+1)).val z0))) (Tm.cellsL (Ps.arT ((ZZ p.ts (ZP p.ts (Zj p.ts n)) i).val z0)))
    (flt (Z1J p.ts i)) (flt (Zv p.ts (2:Nat) i)) (flt (ZP p.ts (Zj p.ts n) (i+1))) (flt (Z0 p.ts [41] (ZP p.ts (Zj p.ts n) (i+1)).pos)) (flt (Z1J p.ts (i+1))) (flt (Zj p.ts n (i+1))) (flt (ZZ p.ts (ZP p.ts (Zj p.ts n)) i)) p.r1 p.r2 p.r3) ?_)
  simp only[SS];rw[Zj];refine⟨Z3l p i,λf=>?_,λf=>⟨λh2=>?_,λh2=>⟨ZY p i [[40]] [] (by simp),λc=>?_,λc=>?_⟩⟩⟩
  ·rw[if_pos f];refine psX 0 (ZG (qNum p i)) (λv j h=>?_) λa e h=>?_
   ·simp only[h,PR.bind,PR.pos,PR.val];exact⟨rfl,rfl⟩
   ·simp only[h,PR.bind];exact rfl
  ·rw[if_neg f,if_pos h2];refine psX [] (ZG (Z99 p i 2 (by decide))) (λv j h=>?_) λa e h=>?_
   ·simp only[h,PR.pos,PR.val];change Zv p.ts 2 i=_ at h;rw[h];exact⟨rfl,rfl⟩
   ·simp only[h];change Zv p.ts 2 i=_ at h;rw[h];exact rfl
  ·have b:=Qd c;rw[if_neg f,if_neg h2,if_pos c];simp only[c,if_true];refine psX z0 (r (i+1) (by omega) b).1 (λt j h=>?_) λa e h=>?_
   ·simp only[h,PR.bind,PR.pos,PR.val];refine psX () (ZG (Qe p j [41])) (λ_ m g=>?_) λa e g=>?_
    ·simp only[g,PR.pos];exact⟨rfl,rfl⟩
    ·simp only[g];exact rfl
   ·simp only[h,PR.bind];exact rfl
  ·rw[if_neg f,if_neg h2,if_neg (by simp[c])];simp only[c,Bool.false_eq_true,if_false];refine⟨ZY p i [[45]] [] (by simp),λd=>?_,λd=>?_⟩
   ·have b:=Qd d;rw[if_pos d];simp only[d,if_true];refine⟨Z3l p (i+1),λl=>?_,λl=>?_⟩
    ·rw[if_pos l];refine psX 0 (ZG (qNum p (i+1))) (λv j h=>?_) λa e h=>?_
     ·have hv:=Ps.Z5H p.hv h;simp only[h,PR.bind,PR.pos,PR.val];refine⟨by omega,?_⟩;rw[Int.zero_sub];exact⟨rfl,rfl⟩
     ·simp only[h,PR.bind];exact rfl
    ·rw[if_neg l];refine psX z0 (q (i+1) (by omega) b).1 (λt j h=>?_) λa e h=>?_
     ·simp only[h,PR.bind,PR.pos,PR.val];show _=tmE _/\_;rw[Zdc,ZjD];exact⟨rfl,rfl⟩
     ·simp only[h,PR.bind];exact rfl
   ·rw[if_neg (by simp[d])];simp only[d,Bool.false_eq_true,if_false];refine psX z0 u.1 (λt j h=>?_) λa e h=>?_
    ·simp only[h,PR.pos,PR.val];exact⟨rfl,rfl⟩
    ·simp only[h];exact rfl
theorem Z98 (p:PS) (i:Nat):Mth 91 (p.o i) (RS p.o tmE (Zq p.ts (fu p.ts) i)) :=
 Zib p _ i (λk _=>Z9b p _ k (by unfold fu;omega)) λk _=>Z19 (Sm.self p.ts) _ _ k (by unfold fu;omega) (by unfold fu;omega)
theorem Zfq (p:PS) (i:Nat):Mth 148 (p.o i) (RS p.o tmE (Q2 p.ts (fu p.ts) i)) :=
 Zdj p i _ (λk _ _=>Z98 p k) λk a j _ _ hx=>w_le (Z2B (Sm.self p.ts) k) hx
theorem Z9g (p:PS) {i j:Nat} {t:Tm} (h:Zq p.ts (fu p.ts) i=.ok t j):Ps.Sh t/\t.depth<=1000000000:=by
 have h1:=Ps.Z5j p.hv i;have h2:=(Ps.Za9 (ts:=p.ts) (fu p.ts) i).of h;have a:=(Z5x (Z2B (Sm.self p.ts) i) h).2 (Nat.le_of_lt (Ps.Zfu h));have hl:=p.hl;rw[h] at h1;exact⟨h1,by omega⟩
theorem ZbM (p:PS) {i j:Nat} {t:Tm} (h:Q2 p.ts (fu p.ts) i=.ok t j):Ps.Nd t/\t.depth<=1000000000:=by
 have h1:=Ps.Z6n p.hv i;have h2:=(Ps.Zc7 (ts:=p.ts) (fu p.ts) i).of h;have a:=(Z5x (Ps.Z6e (Sm.self p.ts) i) h).2 (Nat.le_of_lt (Ps.ZbN h));have hl:=p.hl;rw[h] at h1;exact⟨h1,by omega⟩
end Go.Proofs.YtecgehidegnmnaaGreatDoor
/- The parser: trees of atoms and literals. -/
namespace Go.Proofs.YtecgehidegnmnaaGreatDoor
open Go.Sx
open Go.Sx.Lx (Tk Zo)
noncomputable def ZjS (ts:List Tk) (i:Int) (so m:Bool) (b d:Int) (e:LU) (c:LD) (a:Int) (v11:Value) (n:Bool) (g j:Int) (k:LU) (h:LD) (f:Int) (l:Value) (r1 r2 r3:LD):Tr:=brT m (Ow (CQ 91 [dP 0 0] (psO ts i so r1 r2 r3) (dA (tC b d e c)) (psO ts a so r1 r2 r3)) (brT n (Ow (CQ 90 [dP 0 0,dA (tC b d e c),dI 12,dI i] (psO ts a so r1 r2 r3) (dA (tC g j k h)) (psO ts f so r1 r2 r3)) (Rt (dA (tC g j k h)) (psO ts f so r1 r2 r3))) (Ow (CQ 90 [dP 0 0,dA (tC b d e c),dI 12,dI i] (psO ts a so r1 r2 r3) (D.pan l) []) (Rt (D.pan l) [])))) (Ow (CQ 91 [dP 0 0] (psO ts i so r1 r2 r3) (D.pan v11) []) (Rt (D.pan v11) []))
theorem Zcv (ts:List Tk) (i:Int) (so a:Bool) (e j:Int) (l:LU) (g:LD) (c:Int) (v11:Value) (b:Bool) (f k:Int) (n:LU) (h:LD) (d:Int) (o:Value) (r1 r2 r3:LD):goT Tryz.prog {F:=λx=>libT,C:=λm=>if m=11 then psB a (dA (tC e j l g)) (psO ts c so r1 r2 r3) v11 else psB b (dA (tC f k n h)) (psO ts d so r1 r2 r3) o,E:=noE} 10 (finF false 10 rs51) 2000 [Fr.sc sc51] {tm:=Zu 0 ([]++[dP 0 0]++[]),ob:=psO ts i so r1 r2 r3}=ZjS ts i so a e j l g c v11 b f k n h d o r1 r2 r3:=by kernel_rfl
noncomputable def PAof (ts:List Tk) (i:Int) (so:Bool) (a k n:Int) (s:LU) (l:LD) (c:Bool) (d f:Int) (g:LU) (e:LD) (b:Int) (v10:Value) (r1 r2 r3:LD):Tr:=brT c (Ow (CQ 90 [dP 0 0,dA (tC k n s l),dI 13,dI a] (psO ts i so r1 r2 r3) (dA (tC d f g e)) (psO ts b so r1 r2 r3)) (Rt (dA [dS s,dL l []]) (psO ts b so r1 r2 r3))) (Ow (CQ 90 [dP 0 0,dA (tC k n s l),dI 13,dI a] (psO ts i so r1 r2 r3) (D.pan v10) []) (Rt (D.pan v10) []))
theorem Zh6 (ts:List Tk) (i:Int) (so:Bool) (a k n:Int) (s:LU) (l:LD) (b:Bool) (d f:Int) (g:LU) (e:LD) (c:Int) (v10:Value) (r1 r2 r3:LD):goT Tryz.prog {F:=λx=>libT,C:=λx=>psB b (dA (tC d f g e)) (psO ts c so r1 r2 r3) v10,E:=noE} 10 (finF false 10 Zf3) 2000 [Fr.sc Zej] {tm:=Zu 0 ([]++[dP 0 0,dA (tC k n s l),dI a]++[]),ob:=psO ts i so r1 r2 r3}=PAof ts i so a k n s l b d f g e c v10 r1 r2 r3:=by kernel_rfl
noncomputable def Zke (ts:List Tk) (i:Int) (so k:Bool) (b d:Int) (e:LU) (c:LD) (a:Int) (v11:Value) (l:Bool) (h:LU) (g:LD) (f:Int) (j:Value) (r1 r2 r3:LD):Tr:=brT k (Ow (CQ 148 [dP 0 0] (psO ts i so r1 r2 r3) (dA (tC b d e c)) (psO ts a so r1 r2 r3)) (brT l (Ow (CQ 147 [dP 0 0,dA (tC b d e c),dI i] (psO ts a so r1 r2 r3) (dA [dS h,dL g []]) (psO ts f so r1 r2 r3)) (Rt (dA [dS h,dL g []]) (psO ts f so r1 r2 r3))) (Ow (CQ 147 [dP 0 0,dA (tC b d e c),dI i] (psO ts a so r1 r2 r3) (D.pan j) []) (Rt (D.pan j) [])))) (Ow (CQ 148 [dP 0 0] (psO ts i so r1 r2 r3) (D.pan v11) []) (Rt (D.pan v11) []))
theorem ZcP (ts:List Tk) (i:Int) (so a:Bool) (e h:Int) (j:LU) (f:LD) (c:Int) (v11:Value) (b:Bool) (k:LU) (g:LD) (d:Int) (l:Value) (r1 r2 r3:LD):goT Tryz.prog {F:=λx=>libT,C:=λm=>if m=11 then psB a (dA (tC e h j f)) (psO ts c so r1 r2 r3) v11 else psB b (dA [dS k,dL g []]) (psO ts d so r1 r2 r3) l,E:=noE} 10 (finF false 10 Zff) 2000 [Fr.sc Zev] {tm:=Zu 0 ([]++[dP 0 0]++[]),ob:=psO ts i so r1 r2 r3}=Zke ts i so a e h j f c v11 b k g d l r1 r2 r3:=by kernel_rfl
noncomputable def Zk7 (ts:List Tk) (i:Int) (so:Bool) (es ext:LD) (f g:Int) (h:LU) (C:Bool) (a d:Int) (e:LU) (c:LD) (b:Int) (v20:Value) (s E:Bool) (u y:Int) (A:LU) (w:LD) (t:Int) (v30:Value) (q:Bool) (v z:Int) (B:LU) (x:LD) (j:Int) (n o:Value) (r:Bool) (m:LU) (l:LD) (k:Int) (p:Value) (r1 r2 r3:LD):Tr:=Ow (CQ 58 [dP 0 0] (psO ts i so r1 r2 r3) (dA [dU f,dS h,dI g]) (psO ts i so r1 r2 r3)) (brT (ZR true [0,1,3,7,15,0,32,96,224,480,511,2047] {tm:=[(6,dB false),(5,dP 15 0),(4,dP 14 0),(0,dP 0 0),(1,dL es ext)],ob:=[(15,oC [dU 0,dI 0,dS [],D.nils]),(14,oC [dS [],D.nils]),(0,oC [dL (List.map Zo ts) [],dI i,dV 1,dV 2,dV 3,dB so]),(1,oR true 20 42 r1),(2,oR true 5 53 r2),(3,oR true 2 138 r3)]} [{rd:=[],tm:=some (9,dP 0 0),ob:=[],cd:=none},{rd:=[],tm:=some (10,dP 0 0),ob:=[],cd:=none},{rd:=[],tm:=some (11,dP 0 0),ob:=[],cd:=none},{rd:=[],tm:=some (12,dP 0 1),ob:=[],cd:=none},{rd:=[],tm:=some (13,dI i),ob:=[],cd:=none},{rd:=[],tm:=some (14,dP 0 0),ob:=[],cd:=none},{rd:=[],tm:=some (15,dP 0 0),ob:=[],cd:=none},{rd:=[],tm:=some (16,dP 0 0),ob:=[],cd:=none},{rd:=[0,1,2,3],tm:=some (17,dA [dU f,dS h,dI g]),ob:=[(0,some (oC [dL (List.map Zo ts) [],dI i,dV 1,dV 2,dV 3,dB so])),(1,some (oR true 20 42 r1)),(2,some (oR true 5 53 r2)),(3,some (oR true 2 138 r3)),(0,none),(1,none),(2,none),(3,none)],cd:=some 4112},{rd:=[],tm:=some (18,dU f),ob:=[],cd:=none},{rd:=[],tm:=some (7,dI i),ob:=[],cd:=none},{rd:=[],tm:=some (8,dU f),ob:=[],cd:=none}] 0 [({rd:=[],tm:=some (9,dP 0 0),ob:=[],cd:=none},none),({rd:=[],tm:=some (10,dP 0 0),ob:=[],cd:=none},none),({rd:=[],tm:=some (11,dP 0 0),ob:=[],cd:=none},none),({rd:=[],tm:=some (12,dP 0 1),ob:=[],cd:=none},none),({rd:=[],tm:=some (13,dI i),ob:=[],cd:=none},some (0,1,dI i)),({rd:=[],tm:=some (14,dP 0 0),ob:=[],cd:=none},none),({rd:=[],tm:=some (15,dP 0 0),ob:=[],cd:=none},none),({rd:=[],tm:=some (16,dP 0 0),ob:=[],cd:=none},none),({rd:=[0,1,2,3],tm:=some (17,dA [dU f,dS h,dI g]),ob:=[(0,some (oC [dL (List.map Zo ts) [],dI i,dV 1,dV 2,dV 3,dB so])),(1,some (oR true 20 42 r1)),(2,some (oR true 5 53 r2)),(3,some (oR true 2 138 r3)),(0,none),(1,none),(2,none),(3,none)],cd:=some 4112},none),({rd:=[],tm:=some (18,dU f),ob:=[],cd:=none},none),({rd:=[],tm:=some (7,dI i),ob:=[],cd:=none},none),({rd:=[],tm:=some (8,dU f),ob:=[],cd:=none},none)]) (brT C (Ow (CQ 91 [dP 0 0] (psO ts i so r1 r2 r3) (dA (tC a d e c)) (psO ts b so r1 r2 r3)) (Ow (CQ 63 [dP 0 0,dL es ext] (psO ts b so r1 r2 r3) (dB s) (psO ts b so r1 r2 r3)) (brT s (brT E (Ow (CQ 90 [dP 0 0,dA (tC a d e c),dI 12,dI i] (psO ts b so r1 r2 r3) (dA (tC u y A w)) (psO ts t so r1 r2 r3)) (Rt (D.tuple [dA [dS [],dL [] []],dA (tC u y A w),dB false]) (psO ts t so r1 r2 r3))) (Ow (CQ 90 [dP 0 0,dA (tC a d e c),dI 12,dI i] (psO ts b so r1 r2 r3) (D.pan v30) []) (Rt (D.pan v30) []))) (brT (!decide (f=(1:Int))) (brT q (Ow (CQ 90 [dP 0 0,dA (tC a d e c),dI 12,dI i] (psO ts b so r1 r2 r3) (dA (tC v z B x)) (psO ts j so r1 r2 r3)) (Ow (CQ 54 [dP 0 0,dI 40] (psO ts j so r1 r2 r3) (D.pan o) []) (Rt (D.pan o) []))) (Ow (CQ 90 [dP 0 0,dA (tC a d e c),dI 12,dI i] (psO ts b so r1 r2 r3) (D.pan n) []) (Rt (D.pan n) []))) (brT (!decide (a=(2:Int))) (brT (!decide (a=(4:Int))) (brT q (Ow (CQ 90 [dP 0 0,dA (tC a d e c),dI 12,dI i] (psO ts b so r1 r2 r3) (dA (tC v z B x)) (psO ts j so r1 r2 r3)) (Ow (CQ 54 [dP 0 0,dI 40] (psO ts j so r1 r2 r3) (D.pan o) []) (Rt (D.pan o) []))) (Ow (CQ 90 [dP 0 0,dA (tC a d e c),dI 12,dI i] (psO ts b so r1 r2 r3) (D.pan n) []) (Rt (D.pan n) []))) (brT r (Ow (CQ 147 [dP 0 0,dA (tC a d e c),dI i] (psO ts b so r1 r2 r3) (dA [dS m,dL l []]) (psO ts k so r1 r2 r3)) (Rt (D.tuple [dA [dS m,dL l []],dA (tC a d e c),dB true]) (psO ts k so r1 r2 r3))) (Ow (CQ 147 [dP 0 0,dA (tC a d e c),dI i] (psO ts b so r1 r2 r3) (D.pan p) []) (Rt (D.pan p) [])))) (brT r (Ow (CQ 147 [dP 0 0,dA (tC a d e c),dI i] (psO ts b so r1 r2 r3) (dA [dS m,dL l []]) (psO ts k so r1 r2 r3)) (Rt (D.tuple [dA [dS m,dL l []],dA (tC a d e c),dB true]) (psO ts k so r1 r2 r3))) (Ow (CQ 147 [dP 0 0,dA (tC a d e c),dI i] (psO ts b so r1 r2 r3) (D.pan p) []) (Rt (D.pan p) [])))))))) (Ow (CQ 91 [dP 0 0] (psO ts i so r1 r2 r3) (D.pan v20) []) (Rt (D.pan v20) []))) Tr.bad)
theorem ZcH (ts:List Tk) (i:Int) (so:Bool) (es ext:LD) (a b:Int) (c:LU) (e:Bool) (o v:Int) (z:LU) (r:LD) (d:Int) (v20:Value) (j f:Bool) (p w:Int) (A:LU) (s:LD) (k:Int) (v30:Value) (g:Bool) (q y:Int) (B:LU) (t:LD) (l:Int) (H I:Value) (h:Bool) (G:LU) (u:LD) (n:Int) (J:Value) (r1 r2 r3:LD):goT Tryz.prog {F:=λx=>libT,C:=λm=>if m=17 then psQ (dA [dU a,dS c,dI b]) (psO ts i so r1 r2 r3) else if m=20 then psB e (dA (tC o v z r)) (psO ts d so r1 r2 r3) v20 else if m=25 then psQ (dB j) (psO ts d so r1 r2 r3) else if m=30 then psB f (dA (tC p w A s)) (psO ts k so r1 r2 r3) v30 else if m=46 then psB g (dA (tC q y B t)) (psO ts l so r1 r2 r3) H else if m=50 then psB false D.nils [] I else psB h (dA [dS G,dL u []]) (psO ts n so r1 r2 r3) J,E:=noE} 10 (finF false 10 Zfg) 2000 [Fr.sc Zew] {tm:=Zu 0 ([]++[dP 0 0,dL es ext]++[]),ob:=psO ts i so r1 r2 r3}=Zk7 ts i so es ext a b c e o v z r d v20 j f p w A s k v30 g q y B t l H I h G u n J r1 r2 r3:=by kernel_rfl
noncomputable def Zk0 (ts:List Tk) (i:Int) (so no w:Bool) (q:LU) (l:LD) (h:Int) (v10:Value) (x:Bool) (r:LU) (m:LD) (c e:Int) (f:LU) (d:LD) (b:Bool) (a:Int) (t:Value) (y:Bool) (o g:Int) (u:Value) (z:Bool) (k p:Int) (s:LU) (n:LD) (j:Int) (v:Value) (r1 r2 r3:LD):Tr:=brT no (brT w (Ow (CQ 111 [dP 0 0] (psO ts i so r1 r2 r3) (dA [dS q,dL l []]) (psO ts h so r1 r2 r3)) (Rt (dA [dU 1,dB true,dS q,dL l [],dU 0,dU 0,dI 0,dS [],dL [] [],dU 0,dI 0,dS [],dL [] []]) (psO ts h so r1 r2 r3))) (Ow (CQ 111 [dP 0 0] (psO ts i so r1 r2 r3) (D.pan v10) []) (Rt (D.pan v10) []))) (Ow True (brT x (Ow (CQ 110 [dP 0 0,dL [[dS [61]],[dS [33,61]],[dS [60]],[dS [60,61]],[dS [62]],[dS [62,61]]] []] (psO ts i so r1 r2 r3) (D.tuple [dA [dS r,dL m []],dA (tC c e f d),dB b]) (psO ts a so r1 r2 r3)) (brT b (Rt (dA [dU 1,dB false,dS r,dL m [],dU 0,dU 0,dI 0,dS [],dL [] [],dU 0,dI 0,dS [],dL [] []]) (psO ts a so r1 r2 r3)) (brT y (Ow (CQ 168 [dP 0 0] (psO ts a so r1 r2 r3) (dU o) (psO ts g so r1 r2 r3)) (brT z (Ow (CQ 51 [dP 0 0] (psO ts g so r1 r2 r3) (dA (tC k p s n)) (psO ts j so r1 r2 r3)) (Rt (dA [dU 2,dB false,dS [],dL [] [],dU o,dU c,dI e,dS f,dL d [],dU k,dI p,dS s,dL n []]) (psO ts j so r1 r2 r3))) (Ow (CQ 51 [dP 0 0] (psO ts g so r1 r2 r3) (D.pan v) []) (Rt (D.pan v) [])))) (Ow (CQ 168 [dP 0 0] (psO ts a so r1 r2 r3) (D.pan u) []) (Rt (D.pan u) []))))) (Ow (CQ 110 [dP 0 0,dL [[dS [61]],[dS [33,61]],[dS [60]],[dS [60,61]],[dS [62]],[dS [62,61]]] []] (psO ts i so r1 r2 r3) (D.pan t) []) (Rt (D.pan t) []))))
theorem ZcD (ts:List Tk) (i:Int) (so no f:Bool) (v:LU) (q:LD) (k:Int) (v10:Value) (g:Bool) (w:LU) (r:LD) (b d:Int) (e:LU) (c:LD) (a:Bool) (l:Int) (z:Value) (h:Bool) (t n:Int) (A:Value) (j:Bool) (p u:Int) (y:LU) (s:LD) (o:Int) (B:Value) (r1 r2 r3:LD):goT Tryz.prog {F:=λx=>Zcc,C:=λm=>if m=10 then psB f (dA [dS v,dL q []]) (psO ts k so r1 r2 r3) v10 else if m=15 then psB g (D.tuple [dA [dS w,dL r []],dA (tC b d e c),dB a]) (psO ts l so r1 r2 r3) z else if m=23 then psB h (dU t) (psO ts n so r1 r2 r3) A else psB j (dA (tC p u y s)) (psO ts o so r1 r2 r3) B,E:=noE} 10 (finF false 10 Zf8) 2000 [Fr.sc Zeo] {tm:=Zu 0 ([]++[dP 0 0,dB no]++[]),ob:=psO ts i so r1 r2 r3}=Zk0 ts i so no f v q k v10 g w r b d e c a l z h t n A j p u y s o B r1 r2 r3:=by kernel_rfl
theorem ZgC (ts:List Tk) (i:Int) (so a:Bool) (c:LD) (b:Int) (v6:Value) (r1 r2 r3:LD):let A:=psO ts b so r1 r2 r3;let B:=[dP 0 0,dI 64,dS [44],dF 51 [dP 0 0] []];let G:=psO ts i so r1 r2 r3;let H:=dL c [];goT Tryz.prog {F:=λx=>libT,C:=λx=>psB a H A v6,E:=noE} 10 (finF false 10 Zfa) 2000 [Fr.sc Zeq] {tm:=Zu 0 ([]++[dP 0 0]++[]),ob:=psO ts i so r1 r2 r3}=(brT a (Ow (CQ 166 B G H A) (Rt H A)) (Ow (CQ 166 B G (D.pan v6) []) (Rt (D.pan v6) [])):Tr):=by intro A B G H;kernel_rfl
theorem Zgz (ts:List Tk) (i:Int) (so c:Bool) (t:Int) (r:Bool) (j:Int) (a:Bool) (k:LU) (h:LD) (b d l:Int) (o:LU) (f:LD) (e n:Int) (p:LU) (g:LD) (s:Int) (q:Value) (r1 r2 r3:LD):let A:=dA [dU j,dB a,dS k,dL h [],dU b,dU d,dI l,dS o,dL f [],dU e,dI n,dS p,dL g []];let B:=psO ts t so r1 r2 r3;let G:=psO ts s so r1 r2 r3;let H:=(0,oC [dP 1 0]);let I:=[dP 0 0,dB c];goT Tryz.prog {F:=λx=>libT,C:=λm=>if m=7 then psQ (dB c) B else psB r A G q,E:=noE} 10 (finF false 10 Zf9) 2000 [Fr.sc Zep] {tm:=Zu 0 ([]++[]++[dP 0 0]),ob:=psQ0 ts i so r1 r2 r3}=(Ow (CQ 66 [dP 0 0,dL [[dS [110,111,116]]] []] (psO ts i so r1 r2 r3) (dB c) B) (brT r (Ow (CQ 139 I B A G) (Rt A [H,(1,oC [dL (List.map Zo ts) [],dI s,dV 2,dV 3,dV 4,dB so]),(2,oR true 20 42 r1),(3,oR true 5 53 r2),(4,oR true 2 138 r3)])) (Ow (CQ 139 I B (D.pan q) []) (Rt (D.pan q) [H]))):Tr):=by intro A B G H I;kernel_rfl
theorem Z7b (ts:List Tk) (i:Int) (so c:Bool) (d:Int) (a:Bool) (e:LD) (b:Int) (v11:Value) (r1 r2 r3:LD):let A:=[dP 0 0,dI 64,dS [44],dF 138 [] [dP 1 0]];let B:=psO1 ts b so r1 r2 r3;let G:=psO1 ts d so r1 r2 r3;let H:=psO ts d so r1 r2 r3;let I:=dL e [];let J:=D.pan v11;goT Tryz.prog {F:=λx=>libT,C:=λm=>if m=7 then psQ (dB c) H else psB a I B v11,E:=noE} 10 (finF false 10 Zfn) 2000 [Fr.sc ZeD] {tm:=Zu 0 ([]++[dP 0 0]++[]),ob:=psO ts i so r1 r2 r3}=(Ow (CQ 66 [dP 0 0,dL [[dS [58]]] []] (psO ts i so r1 r2 r3) (dB c) H) (brT (!c) (Rt (dV 10) [(0,oC [dL (List.map Zo ts) [],dI d,dV 1,dV 2,dV 3,dB so]),(1,oR true 20 42 r1),(2,oR true 5 53 r2),(3,oR true 2 138 r3),(10,oR true 13 64 [])]) (brT a (Ow (CQ 137 A G I B) (Rt I (psO ts b so r1 r2 r3))) (Ow (CQ 137 A G J []) (Rt J [])))):Tr):=by intro A B G H I J;kernel_rfl
end Go.Proofs.YtecgehidegnmnaaGreatDoor
