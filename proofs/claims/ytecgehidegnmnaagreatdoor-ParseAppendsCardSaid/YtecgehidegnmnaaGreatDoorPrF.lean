/- Own work: a layer over the kit: plain data,a walk over it,its soundness. -/
import Derived.Test.YtecgehidegnmnaaGreatDoorShape
set_option linter.unusedSectionVars false
set_option linter.unusedVariables false
set_option linter.unusedSimpArgs false
set_option linter.deprecated false
set_option maxRecDepth 100000
/- The parser: terms. -/
open Go.Sx.Ps (PR ZI Q7 Zu Z1 Qi Z0 Z0s Zb Z0b z0 Z5L Z1c Z4M ZS Zl Z16 Z1t Zp fu Qa Z2z)
namespace Go.Proofs.YtecgehidegnmnaaGreatDoor
open Go.Sx
open Go.Sx.Lx (Tk Zq)
open Go.Sx.Ps (kT nmT)
def flt {α:Type}:PR α->Value
 | .bad a e=>fltV a e
 | .ok _ _=>Go.undef
def RS {α:Type} (os:Nat->Obs) (enc:α->D) (x:PR α):D->Obs->Prop:=fun r ob=>match x with
 | .ok a j=>r=enc a/\ob=os j
 | .bad a e=>r= .pan (fltV a e)/\ob=[]
theorem Z0L {α:Type} {os:Nat->Obs} {enc:α->D} {x:PR α} {d:D} {ys:List D} {ob:Obs} (h:CallL Tryz.prog d ys ob (RW os enc x)):CallL Tryz.prog d ys ob (RS os enc x):=by
 cases x with
 | ok l j=>exact h
 | bad a e=>exact CallL.pdrop h fun _ _ h=>h
theorem ZH {α:Type} {p:PS} {enc:α->D} {x:PR α} {d:D} {ys:List D} {ob:Obs} (h:CallL Tryz.prog d ys ob (PRes p enc x)):CallL Tryz.prog d ys ob (RS p.o enc x):=by
 cases x <;> exact h
theorem psX {α:Type} (z:α) {os:Nat->Obs} {enc:α->D} {x:PR α} {d:D} {ys:List D} {ob:Obs} (h:CallL Tryz.prog d ys ob (RS os enc x)) {A B:Prop} (h1: ∀ a j,x= .ok a j->A) (h2: ∀ a e,x= .bad a e->B) :
  (x.isOk=true->(CallL Tryz.prog d ys ob fun r0 ob0=>r0=enc (x.val z)/\ob0=os x.pos)/\A)/\(x.isOk=false->(CallL Tryz.prog d ys ob fun r0 ob0=>r0= .pan (flt x)/\ob0=[])/\B):=by
 cases x with
 | ok a j=>exact⟨fun _=>⟨h,h1 a j rfl⟩,nofun⟩
 | bad a e=>exact⟨nofun,fun _=>⟨h,h2 a e rfl⟩⟩
def nT:Tm->Int
 | .mk _ n _ _=>n
abbrev tmE (t:Tm):D:= .agg (tC (kT t:Nat) (nT t) (nmT t) (Tm.cellsL (Ps.arT t)))
theorem Z6O (t:Tm):tmE t= .agg t.cells:=by cases t; rfl
def Mth (f:FuncId) (ob:Obs) (R:D->Obs->Prop):Prop:=CallL Tryz.prog (.func (.func f) [] []) [.ptr 0 0] ob R/\CallL Tryz.prog (.func (.func f) [.ptr 0 0] []) [] ob R
theorem Mth.tree {f:FuncId} {N:Nat} {sc:SC} {rs:List SR} (hf:FnC Tryz.prog f N sc rs/\QE Tryz.prog f=true) {tb:Ctr} (htb:tb.OK Tryz.prog) {n bs:Nat} {ob:Obs} {R:D->Obs->Prop} {T:Tr}
  (e:goT Tryz.prog tb bs (finF false bs rs) n [.sc sc] ⟨Zv 0 [.ptr 0 0],ob⟩=T) (h:T.ok R (fun K s=>At Tryz.prog bs K s (FinQ false bs rs R))) (hlen:Nat.ble 1 N=true:=by rfl) (hbs:Nat.ble (Obs.top ob) bs=true:=by rfl):Mth f ob R :=
 ⟨CallL.tree (first:=[]) (args:=[.ptr 0 0]) (caps:=[]) Z7 hf htb e h hlen hbs,CallL.tree (first:=[.ptr 0 0]) (args:=[]) (caps:=[]) Z7 hf htb e h hlen hbs⟩
theorem Mth.rs {α:Type} {f:FuncId} {os:Nat->Obs} {enc:α->D} {x:PR α} {ob:Obs} (h:Mth f ob (RW os enc x)):Mth f ob (RS os enc x):=⟨Z0L h.1,Z0L h.2⟩
theorem qFit (p:PS) (t:Tm) (ht:Ps.Sh t) (hd:t.depth<=1000000000) (most at' i:Nat):CF 90 [.ptr 0 0,tmE t,.int .i64 most,.int .i64 at'] (p.o i) (RS p.o tmE (ZI t most at' i)):=by
 refine Z0L (CallL.tree Z7 fp90 (Z8 (ZP _) Z5) (Zho p.ts i most at' t.depth (kT t:Nat) (nT t) (nmT t) (Tm.cellsL (Ps.arT t)) p.so p.r1 p.r2 p.r3) ?_)
 have hD:=ZdZ t (Ps.ZeE t ht) hd
 unfold DepP at hD
 rw[<- Z6O] at hD
 unfold PFit ZI
 simp only[SS]
 refine⟨hD,fun h=> ?_,fun h=> ?_⟩
 ·rw[if_pos (by omega)]; exact rfl
 ·rw[if_neg (by omega)]; exact⟨rfl,rfl⟩
theorem tq4 {pt:PT} (hp:pt.OK) {n1 n2 n3:Nat} {q1 q2 q3 q4:QT} (h1:q1.OK) (h2:q2.OK) (h3:q3.OK) (h4:q4.OK):(⟨fun _=>pt,fun n=>if n=n1 then q1 else if n=n2 then q2 else if n=n3 then q3 else q4,noE⟩:Ctr).OK Tryz.prog:=ZF hp fun _=>Z4 h1 (Z4 h2 (Z4 h3 h4))
theorem tq3 {pt:PT} (hp:pt.OK) {n1 n2:Nat} {q1 q2 q3:QT} (h1:q1.OK) (h2:q2.OK) (h3:q3.OK):(⟨fun _=>pt,fun n=>if n=n1 then q1 else if n=n2 then q2 else q3,noE⟩:Ctr).OK Tryz.prog:=ZF hp fun _=>Z4 h1 (Z4 h2 h3)
theorem ZdP (p:PS) (i:Nat) (part:Nat->PR Tm) (hP: ∀ k,i<k->i<p.ts.length->Mth 91 (p.o k) (RS p.o tmE (part k))) (hG: ∀ k a j,i<k->i<p.ts.length->part k= .ok a j->k<=j):Mth 148 (p.o i) (RS p.o tmE (Q7 p.ts part i)):=by
 have hn:=ZH (Z9F p i 1 (by decide))
 generalize hx1:Zu p.ts (1:Nat) i=x1 at hn
 have ht:=Q6 p x1.pos [[40]] [] (by simp)
 refine Mth.rs (Mth.tree Zj8 (tq4 Z3 (Z2 _ _ _ _) (Zi _ _) (Z2 _ _ _ _) (Z2 _ _ _ _)) (Zhh p.ts i x1.pos ((if Z1 p.ts x1.pos [[40]]=true then x1.pos+1 else x1.pos:Nat):Int) (Qi p.ts 8 [44] part (x1.pos+1)).pos (Z0 p.ts [41] (Qi p.ts 8 [44] part (x1.pos+1)).pos).pos p.so x1.isOk (Z1 p.ts x1.pos [[40]]) (Qi p.ts 8 [44] part (x1.pos+1)).isOk (Z0 p.ts [41] (Qi p.ts 8 [44] part (x1.pos+1)).pos).isOk (x1.val []) (Tm.cellsL ((Qi p.ts 8 [44] part (x1.pos+1)).val [])) (flt x1) (flt (Qi p.ts 8 [44] part (x1.pos+1))) (flt (Z0 p.ts [41] (Qi p.ts 8 [44] part (x1.pos+1)).pos)) p.r1 p.r2 p.r3) ?_)
 unfold PNam Q7
 simp only[SS]
 change Zu p.ts 1 i=x1 at hx1
 refine psX [] hn (fun s j h1=>⟨ht,fun h2=> ?_,fun h2=> ?_⟩) fun a e h1=> ?_
 ·subst h1
  change Z1 p.ts j [[40]]=true at h2
  have hj:=Ps.Z1L hx1
  have hlt:i<p.ts.length:=by have:=Qg h2; omega
  have hl:=ZH (ZdQ p 91 8 [44] part (j+1) (by decide) (fun k hk=>(hP k (by omega) hlt).2.mono fun r ob h=>by
   unfold RS at h; unfold PRes
   cases hq:part k with
   | ok a m=>rw[hq] at h; simp only at h ⊢; rw[<- Z6O]; exact h
   | bad a e=>rw[hq] at h; exact h) fun k a m hk=>hG k a m (by omega) hlt)
  simp only[h2,if_true,hx1,PR.bind,PR.pos] at hl ⊢
  refine psX [] hl (fun l m h3=> ?_) fun a e h3=> ?_
  ·simp only[h3,PR.pos,PR.bind,PR.val]
   refine psX () (ZH (Qm p m [41])) (fun _ o h4=> ?_) fun a e h4=> ?_
   ·simp only[h4,PR.pos]; exact⟨rfl,rfl⟩
   ·simp only[h4]; exact rfl
  ·simp only[h3,PR.bind]; exact rfl
 ·subst h1
  change Z1 p.ts j [[40]]=false at h2
  simp only[h2,Bool.false_eq_true,if_false,hx1,PR.bind,PR.pos,PR.val]
  exact⟨rfl,rfl⟩
 ·subst h1
  simp only[hx1,PR.bind]; exact rfl
theorem ZiB (p:PS) (g:Nat) (l:List (LU)) (ext:LD) (hl:l.length<=1000) (f:Nat->PR Tm) (i0:Nat)
  (hI: ∀ k,i0<=k->CallL Tryz.prog (.func (.func g) [.ptr 0 0] []) [] (p.o k) (RS p.o tmE (f k))) (hG: ∀ k a j,i0<=k->f k= .ok a j->k<=j): ∀ (n:Nat) (t:Tm) (i:Nat),i0<=i->p.ts.length-i<n →
  At Tryz.prog 10 (cut Z2l 0) (ZiR p.ts i g (strC l) ext p.so (tC (kT t:Nat) (nT t) (nmT t) (Tm.cellsL (Ps.arT t))) p.r1 p.r2 p.r3) (FinQ false 10 Z4Y (RW p.o tmE (Z0s p.ts f l n t i)))
 | 0,t,i,hi,hn=>by omega
 | n+1,t,i,hi,hn=>by
  have hs:=Z1J p i l ext hl
  refine At.tree (tq3 Z3 (Zi _ _) (Zi _ _) (Z2 _ _ _ _)) (Zdl p.ts i (f (i+1)).pos g (f (i+1)).isOk (Z1 p.ts i l) p.so (strC l) ext (Zb p.ts i).1 (Zb p.ts i).2.2 (Zb p.ts i).2.1 (kT t:Nat) (nT t) (kT ((f (i+1)).val t):Nat) (nT ((f (i+1)).val t)) (nmT t) (nmT ((f (i+1)).val t)) (Tm.cellsL (Ps.arT t)) (Tm.cellsL (Ps.arT ((f (i+1)).val t))) (flt (f (i+1))) p.r1 p.r2 p.r3) ?_
  unfold Zkh Z0s
  simp only[SS]
  refine⟨hs,fun h1=> ?_,fun h1=> ?_⟩
  ·have hlt:=Qg h1
   have hp:=p.hl
   refine⟨Z3p p i,by omega,psX t (hI (i+1) (by omega)) (fun u j h2=> ?_) fun a e h2=> ?_⟩
   ·have hij:=hG _ _ _ (by omega) h2
    have ih:=ZiB p g l ext hl f i0 hI hG n (.mk 5 0 (Zb p.ts i).2.1 [t,u]) j (by omega) (by omega)
    simp only[h1,if_true,h2,PR.bind,PR.pos,PR.val]
    have e:Tm.cellsL [t,u]=[tC (kT t:Nat) (nT t) (nmT t) (Tm.cellsL (Ps.arT t)),tC (kT u:Nat) (nT u) (nmT u) (Tm.cellsL (Ps.arT u))]:=by cases t; cases u; rfl
    simp only[kT,nT,nmT,Ps.arT,e] at ih
    exact ih
   ·simp only[h1,if_true,h2,PR.bind]; exact rfl
  ·simp only[h1,Bool.false_eq_true,if_false]; exact⟨rfl,rfl⟩
theorem qChA (p:PS) (g:Nat) (l:List (LU)) (ext:LD) (hl:l.length<=1000) (f:Nat->PR Tm) (i:Nat)
  (hI: ∀ k,i<=k->CallL Tryz.prog (.func (.func g) [.ptr 0 0] []) [] (p.o k) (RS p.o tmE (f k))) (hG: ∀ k a j,i<=k->f k= .ok a j->k<=j):CF 161 [.ptr 0 0,.func (.func g) [.ptr 0 0] [],.slice (strC l) ext] (p.o i) (RS p.o tmE (Z0b p.ts f l i)):=by
 refine Z0L (CallL.tree Z7 Zgy (Z8 Z3 (Z2 _ _ _ _)) (Zhu p.ts i (f i).pos g (f i).isOk p.so (strC l) ext (kT ((f i).val z0):Nat) (nT ((f i).val z0)) (nmT ((f i).val z0)) (Tm.cellsL (Ps.arT ((f i).val z0))) (flt (f i)) p.r1 p.r2 p.r3) ?_)
 unfold PChA Z0b
 simp only[SS]
 refine psX z0 (hI i (Nat.le_refl _)) (fun t j h1=> ?_) fun a e h1=> ?_
 ·have hij:=hG _ _ _ (Nat.le_refl _) h1
  simp only[h1,PR.bind,PR.pos,PR.val]
  exact ZiB p g l ext hl f i hI hG (p.ts.length+1) t j (by omega) (by omega)
 ·simp only[h1,PR.bind]; exact rfl
theorem ZiA (p:PS) (g:Nat) (l:List (LU)) (ext:LD) (hl:l.length<=1000) (f:Nat->PR Tm) (i0:Nat)
  (hI: ∀ k,i0<=k->CallL Tryz.prog (.func (.func g) [] [.ptr 0 0]) [] (p.oq k) (RS p.oq tmE (f k))) (hG: ∀ k a j,i0<=k->f k= .ok a j->k<=j): ∀ (n:Nat) (t:Tm) (i:Nat),i0<=i->p.ts.length-i<n →
  At Tryz.prog 10 (cut Z2l 0) (ZiQ p.ts i g (strC l) ext p.so (tC (kT t:Nat) (nT t) (nmT t) (Tm.cellsL (Ps.arT t))) p.r1 p.r2 p.r3) (FinQ false 10 Z4Y (RW p.ob tmE (Z0s p.ts f l n t i)))
 | 0,t,i,hi,hn=>by omega
 | n+1,t,i,hi,hn=>by
  have hs:=Z1J p i l ext hl
  refine At.tree (tq3 Z3 (Zi _ _) (Zi _ _) (Z2 _ _ _ _)) (Zdk p.ts i (f (i+1)).pos g (f (i+1)).isOk (Z1 p.ts i l) p.so (strC l) ext (Zb p.ts i).1 (Zb p.ts i).2.2 (Zb p.ts i).2.1 (kT t:Nat) (nT t) (kT ((f (i+1)).val t):Nat) (nT ((f (i+1)).val t)) (nmT t) (nmT ((f (i+1)).val t)) (Tm.cellsL (Ps.arT t)) (Tm.cellsL (Ps.arT ((f (i+1)).val t))) (flt (f (i+1))) p.r1 p.r2 p.r3) ?_
  unfold Zkg Z0s
  simp only[SS]
  refine⟨hs,fun h1=> ?_,fun h1=> ?_⟩
  ·have hlt:=Qg h1
   have hp:=p.hl
   refine⟨Z3p p i,by omega,psX t (hI (i+1) (by omega)) (fun u j h2=> ?_) fun a e h2=> ?_⟩
   ·have hij:=hG _ _ _ (by omega) h2
    have ih:=ZiA p g l ext hl f i0 hI hG n (.mk 5 0 (Zb p.ts i).2.1 [t,u]) j (by omega) (by omega)
    simp only[h1,if_true,h2,PR.bind,PR.pos,PR.val]
    have e:Tm.cellsL [t,u]=[tC (kT t:Nat) (nT t) (nmT t) (Tm.cellsL (Ps.arT t)),tC (kT u:Nat) (nT u) (nmT u) (Tm.cellsL (Ps.arT u))]:=by cases t; cases u; rfl
    simp only[kT,nT,nmT,Ps.arT,e] at ih
    exact ih
   ·simp only[h1,if_true,h2,PR.bind]; exact rfl
  ·simp only[h1,Bool.false_eq_true,if_false]; exact⟨rfl,rfl⟩
theorem qChB (p:PS) (g:Nat) (l:List (LU)) (ext:LD) (hl:l.length<=1000) (f:Nat->PR Tm) (i:Nat)
  (hI: ∀ k,i<=k->CallL Tryz.prog (.func (.func g) [] [.ptr 0 0]) [] (p.oq k) (RS p.oq tmE (f k))) (hG: ∀ k a j,i<=k->f k= .ok a j->k<=j):CF 161 [.ptr 0 0,.func (.func g) [] [.ptr 1 0],.slice (strC l) ext] (p.ob i) (RS p.ob tmE (Z0b p.ts f l i)):=by
 refine Z0L (CallL.tree Z7 Zgy (Z8 Z3 (Z2 _ _ _ _)) (Zht p.ts i (f i).pos g (f i).isOk p.so (strC l) ext (kT ((f i).val z0):Nat) (nT ((f i).val z0)) (nmT ((f i).val z0)) (Tm.cellsL (Ps.arT ((f i).val z0))) (flt (f i)) p.r1 p.r2 p.r3) ?_)
 unfold PChB Z0b
 simp only[SS]
 refine psX z0 (hI i (Nat.le_refl _)) (fun t j h1=> ?_) fun a e h1=> ?_
 ·have hij:=hG _ _ _ (Nat.le_refl _) h1
  simp only[h1,PR.bind,PR.pos,PR.val]
  exact ZiA p g l ext hl f i hI hG (p.ts.length+1) t j (by omega) (by omega)
 ·simp only[h1,PR.bind]; exact rfl
end Go.Proofs.YtecgehidegnmnaaGreatDoor
/- The parser: factor's tree. -/
namespace Go.Proofs.YtecgehidegnmnaaGreatDoor
open Go.Sx
open Go.Sx.Lx (Tk Zq)
theorem Zhp (ts:List Tk) (i j14 j21 j28 j30 j34 j41 j51 j55 j59:Int) (so b14 b21 c28 b30 b34 c41 b51 b55 b59:Bool) (hk ho gk go n14 n51 k30 n30 k55 n55 k59 n59:Int) (hs gs s21 s30 s55 s59:LU) (l30 l55 l59:LD) (v14 v21 v30 v34 v51 v55 v59:Value) (r1 r2 r3:LD):let A:=psO ts j41 so r1 r2 r3;let B:=psO ts i so r1 r2 r3;let G:=psO ts j28 so r1 r2 r3;let H:=psO ts j30 so r1 r2 r3;let I:=dA (tC k30 n30 s30 l30);let J:=dA (tC k59 n59 s59 l59);let K:=psO ts j14 so r1 r2 r3;let L:=psO ts j21 so r1 r2 r3;let M:=psO ts j34 so r1 r2 r3;let N:=psO ts j51 so r1 r2 r3;let O:=psO ts j55 so r1 r2 r3;let P:=psO ts j59 so r1 r2 r3;let Q:=tC k55 n55 s55 l55;let R:=dA [dU hk,dS hs,dI ho];let S:=dA [dU gk,dS gs,dI go];let T:=[dP 0 0,dS [41]];let U:=[dP 0 0,dU 2];let V:=((0:Int)-n51);let W:=D.tuple [];let X:=D.pan v14;let Y:=D.pan v21;let Z:=D.pan v34;let A1:=D.pan v30;let B1:=D.pan v51;let C1:=D.pan v55;let E1:=D.pan v59;goT Tryz.prog { F:=fun x=>libT,C:=fun m=>if m=7 then psQ R B else if m=14 then psB b14 (dI n14) K v14 else if m=21 then psB b21 (dS s21) L v21 else if m=28 then psQ (dB c28) G else if m=30 then psB b30 I H v30 else if m=34 then psB b34 W M v34 else if m=41 then psQ (dB c41) A else if m=45 then psQ S A else if m=51 then psB b51 (dI n51) N v51 else if m=55 then psB b55 (dA Q) O v55 else psB b59 J P v59,E:=noE } 10 (finF false 10 Zfy) 2000 [Fr.sc ZeL] { tm:=Zv 0 ([]++[dP 0 0]++[]),ob:=psO ts i so r1 r2 r3 }=(Ow (CQ 58 [dP 0 0] B R B) (brT (decide (hk=(3:Int))) (brT b14 (Ow (CQ 98 [dP 0 0] B (dI n14) K) (Rt (dA [dU 1,dI n14,dS [],dL [] []]) K)) (Ow (CQ 98 [dP 0 0] B X []) (Rt X []))) (brT (decide (hk=(2:Int))) (brT b21 (Ow (CQ 97 U B (dS s21) L) (Rt (dA [dU 3,dI 0,dS s21,dL [] []]) L)) (Ow (CQ 97 U B Y []) (Rt Y []))) (Ow (CQ 66 [dP 0 0,dL [[dS [40]]] []] B (dB c28) G) (brT c28 (brT b30 (Ow (CQ 91 [dP 0 0] G I H) (brT b34 (Ow (CQ 68 T H W M) (Rt I M)) (Ow (CQ 68 T H Z []) (Rt Z [])))) (Ow (CQ 91 [dP 0 0] G A1 []) (Rt A1 []))) (Ow (CQ 66 [dP 0 0,dL [[dS [45]]] []] G (dB c41) A) (brT c41 (Ow (CQ 58 [dP 0 0] A S A) (brT (decide (gk=(3:Int))) (brT b51 (Ow (CQ 98 [dP 0 0] A (dI n51) N) (I8 V (Rt (dA [dU 1,dI V,dS [],dL [] []]) N))) (Ow (CQ 98 [dP 0 0] A B1 []) (Rt B1 []))) (brT b55 (Ow (CQ 162 [dP 0 0] A (dA Q) O) (Rt (dA [dU 5,dI 0,dS [45],dL [Q] []]) O)) (Ow (CQ 162 [dP 0 0] A C1 []) (Rt C1 []))))) (brT b59 (Ow (CQ 148 [dP 0 0] A J P) (Rt J P)) (Ow (CQ 148 [dP 0 0] A E1 []) (Rt E1 []))))))))):Tr):=by intro A B G H I J K L M N O P Q R S T U V W X Y Z A1 B1 C1 E1;kernel_rfl
end Go.Proofs.YtecgehidegnmnaaGreatDoor
/- The parser: sums,parts,factors. -/
namespace Go.Proofs.YtecgehidegnmnaaGreatDoor
open Go.Sx
open Go.Sx.Lx (Tk Zq)
open Go.Sx.Ps (kT nmT W Sm)
theorem w_le {ts:List Tk} {α:Type} {i j:Nat} {x:PR α} {a:α} (h:W ts 0 true i x x) (hx:x= .ok a j):i<=j:=(Z5L h hx).1
theorem qSu1 (p:PS) (f:Nat->PR Tm) (i:Nat) (hI: ∀ k,i<=k->Mth 162 (p.o k) (RS p.o tmE (f k))) (hW: ∀ k,i<=k->W p.ts 0 true k (f k) (f k)) :
  CallL Tryz.prog (.func (.func 160) [] [.ptr 0 0]) [] (p.oq i) (RS p.oq tmE (Z1c p.ts f i)):=by
 have hc:=qChA p 162 [[42],[47],[92]] [] (by decide) f i (fun k hk=>(hI k hk).2) fun k a j hk hx=>w_le (hW k hk) hx
 unfold Z1c
 generalize Z0b p.ts f [[42],[47],[92]] i=x at hc
 refine Z0L (CallL.tree Z7 Zj4 (Z8 Z3 (Z2 _ _ _ _)) (Zhe p.ts i x.pos x.isOk p.so (kT (x.val z0):Nat) (nT (x.val z0)) (nmT (x.val z0)) (Tm.cellsL (Ps.arT (x.val z0))) (flt x) p.r1 p.r2 p.r3) ?_)
 simp only[SS]
 refine psX z0 hc (fun t j h1=> ?_) fun a e h1=> ?_
 ·subst h1; exact⟨rfl,rfl⟩
 ·subst h1; exact rfl
theorem qSum (p:PS) (f:Nat->PR Tm) (i:Nat) (hI: ∀ k,i<=k->Mth 162 (p.o k) (RS p.o tmE (f k))) (hW: ∀ k,i<=k->W p.ts 0 true k (f k) (f k)) :
  CF 131 [.ptr 0 0] (p.o i) (RS p.o tmE (Z4M p.ts f i)):=by
 have hc:=qChB p 160 [[43],[45]] [] (by decide) (Z1c p.ts f) i (fun k hk=>qSu1 p f k (fun m hm=>hI m (by omega)) fun m hm=>hW m (by omega)) fun k a j hk hx=>w_le (Ps.Z46 (Sm.self p.ts) (i0:=i) hW hk) hx
 unfold Z4M
 generalize Z0b p.ts (Z1c p.ts f) [[43],[45]] i=x at hc
 refine Z0L (CallL.tree Z7 Zjj (Z8 Z3 (Z2 _ _ _ _)) (Zhd p.ts i x.pos x.isOk p.so (kT (x.val z0):Nat) (nT (x.val z0)) (nmT (x.val z0)) (Tm.cellsL (Ps.arT (x.val z0))) (flt x) p.r1 p.r2 p.r3) ?_)
 simp only[SS]
 refine psX z0 hc (fun t j h1=> ?_) fun a e h1=> ?_
 ·subst h1; exact⟨rfl,rfl⟩
 ·subst h1; exact rfl
theorem ZjK (t u:Tm):Tm.cellsL [t,u]=[tC (kT t:Nat) (nT t) (nmT t) (Tm.cellsL (Ps.arT t)),tC (kT u:Nat) (nT u) (nmT u) (Tm.cellsL (Ps.arT u))]:=by cases t; cases u; rfl
theorem ZjL (t:Tm):Tm.cellsL [t]=[tC (kT t:Nat) (nT t) (nmT t) (Tm.cellsL (Ps.arT t))]:=by cases t; rfl
theorem ZdJ (k:Nat) (n:Int) (s:LU) (l:List Tm):tmE (.mk k n s l)= .agg [.int .u8 k,.int .i64 n,.str s,.slice (Tm.cellsL l) []]:=rfl
theorem Zis (p:PS) (f:Nat->PR Tm) (i:Nat) (hI: ∀ k,i<=k->Mth 162 (p.o k) (RS p.o tmE (f k))) (hW: ∀ k,i<=k->W p.ts 0 true k (f k) (f k)) :
  Mth 91 (p.o i) (RS p.o tmE (ZS p.ts f i)):=by
 have h0:=qSum p f i hI hW
 have hw:=Ps.Zek (Sm.self p.ts) (i0:=i) hW (Nat.le_refl i)
 unfold ZS
 generalize hx:Z4M p.ts f i=x at h0 hw
 have ht:=Q6 p x.pos [[46,46]] [] (by simp)
 refine Mth.rs (Mth.tree fp91 (tq3 Z3 (Z2 _ _ _ _) (Zi _ _) (Z2 _ _ _ _)) (Zhg p.ts i x.pos ((if Z1 p.ts x.pos [[46,46]]=true then x.pos+1 else x.pos:Nat):Int) (Z4M p.ts f (x.pos+1)).pos p.so x.isOk (Z1 p.ts x.pos [[46,46]]) (Z4M p.ts f (x.pos+1)).isOk
  (kT (x.val z0):Nat) (nT (x.val z0)) (kT ((Z4M p.ts f (x.pos+1)).val z0):Nat) (nT ((Z4M p.ts f (x.pos+1)).val z0)) (nmT (x.val z0)) (nmT ((Z4M p.ts f (x.pos+1)).val z0)) (Tm.cellsL (Ps.arT (x.val z0))) (Tm.cellsL (Ps.arT ((Z4M p.ts f (x.pos+1)).val z0))) (flt x) (flt (Z4M p.ts f (x.pos+1))) p.r1 p.r2 p.r3) ?_)
 simp only[SS]
 refine psX z0 h0 (fun t j h1=>⟨ht,fun h2=> ?_,fun h2=> ?_⟩) fun a e h1=> ?_
 ·subst h1
  change Z1 p.ts j [[46,46]]=true at h2
  have hij:i<=j:=hw.1
  have h3:=qSum p f (j+1) (fun k hk=>hI k (by omega)) fun k hk=>hW k (by omega)
  simp only[h2,if_true,PR.bind,PR.pos,PR.val]
  refine psX z0 h3 (fun u m h4=> ?_) fun a e h4=> ?_
  ·simp only[h4,PR.pos,PR.val]
   show _=tmE _/\_
   rw[ZdJ,ZjK]
   exact⟨rfl,rfl⟩
  ·simp only[h4]; exact rfl
 ·subst h1
  change Z1 p.ts j [[46,46]]=false at h2
  simp only[h2,Bool.false_eq_true,if_false,PR.bind,PR.pos,PR.val]
  exact⟨rfl,rfl⟩
 ·subst h1; exact rfl
end Go.Proofs.YtecgehidegnmnaaGreatDoor
/- The parser: factor. -/
namespace Go.Proofs.YtecgehidegnmnaaGreatDoor
open Go.Sx
open Go.Sx.Lx (Tk Zq)
open Go.Sx.Ps (kT nmT W Sm)
theorem ZhW {pt:PT} (hp:pt.OK) {q1 q2 q3 q4 q5 q6 q7 q8 q9 qa qb:QT} (h1:q1.OK) (h2:q2.OK) (h3:q3.OK) (h4:q4.OK) (h5:q5.OK) (h6:q6.OK) (h7:q7.OK) (h8:q8.OK) (h9:q9.OK) (ha:qa.OK) (hb:qb.OK) :
  (⟨fun _=>pt,fun m=>if m=7 then q1 else if m=14 then q2 else if m=21 then q3 else if m=28 then q4 else if m=30 then q5 else if m=34 then q6 else if m=41 then q7 else if m=45 then q8 else if m=51 then q9 else if m=55 then qa else qb,noE⟩:Ctr).OK Tryz.prog :=
 ZF hp fun _=>Z4 h1 (Z4 h2 (Z4 h3 (Z4 h4 (Z4 h5 (Z4 h6 (Z4 h7 (Z4 h8 (Z4 h9 (Z4 ha hb)))))))))
theorem Z9H (p:PS): ∀ (n i:Nat),p.ts.length-i<n->Mth 162 (p.o i) (RS p.o tmE (Zl p.ts n i))
 | 0,i,hn=>by omega
 | n+1,i,hn=>by
  have hF: ∀ k,i+1<=k->i<p.ts.length->Mth 162 (p.o k) (RS p.o tmE (Zl p.ts n k)):=fun k hk hlt=>Z9H p n k (by omega)
  have hW: ∀ k,i+1<=k->i<p.ts.length->W p.ts 0 true k (Zl p.ts n k) (Zl p.ts n k):=fun k hk hlt=>Z16 (Sm.self p.ts) n n k (by omega) (by omega)
  have hP: ∀ k,i<k->i<p.ts.length->Mth 91 (p.o k) (RS p.o tmE (ZS p.ts (Zl p.ts n) k)):=fun k hk hlt=>Zis p _ k (fun m hm=>hF m (by omega) hlt) fun m hm=>hW m (by omega) hlt
  have hN:=ZdP p i (ZS p.ts (Zl p.ts n)) hP fun k a j hk hlt hx=>w_le (Ps.Z6y (Sm.self p.ts) (i0:=i+1) (fun m hm=>hW m (by omega) hlt) (by omega)) hx
  refine Mth.rs (Mth.tree Zj3 (ZhW Z3 (Zi _ _) (Z2 _ _ _ _) (Z2 _ _ _ _) (Zi _ _) (Z2 _ _ _ _) (Z2 _ _ _ _) (Zi _ _) (Zi _ _) (Z2 _ _ _ _) (Z2 _ _ _ _) (Z2 _ _ _ _))
   (Zhp p.ts i (Z1t p.ts i).pos (Zu p.ts (2:Nat) i).pos ((if Z1 p.ts i [[40]]=true then i+1 else i:Nat):Int) (ZS p.ts (Zl p.ts n) (i+1)).pos (Z0 p.ts [41] (ZS p.ts (Zl p.ts n) (i+1)).pos).pos ((if Z1 p.ts i [[45]]=true then i+1 else i:Nat):Int) (Z1t p.ts (i+1)).pos (Zl p.ts n (i+1)).pos (Q7 p.ts (ZS p.ts (Zl p.ts n)) i).pos
    p.so (Z1t p.ts i).isOk (Zu p.ts (2:Nat) i).isOk (Z1 p.ts i [[40]]) (ZS p.ts (Zl p.ts n) (i+1)).isOk (Z0 p.ts [41] (ZS p.ts (Zl p.ts n) (i+1)).pos).isOk (Z1 p.ts i [[45]]) (Z1t p.ts (i+1)).isOk (Zl p.ts n (i+1)).isOk (Q7 p.ts (ZS p.ts (Zl p.ts n)) i).isOk
    (Zb p.ts i).1 (Zb p.ts i).2.2 (Zb p.ts (i+1)).1 (Zb p.ts (i+1)).2.2 ((Z1t p.ts i).val 0) ((Z1t p.ts (i+1)).val 0) (kT ((ZS p.ts (Zl p.ts n) (i+1)).val z0):Nat) (nT ((ZS p.ts (Zl p.ts n) (i+1)).val z0)) (kT ((Zl p.ts n (i+1)).val z0):Nat) (nT ((Zl p.ts n (i+1)).val z0)) (kT ((Q7 p.ts (ZS p.ts (Zl p.ts n)) i).val z0):Nat) (nT ((Q7 p.ts (ZS p.ts (Zl p.ts n)) i).val z0))
    (Zb p.ts i).2.1 (Zb p.ts (i+1)).2.1 ((Zu p.ts (2:Nat) i).val []) (nmT ((ZS p.ts (Zl p.ts n) (i+1)).val z0)) (nmT ((Zl p.ts n (i+1)).val z0)) (nmT ((Q7 p.ts (ZS p.ts (Zl p.ts n)) i).val z0))
    (Tm.cellsL (Ps.arT ((ZS p.ts (Zl p.ts n) (i+1)).val z0))) (Tm.cellsL (Ps.arT ((Zl p.ts n (i+1)).val z0))) (Tm.cellsL (Ps.arT ((Q7 p.ts (ZS p.ts (Zl p.ts n)) i).val z0)))
    (flt (Z1t p.ts i)) (flt (Zu p.ts (2:Nat) i)) (flt (ZS p.ts (Zl p.ts n) (i+1))) (flt (Z0 p.ts [41] (ZS p.ts (Zl p.ts n) (i+1)).pos)) (flt (Z1t p.ts (i+1))) (flt (Zl p.ts n (i+1))) (flt (Q7 p.ts (ZS p.ts (Zl p.ts n)) i)) p.r1 p.r2 p.r3) ?_)
  simp only[SS]
  rw[Zl]
  refine⟨Z3p p i,fun h3=> ?_,fun h3=>⟨fun h2=> ?_,fun h2=>⟨Q6 p i [[40]] [] (by simp),fun h40=> ?_,fun h40=> ?_⟩⟩⟩
  ·rw[if_pos h3]
   refine psX 0 (ZH (qNum p i)) (fun v j h=> ?_) fun a e h=> ?_
   ·simp only[h,PR.bind,PR.pos,PR.val]; exact⟨rfl,rfl⟩
   ·simp only[h,PR.bind]; exact rfl
  ·rw[if_neg h3,if_pos h2]
   refine psX [] (ZH (Z9F p i 2 (by decide))) (fun v j h=> ?_) fun a e h=> ?_
   ·simp only[h,PR.pos,PR.val]
    change Zu p.ts 2 i=_ at h
    rw[h]; exact⟨rfl,rfl⟩
   ·simp only[h]
    change Zu p.ts 2 i=_ at h
    rw[h]; exact rfl
  ·have hlt:=Qg h40
   rw[if_neg h3,if_neg h2,if_pos h40]
   simp only[h40,if_true]
   refine psX z0 (hP (i+1) (by omega) hlt).1 (fun t j h=> ?_) fun a e h=> ?_
   ·simp only[h,PR.bind,PR.pos,PR.val]
    refine psX () (ZH (Qm p j [41])) (fun _ m h4=> ?_) fun a e h4=> ?_
    ·simp only[h4,PR.pos]; exact⟨rfl,rfl⟩
    ·simp only[h4]; exact rfl
   ·simp only[h,PR.bind]; exact rfl
  ·rw[if_neg h3,if_neg h2,if_neg (by simp[h40])]
   simp only[h40,Bool.false_eq_true,if_false]
   refine⟨Q6 p i [[45]] [] (by simp),fun h45=> ?_,fun h45=> ?_⟩
   ·have hlt:=Qg h45
    rw[if_pos h45]
    simp only[h45,if_true]
    refine⟨Z3p p (i+1),fun h6=> ?_,fun h6=> ?_⟩
    ·rw[if_pos h6]
     refine psX 0 (ZH (qNum p (i+1))) (fun v j h=> ?_) fun a e h=> ?_
     ·have hv:=Ps.Z5X p.hv h
      simp only[h,PR.bind,PR.pos,PR.val]
      refine⟨by omega, ?_⟩
      rw[Int.zero_sub]
      exact⟨rfl,rfl⟩
     ·simp only[h,PR.bind]; exact rfl
    ·rw[if_neg h6]
     refine psX z0 (hF (i+1) (by omega) hlt).1 (fun t j h=> ?_) fun a e h=> ?_
     ·simp only[h,PR.bind,PR.pos,PR.val]
      show _=tmE _/\_
      rw[ZdJ,ZjL]
      exact⟨rfl,rfl⟩
     ·simp only[h,PR.bind]; exact rfl
   ·rw[if_neg (by simp[h45])]
    simp only[h45,Bool.false_eq_true,if_false]
    refine psX z0 hN.1 (fun t j h=> ?_) fun a e h=> ?_
    ·simp only[h,PR.pos,PR.val]; exact⟨rfl,rfl⟩
    ·simp only[h]; exact rfl
theorem Z9E (p:PS) (i:Nat):Mth 91 (p.o i) (RS p.o tmE (Zp p.ts (fu p.ts) i)) :=
 Zis p _ i (fun k _=>Z9H p _ k (by unfold fu; omega)) fun k _=>Z16 (Sm.self p.ts) _ _ k (by unfold fu; omega) (by unfold fu; omega)
theorem Zg2 (p:PS) (i:Nat):Mth 148 (p.o i) (RS p.o tmE (Qa p.ts (fu p.ts) i)) :=
 ZdP p i _ (fun k _ _=>Z9E p k) fun k a j _ _ hx=>w_le (Z2z (Sm.self p.ts) k) hx
theorem Z9M (p:PS) {i j:Nat} {t:Tm} (h:Zp p.ts (fu p.ts) i= .ok t j):Ps.Sh t/\t.depth<=1000000000:=by
 have h1:=Ps.Z5y p.hv i
 have h2:=(Ps.ZaD (ts:=p.ts) (fu p.ts) i).of h
 have h3:=(Z5L (Z2z (Sm.self p.ts) i) h).2 (Nat.le_of_lt (Ps.Zg6 h))
 have hl:=p.hl
 rw[h] at h1
 exact⟨h1,by omega⟩
theorem Zcg (p:PS) {i j:Nat} {t:Tm} (h:Qa p.ts (fu p.ts) i= .ok t j):Ps.Nd t/\t.depth<=1000000000:=by
 have h1:=Ps.Z6I p.hv i
 have h2:=(Ps.Zcz (ts:=p.ts) (fu p.ts) i).of h
 have h3:=(Z5L (Ps.Z6z (Sm.self p.ts) i) h).2 (Nat.le_of_lt (Ps.Zch h))
 have hl:=p.hl
 rw[h] at h1
 exact⟨h1,by omega⟩
end Go.Proofs.YtecgehidegnmnaaGreatDoor
/- The parser: trees of atoms and literals. -/
namespace Go.Proofs.YtecgehidegnmnaaGreatDoor
open Go.Sx
open Go.Sx.Lx (Tk Zq)
noncomputable def ZjY (ts:List Tk) (i:Int) (so b11:Bool) (k11 n11:Int) (s11:LU) (l11:LD) (j11:Int) (v11:Value) (b13:Bool) (k13 n13:Int) (s13:LU) (l13:LD) (j13:Int) (v13:Value) (r1 r2 r3:LD):Tr:=brT b11 (Ow (CQ 91 [dP 0 0] (psO ts i so r1 r2 r3) (dA (tC k11 n11 s11 l11)) (psO ts j11 so r1 r2 r3)) (brT b13 (Ow (CQ 90 [dP 0 0,dA (tC k11 n11 s11 l11),dI 12,dI i] (psO ts j11 so r1 r2 r3) (dA (tC k13 n13 s13 l13)) (psO ts j13 so r1 r2 r3)) (Rt (dA (tC k13 n13 s13 l13)) (psO ts j13 so r1 r2 r3))) (Ow (CQ 90 [dP 0 0,dA (tC k11 n11 s11 l11),dI 12,dI i] (psO ts j11 so r1 r2 r3) (D.pan v13) []) (Rt (D.pan v13) [])))) (Ow (CQ 91 [dP 0 0] (psO ts i so r1 r2 r3) (D.pan v11) []) (Rt (D.pan v11) []))
theorem ZcW (ts:List Tk) (i:Int) (so b11:Bool) (k11 n11:Int) (s11:LU) (l11:LD) (j11:Int) (v11:Value) (b13:Bool) (k13 n13:Int) (s13:LU) (l13:LD) (j13:Int) (v13:Value) (r1 r2 r3:LD):goT Tryz.prog { F:=fun x=>libT,C:=fun m=>if m=11 then psB b11 (dA (tC k11 n11 s11 l11)) (psO ts j11 so r1 r2 r3) v11 else psB b13 (dA (tC k13 n13 s13 l13)) (psO ts j13 so r1 r2 r3) v13,E:=noE } 10 (finF false 10 rs51) 2000 [Fr.sc sc51] { tm:=Zv 0 ([]++[dP 0 0]++[]),ob:=psO ts i so r1 r2 r3 }=ZjY ts i so b11 k11 n11 s11 l11 j11 v11 b13 k13 n13 s13 l13 j13 v13 r1 r2 r3:=by kernel_rfl
noncomputable def PAof (ts:List Tk) (i:Int) (so:Bool) (a k n:Int) (s:LU) (l:LD) (b10:Bool) (k10 n10:Int) (s10:LU) (l10:LD) (j10:Int) (v10:Value) (r1 r2 r3:LD):Tr:=brT b10 (Ow (CQ 90 [dP 0 0,dA (tC k n s l),dI 13,dI a] (psO ts i so r1 r2 r3) (dA (tC k10 n10 s10 l10)) (psO ts j10 so r1 r2 r3)) (Rt (dA [dS s,dL l []]) (psO ts j10 so r1 r2 r3))) (Ow (CQ 90 [dP 0 0,dA (tC k n s l),dI 13,dI a] (psO ts i so r1 r2 r3) (D.pan v10) []) (Rt (D.pan v10) []))
theorem Zhz (ts:List Tk) (i:Int) (so:Bool) (a k n:Int) (s:LU) (l:LD) (b10:Bool) (k10 n10:Int) (s10:LU) (l10:LD) (j10:Int) (v10:Value) (r1 r2 r3:LD):goT Tryz.prog { F:=fun x=>libT,C:=fun x=>psB b10 (dA (tC k10 n10 s10 l10)) (psO ts j10 so r1 r2 r3) v10,E:=noE } 10 (finF false 10 ZfE) 2000 [Fr.sc ZeR] { tm:=Zv 0 ([]++[dP 0 0,dA (tC k n s l),dI a]++[]),ob:=psO ts i so r1 r2 r3 }=PAof ts i so a k n s l b10 k10 n10 s10 l10 j10 v10 r1 r2 r3:=by kernel_rfl
noncomputable def Zkj (ts:List Tk) (i:Int) (so b11:Bool) (k11 n11:Int) (s11:LU) (l11:LD) (j11:Int) (v11:Value) (b13:Bool) (s13:LU) (l13:LD) (j13:Int) (v13:Value) (r1 r2 r3:LD):Tr:=brT b11 (Ow (CQ 148 [dP 0 0] (psO ts i so r1 r2 r3) (dA (tC k11 n11 s11 l11)) (psO ts j11 so r1 r2 r3)) (brT b13 (Ow (CQ 147 [dP 0 0,dA (tC k11 n11 s11 l11),dI i] (psO ts j11 so r1 r2 r3) (dA [dS s13,dL l13 []]) (psO ts j13 so r1 r2 r3)) (Rt (dA [dS s13,dL l13 []]) (psO ts j13 so r1 r2 r3))) (Ow (CQ 147 [dP 0 0,dA (tC k11 n11 s11 l11),dI i] (psO ts j11 so r1 r2 r3) (D.pan v13) []) (Rt (D.pan v13) [])))) (Ow (CQ 148 [dP 0 0] (psO ts i so r1 r2 r3) (D.pan v11) []) (Rt (D.pan v11) []))
theorem Zdn (ts:List Tk) (i:Int) (so b11:Bool) (k11 n11:Int) (s11:LU) (l11:LD) (j11:Int) (v11:Value) (b13:Bool) (s13:LU) (l13:LD) (j13:Int) (v13:Value) (r1 r2 r3:LD):goT Tryz.prog { F:=fun x=>libT,C:=fun m=>if m=11 then psB b11 (dA (tC k11 n11 s11 l11)) (psO ts j11 so r1 r2 r3) v11 else psB b13 (dA [dS s13,dL l13 []]) (psO ts j13 so r1 r2 r3) v13,E:=noE } 10 (finF false 10 ZfR) 2000 [Fr.sc Zf4] { tm:=Zv 0 ([]++[dP 0 0]++[]),ob:=psO ts i so r1 r2 r3 }=Zkj ts i so b11 k11 n11 s11 l11 j11 v11 b13 s13 l13 j13 v13 r1 r2 r3:=by kernel_rfl
noncomputable def Zkc (ts:List Tk) (i:Int) (so:Bool) (es ext:LD) (hk17 ho17:Int) (hs17:LU) (b20:Bool) (k20 n20:Int) (s20:LU) (l20:LD) (j20:Int) (v20:Value) (c25 b30:Bool) (k30 n30:Int) (s30:LU) (l30:LD) (j30:Int) (v30:Value) (b46:Bool) (k46 n46:Int) (s46:LU) (l46:LD) (j46:Int) (v46 v50:Value) (b54:Bool) (s54:LU) (l54:LD) (j54:Int) (v54:Value) (r1 r2 r3:LD):Tr:=Ow (CQ 58 [dP 0 0] (psO ts i so r1 r2 r3) (dA [dU hk17,dS hs17,dI ho17]) (psO ts i so r1 r2 r3)) (brT (ZV true [0,1,3,7,15,0,32,96,224,480,511,2047] { tm:=[(6,dB false),(5,dP 15 0),(4,dP 14 0),(0,dP 0 0),(1,dL es ext)],ob:=[(15,oC [dU 0,dI 0,dS [],D.nils]),(14,oC [dS [],D.nils]),(0,oC [dL (List.map Zq ts) [],dI i,dV 1,dV 2,dV 3,dB so]),(1,oR true 20 42 r1),(2,oR true 5 53 r2),(3,oR true 2 138 r3)] } [{ rd:=[],tm:=some (9,dP 0 0),ob:=[],cd:=none },{ rd:=[],tm:=some (10,dP 0 0),ob:=[],cd:=none },{ rd:=[],tm:=some (11,dP 0 0),ob:=[],cd:=none },{ rd:=[],tm:=some (12,dP 0 1),ob:=[],cd:=none },{ rd:=[],tm:=some (13,dI i),ob:=[],cd:=none },{ rd:=[],tm:=some (14,dP 0 0),ob:=[],cd:=none },{ rd:=[],tm:=some (15,dP 0 0),ob:=[],cd:=none },{ rd:=[],tm:=some (16,dP 0 0),ob:=[],cd:=none },{ rd:=[0,1,2,3],tm:=some (17,dA [dU hk17,dS hs17,dI ho17]),ob:=[(0,some (oC [dL (List.map Zq ts) [],dI i,dV 1,dV 2,dV 3,dB so])),(1,some (oR true 20 42 r1)),(2,some (oR true 5 53 r2)),(3,some (oR true 2 138 r3)),(0,none),(1,none),(2,none),(3,none)],cd:=some 4112 },{ rd:=[],tm:=some (18,dU hk17),ob:=[],cd:=none },{ rd:=[],tm:=some (7,dI i),ob:=[],cd:=none },{ rd:=[],tm:=some (8,dU hk17),ob:=[],cd:=none }] 0 [({ rd:=[],tm:=some (9,dP 0 0),ob:=[],cd:=none },none),({ rd:=[],tm:=some (10,dP 0 0),ob:=[],cd:=none },none),({ rd:=[],tm:=some (11,dP 0 0),ob:=[],cd:=none },none),({ rd:=[],tm:=some (12,dP 0 1),ob:=[],cd:=none },none),({ rd:=[],tm:=some (13,dI i),ob:=[],cd:=none },some (0,1,dI i)),({ rd:=[],tm:=some (14,dP 0 0),ob:=[],cd:=none },none),({ rd:=[],tm:=some (15,dP 0 0),ob:=[],cd:=none },none),({ rd:=[],tm:=some (16,dP 0 0),ob:=[],cd:=none },none),({ rd:=[0,1,2,3],tm:=some (17,dA [dU hk17,dS hs17,dI ho17]),ob:=[(0,some (oC [dL (List.map Zq ts) [],dI i,dV 1,dV 2,dV 3,dB so])),(1,some (oR true 20 42 r1)),(2,some (oR true 5 53 r2)),(3,some (oR true 2 138 r3)),(0,none),(1,none),(2,none),(3,none)],cd:=some 4112 },none),({ rd:=[],tm:=some (18,dU hk17),ob:=[],cd:=none },none),({ rd:=[],tm:=some (7,dI i),ob:=[],cd:=none },none),({ rd:=[],tm:=some (8,dU hk17),ob:=[],cd:=none },none)]) (brT b20 (Ow (CQ 91 [dP 0 0] (psO ts i so r1 r2 r3) (dA (tC k20 n20 s20 l20)) (psO ts j20 so r1 r2 r3)) (Ow (CQ 63 [dP 0 0,dL es ext] (psO ts j20 so r1 r2 r3) (dB c25) (psO ts j20 so r1 r2 r3)) (brT c25 (brT b30 (Ow (CQ 90 [dP 0 0,dA (tC k20 n20 s20 l20),dI 12,dI i] (psO ts j20 so r1 r2 r3) (dA (tC k30 n30 s30 l30)) (psO ts j30 so r1 r2 r3)) (Rt (D.tuple [dA [dS [],dL [] []],dA (tC k30 n30 s30 l30),dB false]) (psO ts j30 so r1 r2 r3))) (Ow (CQ 90 [dP 0 0,dA (tC k20 n20 s20 l20),dI 12,dI i] (psO ts j20 so r1 r2 r3) (D.pan v30) []) (Rt (D.pan v30) []))) (brT (!decide (hk17=(1:Int))) (brT b46 (Ow (CQ 90 [dP 0 0,dA (tC k20 n20 s20 l20),dI 12,dI i] (psO ts j20 so r1 r2 r3) (dA (tC k46 n46 s46 l46)) (psO ts j46 so r1 r2 r3)) (Ow (CQ 54 [dP 0 0,dI 40] (psO ts j46 so r1 r2 r3) (D.pan v50) []) (Rt (D.pan v50) []))) (Ow (CQ 90 [dP 0 0,dA (tC k20 n20 s20 l20),dI 12,dI i] (psO ts j20 so r1 r2 r3) (D.pan v46) []) (Rt (D.pan v46) []))) (brT (!decide (k20=(2:Int))) (brT (!decide (k20=(4:Int))) (brT b46 (Ow (CQ 90 [dP 0 0,dA (tC k20 n20 s20 l20),dI 12,dI i] (psO ts j20 so r1 r2 r3) (dA (tC k46 n46 s46 l46)) (psO ts j46 so r1 r2 r3)) (Ow (CQ 54 [dP 0 0,dI 40] (psO ts j46 so r1 r2 r3) (D.pan v50) []) (Rt (D.pan v50) []))) (Ow (CQ 90 [dP 0 0,dA (tC k20 n20 s20 l20),dI 12,dI i] (psO ts j20 so r1 r2 r3) (D.pan v46) []) (Rt (D.pan v46) []))) (brT b54 (Ow (CQ 147 [dP 0 0,dA (tC k20 n20 s20 l20),dI i] (psO ts j20 so r1 r2 r3) (dA [dS s54,dL l54 []]) (psO ts j54 so r1 r2 r3)) (Rt (D.tuple [dA [dS s54,dL l54 []],dA (tC k20 n20 s20 l20),dB true]) (psO ts j54 so r1 r2 r3))) (Ow (CQ 147 [dP 0 0,dA (tC k20 n20 s20 l20),dI i] (psO ts j20 so r1 r2 r3) (D.pan v54) []) (Rt (D.pan v54) [])))) (brT b54 (Ow (CQ 147 [dP 0 0,dA (tC k20 n20 s20 l20),dI i] (psO ts j20 so r1 r2 r3) (dA [dS s54,dL l54 []]) (psO ts j54 so r1 r2 r3)) (Rt (D.tuple [dA [dS s54,dL l54 []],dA (tC k20 n20 s20 l20),dB true]) (psO ts j54 so r1 r2 r3))) (Ow (CQ 147 [dP 0 0,dA (tC k20 n20 s20 l20),dI i] (psO ts j20 so r1 r2 r3) (D.pan v54) []) (Rt (D.pan v54) [])))))))) (Ow (CQ 91 [dP 0 0] (psO ts i so r1 r2 r3) (D.pan v20) []) (Rt (D.pan v20) []))) Tr.bad)
theorem Zdf (ts:List Tk) (i:Int) (so:Bool) (es ext:LD) (hk17 ho17:Int) (hs17:LU) (b20:Bool) (k20 n20:Int) (s20:LU) (l20:LD) (j20:Int) (v20:Value) (c25 b30:Bool) (k30 n30:Int) (s30:LU) (l30:LD) (j30:Int) (v30:Value) (b46:Bool) (k46 n46:Int) (s46:LU) (l46:LD) (j46:Int) (v46 v50:Value) (b54:Bool) (s54:LU) (l54:LD) (j54:Int) (v54:Value) (r1 r2 r3:LD):goT Tryz.prog { F:=fun x=>libT,C:=fun m=>if m=17 then psQ (dA [dU hk17,dS hs17,dI ho17]) (psO ts i so r1 r2 r3) else if m=20 then psB b20 (dA (tC k20 n20 s20 l20)) (psO ts j20 so r1 r2 r3) v20 else if m=25 then psQ (dB c25) (psO ts j20 so r1 r2 r3) else if m=30 then psB b30 (dA (tC k30 n30 s30 l30)) (psO ts j30 so r1 r2 r3) v30 else if m=46 then psB b46 (dA (tC k46 n46 s46 l46)) (psO ts j46 so r1 r2 r3) v46 else if m=50 then psB false D.nils [] v50 else psB b54 (dA [dS s54,dL l54 []]) (psO ts j54 so r1 r2 r3) v54,E:=noE } 10 (finF false 10 ZfS) 2000 [Fr.sc Zf5] { tm:=Zv 0 ([]++[dP 0 0,dL es ext]++[]),ob:=psO ts i so r1 r2 r3 }=Zkc ts i so es ext hk17 ho17 hs17 b20 k20 n20 s20 l20 j20 v20 c25 b30 k30 n30 s30 l30 j30 v30 b46 k46 n46 s46 l46 j46 v46 v50 b54 s54 l54 j54 v54 r1 r2 r3:=by kernel_rfl
noncomputable def Zk5 (ts:List Tk) (i:Int) (so no b10:Bool) (s10:LU) (l10:LD) (j10:Int) (v10:Value) (b15:Bool) (s15:LU) (l15:LD) (k15a n15a:Int) (s15a:LU) (l15a:LD) (is15:Bool) (j15:Int) (v15:Value) (b23:Bool) (n23 j23:Int) (v23:Value) (b26:Bool) (k26 n26:Int) (s26:LU) (l26:LD) (j26:Int) (v26:Value) (r1 r2 r3:LD):Tr:=brT no (brT b10 (Ow (CQ 111 [dP 0 0] (psO ts i so r1 r2 r3) (dA [dS s10,dL l10 []]) (psO ts j10 so r1 r2 r3)) (Rt (dA [dU 1,dB true,dS s10,dL l10 [],dU 0,dU 0,dI 0,dS [],dL [] [],dU 0,dI 0,dS [],dL [] []]) (psO ts j10 so r1 r2 r3))) (Ow (CQ 111 [dP 0 0] (psO ts i so r1 r2 r3) (D.pan v10) []) (Rt (D.pan v10) []))) (Ow True (brT b15 (Ow (CQ 110 [dP 0 0,dL [[dS [61]],[dS [33,61]],[dS [60]],[dS [60,61]],[dS [62]],[dS [62,61]]] []] (psO ts i so r1 r2 r3) (D.tuple [dA [dS s15,dL l15 []],dA (tC k15a n15a s15a l15a),dB is15]) (psO ts j15 so r1 r2 r3)) (brT is15 (Rt (dA [dU 1,dB false,dS s15,dL l15 [],dU 0,dU 0,dI 0,dS [],dL [] [],dU 0,dI 0,dS [],dL [] []]) (psO ts j15 so r1 r2 r3)) (brT b23 (Ow (CQ 168 [dP 0 0] (psO ts j15 so r1 r2 r3) (dU n23) (psO ts j23 so r1 r2 r3)) (brT b26 (Ow (CQ 51 [dP 0 0] (psO ts j23 so r1 r2 r3) (dA (tC k26 n26 s26 l26)) (psO ts j26 so r1 r2 r3)) (Rt (dA [dU 2,dB false,dS [],dL [] [],dU n23,dU k15a,dI n15a,dS s15a,dL l15a [],dU k26,dI n26,dS s26,dL l26 []]) (psO ts j26 so r1 r2 r3))) (Ow (CQ 51 [dP 0 0] (psO ts j23 so r1 r2 r3) (D.pan v26) []) (Rt (D.pan v26) [])))) (Ow (CQ 168 [dP 0 0] (psO ts j15 so r1 r2 r3) (D.pan v23) []) (Rt (D.pan v23) []))))) (Ow (CQ 110 [dP 0 0,dL [[dS [61]],[dS [33,61]],[dS [60]],[dS [60,61]],[dS [62]],[dS [62,61]]] []] (psO ts i so r1 r2 r3) (D.pan v15) []) (Rt (D.pan v15) []))))
theorem Zdb (ts:List Tk) (i:Int) (so no b10:Bool) (s10:LU) (l10:LD) (j10:Int) (v10:Value) (b15:Bool) (s15:LU) (l15:LD) (k15a n15a:Int) (s15a:LU) (l15a:LD) (is15:Bool) (j15:Int) (v15:Value) (b23:Bool) (n23 j23:Int) (v23:Value) (b26:Bool) (k26 n26:Int) (s26:LU) (l26:LD) (j26:Int) (v26:Value) (r1 r2 r3:LD):goT Tryz.prog { F:=fun x=>ZcD,C:=fun m=>if m=10 then psB b10 (dA [dS s10,dL l10 []]) (psO ts j10 so r1 r2 r3) v10 else if m=15 then psB b15 (D.tuple [dA [dS s15,dL l15 []],dA (tC k15a n15a s15a l15a),dB is15]) (psO ts j15 so r1 r2 r3) v15 else if m=23 then psB b23 (dU n23) (psO ts j23 so r1 r2 r3) v23 else psB b26 (dA (tC k26 n26 s26 l26)) (psO ts j26 so r1 r2 r3) v26,E:=noE } 10 (finF false 10 ZfJ) 2000 [Fr.sc ZeW] { tm:=Zv 0 ([]++[dP 0 0,dB no]++[]),ob:=psO ts i so r1 r2 r3 }=Zk5 ts i so no b10 s10 l10 j10 v10 b15 s15 l15 k15a n15a s15a l15a is15 j15 v15 b23 n23 j23 v23 b26 k26 n26 s26 l26 j26 v26 r1 r2 r3:=by kernel_rfl
theorem Zhb (ts:List Tk) (i:Int) (so b6:Bool) (l6:LD) (j6:Int) (v6:Value) (r1 r2 r3:LD):let A:=psO ts j6 so r1 r2 r3;let B:=[dP 0 0,dI 64,dS [44],dF 51 [dP 0 0] []];let G:=psO ts i so r1 r2 r3;let H:=dL l6 [];goT Tryz.prog { F:=fun x=>libT,C:=fun x=>psB b6 H A v6,E:=noE } 10 (finF false 10 ZfL) 2000 [Fr.sc ZeY] { tm:=Zv 0 ([]++[dP 0 0]++[]),ob:=psO ts i so r1 r2 r3 }=(brT b6 (Ow (CQ 166 B G H A) (Rt H A)) (Ow (CQ 166 B G (D.pan v6) []) (Rt (D.pan v6) [])):Tr):=by intro A B G H;kernel_rfl
theorem Zh9 (ts:List Tk) (i:Int) (so c7:Bool) (j7:Int) (b8:Bool) (lk8:Int) (lno8:Bool) (lp8:LU) (la8:LD) (lop8 k8a n8a:Int) (s8a:LU) (l8a:LD) (k8b n8b:Int) (s8b:LU) (l8b:LD) (j8:Int) (v8:Value) (r1 r2 r3:LD):let A:=dA [dU lk8,dB lno8,dS lp8,dL la8 [],dU lop8,dU k8a,dI n8a,dS s8a,dL l8a [],dU k8b,dI n8b,dS s8b,dL l8b []];let B:=psO ts j7 so r1 r2 r3;let G:=psO ts j8 so r1 r2 r3;let H:=(0,oC [dP 1 0]);let I:=[dP 0 0,dB c7];goT Tryz.prog { F:=fun x=>libT,C:=fun m=>if m=7 then psQ (dB c7) B else psB b8 A G v8,E:=noE } 10 (finF false 10 ZfK) 2000 [Fr.sc ZeX] { tm:=Zv 0 ([]++[]++[dP 0 0]),ob:=psQ0 ts i so r1 r2 r3 }=(Ow (CQ 66 [dP 0 0,dL [[dS [110,111,116]]] []] (psO ts i so r1 r2 r3) (dB c7) B) (brT b8 (Ow (CQ 139 I B A G) (Rt A [H,(1,oC [dL (List.map Zq ts) [],dI j8,dV 2,dV 3,dV 4,dB so]),(2,oR true 20 42 r1),(3,oR true 5 53 r2),(4,oR true 2 138 r3)])) (Ow (CQ 139 I B (D.pan v8) []) (Rt (D.pan v8) [H]))):Tr):=by intro A B G H I;kernel_rfl
theorem Z7D (ts:List Tk) (i:Int) (so c7:Bool) (j7:Int) (b11:Bool) (l11:LD) (j11:Int) (v11:Value) (r1 r2 r3:LD):let A:=[dP 0 0,dI 64,dS [44],dF 138 [] [dP 1 0]];let B:=psO1 ts j11 so r1 r2 r3;let G:=psO1 ts j7 so r1 r2 r3;let H:=psO ts j7 so r1 r2 r3;let I:=dL l11 [];let J:=D.pan v11;goT Tryz.prog { F:=fun x=>libT,C:=fun m=>if m=7 then psQ (dB c7) H else psB b11 I B v11,E:=noE } 10 (finF false 10 ZfZ) 2000 [Fr.sc Zfc] { tm:=Zv 0 ([]++[dP 0 0]++[]),ob:=psO ts i so r1 r2 r3 }=(Ow (CQ 66 [dP 0 0,dL [[dS [58]]] []] (psO ts i so r1 r2 r3) (dB c7) H) (brT (!c7) (Rt (dV 10) [(0,oC [dL (List.map Zq ts) [],dI j7,dV 1,dV 2,dV 3,dB so]),(1,oR true 20 42 r1),(2,oR true 5 53 r2),(3,oR true 2 138 r3),(10,oR true 13 64 [])]) (brT b11 (Ow (CQ 137 A G I B) (Rt I (psO ts j11 so r1 r2 r3))) (Ow (CQ 137 A G J []) (Rt J [])))):Tr):=by intro A B G H I J;kernel_rfl
end Go.Proofs.YtecgehidegnmnaaGreatDoor
