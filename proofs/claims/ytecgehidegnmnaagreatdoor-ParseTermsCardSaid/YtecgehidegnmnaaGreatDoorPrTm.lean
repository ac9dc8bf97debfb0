/- ParseTerms. -/
import Derived.Test.YtecgehidegnmnaaGreatDoorPrR
import Derived.Test.YtecgehidegnmnaaGreatDoorText
import Derived.Test.YtecgehidegnmnaaGreatDoorSx12
set_option linter.all false
set_option maxRecDepth 100000
open Go.Sx.Ps (Z22 Z21 Z2z ZL kT nmT)
namespace Go.Proofs.YtecgehidegnmnaaGreatDoor
open Go.Sx
def xRv (kd:Int) (hs:LD) (k1 f:Int) (s1:LU) (b:LD) (k2 g:Int) (h:LU) (c:LD) (bs:LD) (k3 n3:Int) (i:LU) (d:LD) (a n4:Int) (j:LU) (e:LD) (ts:LD):List D:=[.int .u8 kd,.slice hs [],.int .u8 k1,.int .i64 f,.str s1,.slice b [],.int .u8 k2,.int .i64 g,.str h,.slice c [],.slice bs [],.int .u8 k3,.int .i64 n3,.str i,.slice d [],.int .u8 a,.int .i64 n4,.str j,.slice e [],.slice ts []]
theorem Zls (k n:Int) (s:LU) (a:LD) (sz:Int) (v:Bool) (t:LU) (o P:Int) (s0:LU) (u:LD) (ua ue U:Int) (c:LD) (k1 Q:Int) (s1:LU) (w:LD) (k2 R:Int) (V:LU) (x b:LD) (k3 n3:Int) (W:LU) (y:LD) (p n4:Int) (X:LU) (z rt:LD) (T i wk:Int) (wh:LD) (q S:Int) (Y:LU) (N:LD) (r n6:Int) (s6:LU) (O wb:LD) (d n7:Int) (j:LU) (f:LD) (e h:Int) (l:LU) (g wt:LD) (wa m:Int):let A:=[dU 1,dU 2,dB false,dS [],dL [] [],dU 2,dU k,dI n,dS s,dL a [],dU k,dI n,dS s,dL a [],dL [] [],dB false,dU 0,dL [] [],dU 0,dU 0,dI 0,dS [],dL [] []];let B:=[(58:UInt8),(126:UInt8),(32:UInt8),(46:UInt8),(32:UInt8),(91:UInt8)];let C:=[(41:UInt8),(32:UInt8),(58:UInt8),(45:UInt8),(32:UInt8)];let E:=tC k n s a;let F:=[(112:UInt8),(40:UInt8)];let G:=[(32:UInt8),(33:UInt8),(61:UInt8),(32:UInt8)];let H:=Rt (dB false) [];let I:=[(64:UInt8)];let J:=[dA (tC o P s0 u),dI ua,dI ue];let K:=dB true;let L:=[(44:UInt8)];let M:=Rt K [];gP (dCtr [(15,dB true),(18,dI sz),(22,dB v),(26,dS t),(29,D.tuple J),(43,D.tuple [dA (xRv U c k1 Q s1 w k2 R V x b k3 n3 W y p n4 X z rt),dI T,dI i]),(57,D.tuple [dA (xRv wk wh q S Y N r n6 s6 O wb d n7 j f e h l g wt),dI wa,dI m]),(69,dB true)] [(100,[dS [112],dL [tC k n s a] [],dL [] []]),(104,tC k n s a),(108,A),(114,A),(124,tC k n s a)]) rs7 sc7 [dA E]=(Ow (FK 8 [] K) (Ow (FK 21 [dA E,dI 300] (dI sz)) (brT (decide ((300:Int)<sz)) M (Ow (FK 17 [dA E] (dB v)) (brT (!v) M (Ow (FK 22 [dA E] (dS t)) (Ow (FK 23 [dS t] (D.tuple J)) (Ow (2+List.length t<=4611686018427387904) (Ow (List.length (F++t)+5<=4611686018427387904) (Ow (List.length (F++t++C)+List.length t<=4611686018427387904) (Ow (List.length (F++t++C++t)+4<=4611686018427387904) (Ow (List.length (F++t++C++t++G)+List.length t<=4611686018427387904) (Ow (List.length (F++t++C++t++G++t)+1<=4611686018427387904) (Ow (FK 12 [dS (F++t++C++t++G++t++[(46:UInt8)])] (D.tuple [dA [dU U,dL c [],dU k1,dI Q,dS s1,dL w [],dU k2,dI R,dS V,dL x [],dL b [],dU k3,dI n3,dS W,dL y [],dU p,dI n4,dS X,dL z [],dL rt []],dI T,dI i])) (Ow (6+List.length t<=4611686018427387904) (Ow (List.length (B++t)+1<=4611686018427387904) (Ow (List.length (B++t++I)+List.length t<=4611686018427387904) (Ow (List.length (B++t++I++t)+1<=4611686018427387904) (Ow (List.length (B++t++I++t++L)+List.length t<=4611686018427387904) (Ow (List.length (B++t++I++t++L++t)+1<=4611686018427387904) (Ow (FK 12 [dS (B++t++I++t++L++t++[(93:UInt8)])] (D.tuple [dA [dU wk,dL wh [],dU q,dI S,dS Y,dL N [],dU r,dI n6,dS s6,dL O [],dL wb [],dU d,dI n7,dS j,dL f [],dU e,dI h,dS l,dL g [],dL wt []],dI wa,dI m])) (brT (decide ((8192:Int)<(↑(List.length t):Int))) M (brT (!decide (ue=(0:Int))) H (Ow (FK 24 [dA E,dA (tC o P s0 u)] K) (brT (!decide (i=(0:Int))) H (brT (!decide (m=(0:Int))) H (brT (!decide ((↑(List.length c):Int)=(1:Int))) H (brT (!decide ((↑(List.length b):Int)=(1:Int))) H (brT (!decide ((↑(List.length wt):Int)=(1:Int))) H (Ow ((0:Int)<=(0:Int)/\c[0]? = some [dS [112],dL [E] [],dL [] []]) (Ow ((0:Int)<=(0:Int)/\some E=some E) (Ow ((0:Int)<=(0:Int)/\b[0]? = some A) (Ow ((0:Int)<=(0:Int)/\b[0]? = some A) (Ow ((0:Int)<=(0:Int)/\wt[0]? = some E) (Jm (cut sc7 0) {tm:=[(1,dP 0 0),(13,dV 1),(14,dI 0)],ob:=[(0,oC E),(1,oR true 4 39 [E,E,E,(tC d n7 j f),(tC e h l g),E])]})))))))))))))))))))))))))))))))))):Tr):=by intro A B C E F G H I J K L M;kernel_rfl
def hdTm (k n:Int) (s:LU) (a es:LD) (i:Int):St:=⟨[(1,.ptr 0 0),(13,.vec 1),(14,.int .i64 i)],[(0,.cells (tC k n s a)),(1,.arr true 4 39 es)]⟩
theorem Zbs (k n:Int) (s:LU) (a es:LD) (i:Int):let A:=tC k n s a;let B:=cut sc7 0;let C:=(i+(1:Int));gH (dCtr [(138,dB true)] [(135,tC k n s a)]) 0 true rs7 B (hdTm k n s a es i)=(brT (decide (i<(↑(List.length es):Int))) (Ow ((0:Int)<=i/\es[Int.toNat i]? = some A) (Ow (FK 24 [dA A,dA A] (dB true)) (I8 C (Jm B {tm:=[(1,dP 0 0),(13,dV 1),(14,dI C)],ob:=[(0,oC A),(1,oR true 4 39 es)]})))) (Rt (dB true) []):Tr):=by intro A B C;kernel_rfl
theorem Zmi (k n:Int) (s:LU) (a:LD) (b:FK 24 [.agg (tC k n s a),.agg (tC k n s a)] (.bool true)): ∀ (m i:Nat),6-i=m->i<=6 →
  At Tryz.prog 0 (cut sc7 0) (hdTm k n s a (List.replicate 6 (tC k n s a)) i) (FinQ true 0 rs7 λr _=>r=.bool true):=by
 intro m;induction m with
 |zero =>
  intro i hm hi;refine At.tree (ZX Z5) (Zbs k n s a (List.replicate 6 (tC k n s a)) i) ?_;simp only[SS,List.length_replicate];exact⟨λh=>by omega,λ_=>trivial⟩
 |succ m c =>
  intro i hm hi;refine At.tree (ZX Z5) (Zbs k n s a (List.replicate 6 (tC k n s a)) i) ?_;simp only[SS,List.length_replicate];exact⟨λ_=>⟨⟨by omega,by rw[List.getElem?_replicate,if_pos (by omega)]⟩,b,by omega,c (i+1) (by omega) (by omega)⟩,λh=>by omega⟩
mutual
theorem Z6X: ∀ (t:Tm) (m:Int),t.sz m<=m->(t.depth:Int)<=m
 |.mk k n s l,m,h=>by
  simp only[Tm.sz] at h
  have:=Z4S l (m-1) 0 (by omega);simp only[Tm.depth];omega
theorem Z4S: ∀ (l:List Tm) (m n:Int),Tm.szL l m n<=m->(Tm.depthL l:Int)<=m-n
 |[],m,n,h=>by
  simp only[Tm.szL] at h;simp only[Tm.depthL];omega
 |a::r,m,n,h=>by
  simp only[Tm.szL] at h;simp only[Tm.depthL];split at h
  ·have h0:=Zf0 a (m-n);have h1:=Z6Y r m (n+a.sz (m-n));have h2:=Z4S r m (n+a.sz (m-n)) h;have b:=Z6X a (m-n) (by omega);have:Nat.max a.depth (Tm.depthL r)=a.depth\/Nat.max a.depth (Tm.depthL r)=Tm.depthL r:=by
    rcases Nat.le_total a.depth (Tm.depthL r) with h|h
    ·exact .inr (Nat.max_eq_right h)
    ·exact .inl (Nat.max_eq_left h)
   omega
  ·omega
end
theorem ZbV (w:FK 8 [] (.bool true)) (x:Tm) (hx:x.wf 281474976710656):FK 7 [.agg x.cells] (.bool true):=by
 have j:=Zj1 x hx 300 (by decide) (by decide);have hd:x.sz 300<=300->x.depth<=1000000000:=λh=>by have:=Z6X x 300 h;omega
 have d:=λh=>Z6P x hx (hd h);have c:=λh=>Z9c x hx (hd h);have b:=ZcO x x hx hx;rw[Zax.2 rfl] at b;have g:=Zho (strT x);have f:=Z2c (Z22 (strT x));have i:=Z2c (Z21 (strT x));have hl:(strT x).length<=16945772188860:=by
  unfold strT;cases h:x.valid with
  |false=>exact Nat.zero_le _
  |true =>
   unfold Tm.valid at h;rw[Bool.and_eq_true,decide_eq_true_eq] at h;have h1:=Z2F x h.2;have u:9 ^ x.depth<=9 ^ 12:=Nat.pow_le_pow_right (by decide) h.1;have m:(9:Nat) ^ 12=282429536481:=by decide
   show x.text.length<=_;omega
 have P:x.valid=true->(strT x).length<=8192->Z2z (strT x)=(x,0,0)/\ZL (Z22 (strT x))=(Ps.ruA x,0,0)/\ZL (Z21 (strT x))=(Ps.ruW x,0,0):=by
  intro h a;have e:strT x=x.text:=by unfold strT;rw[h]
  unfold Tm.valid at h;rw[Bool.and_eq_true,decide_eq_true_eq] at h;rw[e] at a ⊢;exact Ps.Z5G h.2 h.1 a
 generalize strT x=t at c g f i hl P;generalize x.valid=v at d P;generalize x.sz 300=z at j hd d c;obtain⟨k,n,s,l⟩:=x;refine FnOK.tree Z6 fp7 (ZX Z5) (Zls k n s (Tm.cellsL l) z v t (kT (Z2z t).1:Nat) (nT (Z2z t).1) (nmT (Z2z t).1) (Tm.cellsL (Ps.arT (Z2z t).1)) (Z2z t).2.1 (Z2z t).2.2 ((ZL (Z22 t)).1.k:Nat) (heL (ZL (Z22 t)).1.h) (kT (ZL (Z22 t)).1.lo:Nat) (nT (ZL (Z22 t)).1.lo) (nmT (ZL (Z22 t)).1.lo) (Tm.cellsL (Ps.arT (ZL (Z22 t)).1.lo)) (kT (ZL (Z22 t)).1.up:Nat) (nT (ZL (Z22 t)).1.up) (nmT (ZL (Z22 t)).1.up) (Tm.cellsL (Ps.arT (ZL (Z22 t)).1.up)) (boL (ZL (Z22 t)).1.b) (kT (ZL (Z22 t)).1.w:Nat) (nT (ZL (Z22 t)).1.w) (nmT (ZL (Z22 t)).1.w) (Tm.cellsL (Ps.arT (ZL (Z22 t)).1.w)) (kT (ZL (Z22 t)).1.lv:Nat) (nT (ZL (Z22 t)).1.lv) (nmT (ZL (Z22 t)).1.lv) (Tm.cellsL (Ps.arT (ZL (Z22 t)).1.lv)) (Tm.cellsL (ZL (Z22 t)).1.t) (ZL (Z22 t)).2.1 (ZL (Z22 t)).2.2 ((ZL (Z21 t)).1.k:Nat) (heL (ZL (Z21 t)).1.h) (kT (ZL (Z21 t)).1.lo:Nat) (nT (ZL (Z21 t)).1.lo) (nmT (ZL (Z21 t)).1.lo) (Tm.cellsL (Ps.arT (ZL (Z21 t)).1.lo)) (kT (ZL (Z21 t)).1.up:Nat) (nT (ZL (Z21 t)).1.up) (nmT (ZL (Z21 t)).1.up) (Tm.cellsL (Ps.arT (ZL (Z21 t)).1.up)) (boL (ZL (Z21 t)).1.b) (kT (ZL (Z21 t)).1.w:Nat) (nT (ZL (Z21 t)).1.w) (nmT (ZL (Z21 t)).1.w) (Tm.cellsL (Ps.arT (ZL (Z21 t)).1.w)) (kT (ZL (Z21 t)).1.lv:Nat) (nT (ZL (Z21 t)).1.lv) (nmT (ZL (Z21 t)).1.lv) (Tm.cellsL (Ps.arT (ZL (Z21 t)).1.lv)) (Tm.cellsL (ZL (Z21 t)).1.t) (ZL (Z21 t)).2.1 (ZL (Z21 t)).2.2) ?_;simp only[SS];refine⟨w,j,λ_=>trivial,λu=>⟨d (by omega),λ_=>trivial,λhv=>⟨c (by omega),g,by omega,by simp;omega,by simp;omega,by simp;omega,by simp;omega,by simp;omega,f,by omega,by simp;omega,by simp;omega,by simp;omega,by simp;omega,by simp;omega,i,λ_=>trivial,λa=>?_⟩⟩⟩;obtain⟨o,q,r⟩:=P hv (by omega);rw[o,q,r];have no: ∀ {p:Prop},p->(¬ p->false=true):=λh h2=>absurd h h2;exact⟨no rfl,λ_=>⟨b,no rfl,λ_=>⟨no rfl,λ_=>⟨no rfl,λ_=>⟨no rfl,λ_=>⟨no rfl,λ_=>⟨rfl,rfl,rfl,rfl,Zmi k n s (Tm.cellsL l) b 6 0 rfl (by decide)⟩⟩⟩⟩⟩⟩⟩
end Go.Proofs.YtecgehidegnmnaaGreatDoor
