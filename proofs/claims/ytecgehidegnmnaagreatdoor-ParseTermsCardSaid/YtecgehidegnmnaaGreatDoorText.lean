/- Own work: a layer over the kit: plain data,a walk over it,its soundness. -/
import Derived.Test.YtecgehidegnmnaaGreatDoorShape
import Derived.Test.YtecgehidegnmnaaGreatDoorSx11
import Derived.Test.YtecgehidegnmnaaGreatDoorSx8
set_option linter.all false
set_option maxRecDepth 100000
/- The text of a term. -/
namespace Go.Proofs.YtecgehidegnmnaaGreatDoor
open Go.Sx
noncomputable def PBi (s:LU):Tr:=brT (decide (s=[(43:UInt8)])) (Rt (dI 1) []) (brT (decide (s=[(45:UInt8)])) (Rt (dI 1) []) (Rt (dI 2) []))
theorem ZlV (s:LU):gP (dCtr []) Zg8 Zfi [dS s]=PBi s:=by kernel_rfl
theorem ZlQ (k n:Int) (s:LU) (a:LD) (b nx:Int) (f:LU) (e:LD) (r un:Bool) (c d:Int):let A:=Rt (dB false) [];let B:=Rt (dB true) [];let C:=FK 159 [dS f] (dI d);let E:=(↑(List.length e):Int);let F:=FK 159 [dS s] (dI c);let G:=Rt (dB r) [];let H:=tC k n s a;gP (dCtr [(16,dB un),(40,dI c),(43,dI d)]) Zgm Zfw [dA H,dA (tC b nx f e),dB r]=(brT (decide (k=(5:Int))) (Ow (FK 81 [dA H,dI 1,dI 1] (dB un)) (brT (decide (b=(6:Int))) B (brT (decide (b=(1:Int))) (Rt (dB un) []) (brT (decide (b=(5:Int))) (brT (!decide (k=(5:Int))) A (brT (decide (E=(1:Int))) A (Ow F (Ow C (brT un B (brT (decide (d<c)) B (brT (decide (c=d)) G A))))))) A)))) (brT (decide (b=(6:Int))) B (brT (decide (b=(1:Int))) A (brT (decide (b=(5:Int))) (brT (!decide (k=(5:Int))) A (brT (decide (E=(1:Int))) A (Ow F (Ow C (brT (decide (d<c)) B (brT (decide (c=d)) G A)))))) A))):Tr):=by intro A B C E F G H;kernel_rfl
theorem Zif (k n:Int) (s:LU) (a:LD) (i d nx:Int) (e:LU) (b:LD) (t:LU) (c:Bool):let A:=tC d nx e b;let B:=tC k n s a;let C:=[(40:UInt8)];gP (dCtr [(13,dS t),(23,dB c)] [(10,tC d nx e b),(19,tC d nx e b)]) rs89 sc89 [dA B,dI i]=(Ow ((0:Int)<=i/\a[Int.toNat i]? = some A) (Ow (FK 49 [dA A] (dS t)) (Ow ((0:Int)<=i/\a[Int.toNat i]? = some A) (Ow (FK 130 [dA B,dA A,dB (decide ((0:Int)<i))] (dB c)) (brT c (Ow (1+List.length t<=4611686018427387904) (Ow (List.length (C++t)+1<=4611686018427387904) (Rt (dS (C++t++[(41:UInt8)])) []))) (Rt (dS t) []))))):Tr):=by intro A B C;kernel_rfl
theorem Zlr (k n:Int) (s:LU) (a:LD) (t0 b c:LU) (d:Bool):let A:=tC k n s a;let B:=FK 89 [dA A,dI 0] (dS b);let C:=(46:UInt8);let E:=FK 89 [dA A,dI 1] (dS c);gP (dCtr [(14,dS t0),(43,dS b),(46,dS c),(51,dB d),(56,dS b),(59,dS b),(65,dS c)]) rs49 sc49 [dA A]=(brT (decide (k=(1:Int))) (Ow (FK 88 [dI n] (dS t0)) (Rt (dS t0) [])) (brT (decide (k=(4:Int))) (Jm (cut sc49 0) {tm:=[(1,dP 0 0),(3,dV 1),(19,dL a []),(20,dI (↑(List.length a):Int)),(21,dI 0)],ob:=[(0,oC A),(1,oR true 1 9 [])]}) (brT (decide (k=(6:Int))) (Ow B (Ow (List.length b+2<=4611686018427387904) (Ow E (Ow (List.length (b++[C,C])+List.length c<=4611686018427387904) (Rt (dS (b++[C,C]++c)) []))))) (brT (decide (k=(5:Int))) (Ow (FK 81 [dA A,dI 1,dI 1] (dB d)) (brT d (Ow B (Ow (List.length s+List.length b<=4611686018427387904) (Rt (dS (s++b)) []))) (Ow B (Ow (List.length b+List.length s<=4611686018427387904) (Ow E (Ow (List.length (b++s)+List.length c<=4611686018427387904) (Rt (dS (b++s++c)) []))))))) (Rt (dS s) [])))):Tr):=by intro A B C E;kernel_rfl
def hdTx (k n:Int) (s:LU) (a acc:LD) (m i:Int):St:=⟨[(1,.ptr 0 0),(3,.vec 1),(19,.slice a []),(20,.int .i64 m),(21,.int .i64 i)],[(0,.cells (tC k n s a)),(1,.arr true 1 9 acc)]⟩
theorem Zbq (k n:Int) (s:LU) (a acc:LD) (m i d nx:Int) (e:LU) (c:LD) (t b:LU):let A:=[(40:UInt8)];let B:=tC d nx e c;let C:=cut sc49 0;let E:=(i+(1:Int));gH (dCtr [(28,dS t),(37,dS b)] [(23,tC d nx e c)]) 0 true rs49 C (hdTx k n s a acc m i)=(brT (decide (i<m)) (Ow ((0:Int)<=i/\a[Int.toNat i]? = some B) (Ow (FK 49 [dA B] (dS t)) (Ow (Zy 1 [[dS t]]/\List.length acc+1<=1073741824) (I8 E (Jm C {tm:=[(1,dP 0 0),(3,dV 1),(19,dL a []),(20,dI m),(21,dI E)],ob:=[(0,oC (tC k n s a)),(1,oR true 1 9 (acc++[[dS t]]))]}))))) (Ow (List.length s+1<=4611686018427387904) (Ow (FK 38 [dL acc [],dS [44]] (dS b)) (Ow (List.length (s++A)+List.length b<=4611686018427387904) (Ow (List.length (s++A++b)+1<=4611686018427387904) (Rt (dS (s++A++b++[(41:UInt8)])) []))))):Tr):=by intro A B C E;kernel_rfl
theorem Z7I (s:LU):FK 159 [.str s] (.int .i64 (Qt s)):=by
 refine FnOK.tree Z6 Zkp (ZX Z5) (ZlV s) ?_;unfold PBi Qt;simp only[Qb,Zk,decide_eq_true_eq,decide_eq_false_iff_not];exact⟨λh=>by rw[if_pos h],λh=>⟨λh2=>by rw[if_neg h,if_pos h2],λh2=>by rw[if_neg h,if_neg h2]⟩⟩
theorem Zb0 (k:Nat) (n:Int) (s:LU) (a:LD) (e:Nat) (nx:Int) (j:LU) (f:LD) (r:Bool):FK 130 [.agg (tC k n s a),.agg (tC e nx j f),.bool r] (.bool (Q6 k s a.length e j f.length r)):=by
 have ha:=Z1X k n s a 1 1;have u:(decide ((1:Int)<=(a.length:Int)) && decide ((a.length:Int)<=1))=decide (a.length=1):=by rw[Bool.eq_iff_iff];simp;omega
 rw[u] at ha;have g:=Z7I s;have i:=Z7I j;have t:((k:Int)=5)=(k=5):=propext (by omega);have o:((e:Int)=1)=(e=1):=propext (by omega);have p:((e:Int)=5)=(e=5):=propext (by omega);have q:((e:Int)=6)=(e=6):=propext (by omega);have el:((f.length:Int)=1)=(f.length=1):=propext (by omega);unfold Q6;generalize Qt s=l at g ⊢;generalize Qt j=m at i ⊢;generalize v:decide (a.length=1)=un at ha ⊢;refine FnOK.tree Z6 ZkG (ZX Z5) (ZlQ k n s a e nx j f r un l m) ?_;simp only[Qb,Zo,Zk,decide_eq_true_eq,decide_eq_false_iff_not,Bool.not_eq_true',Bool.not_eq_false',t,o,p,q,el];refine⟨λd=>⟨ha,λb=>by rw[if_pos b],λb=>⟨λh1=>?_,λh1=>⟨λc=>⟨λh=>absurd d h,λ_=>⟨λhl=>?_,λhl=>⟨g,i,λh=>?_,λh=>⟨λh'=>?_,λh'=>⟨λh2=>?_,λh2=>?_⟩⟩⟩⟩⟩,λc=>?_⟩⟩⟩,
  λd=>⟨λb=>by rw[if_pos b],λb=>⟨λh1=>?_,λh1=>⟨λc=>⟨λ_=>?_,λh=>absurd h d⟩,λc=>?_⟩⟩⟩⟩
 ·rw[if_neg b,if_pos h1];simp[d]
 ·rw[if_neg b,if_neg h1,if_pos c,if_pos d,if_pos hl]
 ·rw[if_neg b,if_neg h1,if_pos c,if_pos d,if_neg hl,h];rfl
 ·rw[if_neg b,if_neg h1,if_pos c,if_pos d,if_neg hl,h,decide_eq_true h'];rfl
 ·rw[if_neg b,if_neg h1,if_pos c,if_pos d,if_neg hl,h,decide_eq_false h',decide_eq_true h2];simp
 ·rw[if_neg b,if_neg h1,if_pos c,if_pos d,if_neg hl,h,decide_eq_false h',decide_eq_false h2];simp
 ·rw[if_neg b,if_neg h1,if_neg c]
 ·rw[if_neg b,if_pos h1];simp[d]
 ·rw[if_neg b,if_neg h1,if_pos c,if_neg d]
 ·rw[if_neg b,if_neg h1,if_neg c]
def TxtP (x:Tm):Prop:=FK 49 [.agg x.cells] (.str x.text)
theorem ZjT (k:Nat) (n:Int) (s:LU) (l:List Tm) (i:Nat) (x:Tm) (hx:l[i]? = some x) (g:TxtP x) (b:x.text.length<=4611686018427387000) :
  FK 89 [.agg (tC k n s (Tm.cellsL l)),.int .i64 i] (.str (opdT k s l.length x x.text (decide (0<i)))):=by
 have hc:(Tm.cellsL l)[i]? = some x.cells:=by rw[QP];simp[hx]
 unfold TxtP at g;unfold opdT;obtain⟨e,nx,f,d⟩:=x;have a:=Zb0 k n s (Tm.cellsL l) e nx f (Tm.cellsL d) (decide (0<i));rw[Zm,Zm] at a;simp only[Tm.kd,Tm.nm,Tm.as'];have j:decide ((0:Int)<(i:Int))=decide (0<i):=by rw[Bool.eq_iff_iff];simp
 generalize Q6 k s l.length e f d.length (decide (0<i))=c at a ⊢;generalize Tm.text (.mk e nx f d)=t at g b ⊢;refine FnOK.tree Z6 fp89 (ZX Z5) (Zif k n s (Tm.cellsL l) i e nx f (Tm.cellsL d) t c) ?_;simp only[Qb,Zo,Zk,Int.toNat_natCast,j];refine⟨⟨by omega,hc⟩,g,⟨by omega,hc⟩,a,λh=>⟨by omega,by simp;omega,by rw[h]⟩,λh=>by rw[h]⟩
theorem Z5O {k:Nat} {n:Int} {s:LU} {l:List Tm} (h:Qd k n s l.length=true):(k=5->l.length=1\/l.length=2)/\(k=6->l.length=2):=by
 unfold Qd at h;constructor
 ·intro a;rw[a] at h;simp at h;omega
 ·intro a;rw[a] at h;simp at h;omega
theorem Zmh (k:Nat) (n:Int) (s:LU) (l:List Tm) (hl:l.length<=1000) (H: ∀ x∈l,TxtP x) (g:(Lib.join (Tm.texts l) [44]).length<=140737488355328) (hs:s.length<=1000000): ∀ (m i:Nat),l.length-i=m->i<=l.length →
  At Tryz.prog 0 (cut sc49 0) (hdTx k n s (Tm.cellsL l) ((Tm.texts (l.take i)).map λt=>[.str t]) l.length i) (FinQ true 0 rs49 λr _=>r=.str (s++[40]++Lib.join (Tm.texts l) [44]++[41])):=by
 intro m;induction m with
 |zero =>
  intro i hm hi;have f:FK 38 [.slice ((Tm.texts l).map λt=>[.str t]) [],.str [44]] (.str (Lib.join (Tm.texts l) [44])):=by
   have:=Z2 38 [.slice ((Tm.texts l).map λt=>[.str t]) [],.str [44]] _ rfl;have e:((Tm.texts l).map λt=>[dS t]).map deS=Tm.texts l:=by rw[List.map_map];exact List.map_id'' (λ_=>rfl) _
   rw[e] at this;exact this ⟨rfl,by rw[Q8];simp;omega,g⟩
  have j:l.take i=l:=List.take_of_length_le (by omega);rw[j];refine At.tree (ZX Z5) (Zbq k n s (Tm.cellsL l) ((Tm.texts l).map λt=>[.str t]) l.length i 0 0 [] [] [] (Lib.join (Tm.texts l) [44])) ?_;simp only[Qb,Zo,Zk,QY,decide_eq_true_eq,decide_eq_false_iff_not];exact⟨λh=>by omega,λ_=>⟨by omega,f,by simp;omega,by simp;omega,trivial⟩⟩
 |succ m o =>
  intro i hm hi;have h1:i<l.length:=by omega
  have hx:=Zet h1;have a:=H _ (List.getElem_mem h1);have b:=o (i+1) (by omega) (by omega);have c:(Tm.texts (l.take (i+1))).map (λt=>[dS t])=(Tm.texts (l.take i)).map (λt=>[dS t])++[[.str l[i].text]]:=by
   rw[Q8,Q8,List.take_succ_eq_append_getElem h1,List.map_append,List.map_append];rfl
  rw[c] at b;unfold TxtP at a;generalize Tm.text l[i]=t at a b;generalize l[i]=x at hx a;obtain⟨p,nx,q,d⟩:=x;refine At.tree (ZX Z5) (Zbq k n s (Tm.cellsL l) ((Tm.texts (l.take i)).map λt=>[.str t]) l.length i p nx q (Tm.cellsL d) t []) ?_;simp only[Qb,Zo,Zk,QY,decide_eq_true_eq,decide_eq_false_iff_not,Int.toNat_natCast];exact⟨λ_=>⟨⟨by omega,hx⟩,a,⟨Z1E.2 ⟨rfl,Z2l _⟩,by rw[Q8];simp;omega⟩,by omega,b⟩,λh=>by omega⟩
theorem Z96: ∀ x:Tm,x.wf 281474976710656->x.all Tm.shape=true->x.depth<=12->TxtP x
 |.mk k n s l,hx,u,hd=>by
  have I:=Z2F _ u;have K:9 ^ (Tm.mk k n s l).depth<=9 ^ 12:=Nat.pow_le_pow_right (by decide) hd;have J:(9:Nat) ^ 12=282429536481:=by decide
  simp only[Tm.wf] at hx;obtain⟨R,E,F,hs,hl,P⟩:=hx;have g:=u;simp only[Tm.all,Bool.and_eq_true,Tm.shape] at g;obtain⟨m,q⟩:=g;simp only[Tm.depth] at hd;have IH: ∀ y∈l,TxtP y:=λy e=>Z96 y (Z2O.1 P y e) (Z1Y q e) (Nat.le_trans (Z0C e) (by omega));have v: ∀ y∈l,y.text.length<=16945772188860:=λy e=>by
   have h1:=Z2F y (Z1Y q e);have h2:9 ^ y.depth<=9 ^ 12:=Nat.pow_le_pow_right (by decide) (Nat.le_trans (Z0C e) (by omega));omega
  have d: ∀ (i:Nat) (r:Bool),r=decide (0<i)->i<l.length->FK 89 [.agg (tC k n s (Tm.cellsL l)),.int .i64 i] (.str (opdT k s l.length (l.getD i default) ((Tm.texts l).getD i []) r))/\(opdT k s l.length (l.getD i default) ((Tm.texts l).getD i []) r).length<=16945772188862:=λi r hr hi=>by
   have C:=Z7w hi;have c:=v _ C.1;have H:l[i]? = some (l.getD i default):=by simp[List.getD,hi]
   rw[C.2,hr];exact⟨ZjT k n s l i _ H (IH _ C.1) (by omega),Nat.le_trans (Z7e ..) (by omega)⟩
  have f:=Z5O m;have ha:=Z1X k n s (Tm.cellsL l) 1 1;rw[Zm] at ha;have Q:(decide ((1:Int)<=(l.length:Int)) && decide ((l.length:Int)<=1))=decide (l.length=1):=by rw[Bool.eq_iff_iff];simp;omega
  rw[Q] at ha;have L:FK 88 [.int .i64 n] (.str (Lib.itoa n)):=by
   have:=Z2 88 [.int .i64 n] _ rfl;exact this ⟨E,F⟩
  have w:((k:Int)=1)=(k=1):=propext (by omega);have z:((k:Int)=4)=(k=4):=propext (by omega);have A:((k:Int)=5)=(k=5):=propext (by omega);have B:((k:Int)=6)=(k=6):=propext (by omega);unfold TxtP;refine FnOK.tree Z6 fp49 (ZX Z5) (Zlr k n s (Tm.cellsL l) (Lib.itoa n) (opdT k s l.length (l.getD 0 default) ((Tm.texts l).getD 0 []) false) (opdT k s l.length (l.getD 1 default) ((Tm.texts l).getD 1 []) true) (decide (l.length=1))) ?_;simp only[Qb,Zo,Zk,QY,decide_eq_true_eq,decide_eq_false_iff_not,w,z,A,B];refine⟨λh1=>⟨L,by simp only[Tm.text];rw[if_pos h1]⟩,λh1=>⟨λj=>?_,λj=>⟨λp=>?_,λp=>⟨λo=>?_,λo=>?_⟩⟩⟩⟩
  ·have c:=m;unfold Qd at c;rw[j] at c;simp at c;have G:=Z5J c.1.1.2;have N:(Lib.join (Tm.texts l) [44]).length<=140737488355328:=by
    have:=Zai (M:=16945772188860) (l:=Tm.texts l) (by rw[Q8];intro t O;obtain⟨y,e,rfl⟩:=List.mem_map.1 O;exact v y e);have D:(Tm.texts l).length<=8:=by rw[Q8];simp;omega
    have hm:(Tm.texts l).length*(16945772188860+1)<=8*(16945772188860+1):=Nat.mul_le_mul_right _ D;omega
   have:=Zmh k n s l (by omega) IH N (by omega) _ 0 rfl (Nat.zero_le _);rw[Zm];simp only[Tm.text];rw[if_neg h1,if_pos j];exact this
  ·have h2:=f.2 p;have a:=d 0 false rfl (by omega);have b:=d 1 true rfl (by omega);exact⟨a.1,by omega,b.1,by simp only[List.length_append,List.length_cons,List.length_nil];omega,by simp only[Tm.text];rw[if_neg h1,if_neg j,if_pos p]⟩
  ·have h2:=f.1 o;have c:=m;unfold Qd at c;rw[o] at c;simp at c;have G:s.length=1:=by
    rcases c.1.2 with (((h|h)|h)|h)|h<;>rw[h]<;>rfl
   have a:=d 0 false rfl (by omega);refine⟨ha,λhr=>⟨a.1,by omega,by simp only[Tm.text];rw[if_neg h1,if_neg j,if_neg p,if_pos o,if_pos hr]⟩,λhr=>?_⟩;have b:=d 1 true rfl (by omega);exact⟨a.1,by omega,b.1,by simp only[List.length_append];omega,by simp only[Tm.text];rw[if_neg h1,if_neg j,if_neg p,if_pos o,if_neg hr]⟩
  ·simp only[Tm.text];rw[if_neg h1,if_neg j,if_neg p,if_neg o]
termination_by x=>SizeOf.sizeOf x
decreasing_by
 have:=List.sizeOf_lt_of_mem e;simp only[Tm.mk.sizeOf_spec];omega
def strT (x:Tm):LU:=match x.valid with
 |true=>x.text
 |false=>[]
theorem Z9c (x:Tm) (hx:x.wf 281474976710656) (hd:x.depth<=1000000000):FK 22 [.agg x.cells] (.str (strT x)):=by
 have hv:=Z6P x hx hd;have a:x.valid=true->TxtP x:=λh=>by
  unfold Tm.valid at h;rw[Bool.and_eq_true,decide_eq_true_eq] at h;exact Z96 x hx h.2 h.1
 unfold strT;unfold TxtP at a;generalize x.valid=v at hv a ⊢;generalize x.text=t at a ⊢;obtain⟨k,n,s,l⟩:=x;refine FnOK.tree Z6 fp22 (ZX Z5) (Zic k n s (Tm.cellsL l) v t) ?_;simp only[Zo,Qb,Zk];cases v
 ·exact⟨hv,λ_=>rfl,λh=>by simp at h⟩
 ·exact⟨hv,λh=>by simp at h,λ_=>⟨a rfl,rfl⟩⟩
end Go.Proofs.YtecgehidegnmnaaGreatDoor
/- Small comparisons. -/
namespace Go.Proofs.YtecgehidegnmnaaGreatDoor
open Go.Sx
def asmQ (r:D):QT:=λd xs ob=>match ob with
 |[]=>some (.ok (CallL Tryz.prog d xs [] λr0 ob0=>r0=r/\ob0=[]) r [])
 |_=>none
theorem Z4G (r:D):(asmQ r).OK:=by
 intro d xs ob rt h;unfold asmQ at h;split at h
 ·cases h;exactλhp=>hp
 ·cases h
theorem Zig (n:Int):gP (ctr libT) Zgk Zfu [dI n]=(Rt (D.bool !decide (n=n)) []:Tr):=by kernel_rfl
theorem ZjY (n:Int):FK 132 [.int .i64 n] (.bool false):=by
 refine FnOK.tree Z6 ZkE (Z7 Z2 Z5) (Zig n) ?_;simp[Zk]
def nanP:PT:=λf xs=>match xs with
 |[.int .i64 n]=>if f=132 then some (.ok True (.bool false) []) else none
 |_=>none
theorem ZgQ:nanP.OK:=by
 intro f xs rt h;unfold nanP at h;split at h
 ·split at h
  ·rename_i hf;subst hf;cases h;exactλ_=>ZjY _
  ·cases h
 ·cases h
theorem Zit (a b:Int):gP (ctr nanP) rs92 sc92 [dI a,dI b]=(Ow True (Ow True (brT (decide (a<b)) (Rt (dI (-1:Int)) []) (brT (decide (b<a)) (Rt (dI 1) []) (Rt (dI 0) [])))):Tr):=by kernel_rfl
theorem ZgP (a b:Int):FK 92 [.int .i64 a,.int .i64 b] (.int .i64 (ncmp a b)):=by
 refine FnOK.tree Z6 fp92 (Z7 ZgQ Z5) (Zit a b) ?_;simp only[SS];refine⟨λh=>by simp[ncmp,h],λh=>⟨λh2=>?_,λh2=>?_⟩⟩
 ·simp[ncmp,h,h2]
 ·simp[ncmp,h,h2]
def eOne (c:List D):Nat->Int->List D:=λ_ _=>c
theorem Z0B {α:Type} {l:List α} {i:Nat} (h:i<l.length):l.drop i=l[i]::l.drop (i+1):=List.drop_eq_getElem_cons h
theorem Z7s {k:IntKind} {l:List Int} {i:Nat} (h:i<l.length):(intC k l)[i]? = some [.int k l[i]]:=by simp[intC,h]
theorem Zin (es:LD) (k:Int):gP (ctr libT) Z9B Z5R [dL es [],dU k]=(Jm (cut Z5R 0) {tm:=[(0,dL es []),(1,dU k),(7,dI (↑(List.length es):Int)),(8,dI 0)],ob:=[]}:Tr):=by kernel_rfl
def hdIx (es:LD) (k n i:Int):St:=⟨[(0,.slice es []),(1,.int .u8 k),(7,.int .i64 n),(8,.int .i64 i)],[]⟩
theorem Z7U (es:LD) (k n i c:Int):gH (ctr libT Z31 (eOne [dU c])) 0 true Z9B (cut Z5R 0) (hdIx es k n i)=(brT (decide (i<n)) (Ow ((0:Int)<=i/\es[Int.toNat i]? = some [dU c]) (brT (decide (k=c)) (Rt (dI i) []) (I8 (i+(1:Int)) (Jm (cut Z5R 0) {tm:=[(0,dL es []),(1,dU k),(7,dI n),(8,dI (i+(1:Int)))],ob:=[]})))) (Rt (dI (-1:Int)) []):Tr):=by kernel_rfl
def ixF (k:Int):List Int->Int->Int
 |[],_=>-1
 |a::r,i=>if k=a then i else ixF k r (i+1)
theorem ZmQ (l:List Int) (k:Int) (hl:l.length<=4611686018427387904): ∀ (m i:Nat),l.length-i=m->i<=l.length →
  At Tryz.prog 0 (cut Z5R 0) (hdIx (intC .u8 l) k l.length i) (FinQ true 0 Z9B λr _=>r=.int .i64 (ixF k (l.drop i) i)):=by
 intro m;induction m with
 |zero =>
  intro i hm hi;refine At.tree (Z7 Z2 Z5) (Z7U (intC .u8 l) k l.length i 0) ?_;rw[List.drop_eq_nil_of_le (by omega)];simp only[SS];exact⟨λh=>by omega,λ_=>rfl⟩
 |succ m a =>
  intro i hm hi;have h1:i<l.length:=by omega
  refine At.tree (Z7 Z2 Z5) (Z7U (intC .u8 l) k l.length i l[i]) ?_;rw[Z0B h1];simp only[SS,ixF];refine⟨λ_=>⟨⟨by omega,Z7s h1⟩,λh=>by rw[if_pos h],λh=>⟨by omega,?_⟩⟩,λh=>by omega⟩;rw[if_neg h];exact a (i+1) (by omega) (by omega)
theorem Zk4 (k:Int):FK 133 [.slice [[.int .u8 1],[.int .u8 2],[.int .u8 4],[.int .u8 3],[.int .u8 5],[.int .u8 6]] [],.int .u8 k] (.int .i64 (idxI k)):=by
 have h:=ZmQ [1,2,4,3,5,6] k (by decide) _ 0 rfl (Nat.zero_le _);exact FnOK.tree Z6 ZkD (Z7 Z2 Z5) (Zin _ k) h
def ixrP:PT:=λf xs=>match xs with
 |[.slice [[.int .u8 1],[.int .u8 2],[.int .u8 4],[.int .u8 3],[.int .u8 5],[.int .u8 6]] [],.int .u8 k]=>if f=133 then some (.ok True (.int .i64 (idxI k)) []) else none
 |_=>none
theorem Zh5:ixrP.OK:=by
 intro f xs rt h;unfold ixrP at h;split at h
 ·split at h
  ·rename_i hf;subst hf;cases h;exactλ_=>Zk4 _
  ·cases h
 ·cases h
theorem Zdm (k:Int):let A:=((↑(6:Nat):Int)+k);gP (ctr ixrP) rs93 sc93 [dU k]=(Ow True (brT (decide ((0:Int)<=idxI k)) (Rt (dI (idxI k)) []) (I8 k (I8 A (Rt (dI A) [])))):Tr):=by intro A;kernel_rfl
theorem ZgD (k:Int) (a:0<=k/\k<=255):FK 93 [.int .u8 k] (.int .i64 (rkI k)):=by
 refine FnOK.tree Z6 fp93 (Z7 Zh5 Z5) (Zdm k) ?_;simp only[SS];unfold idxI rkI;refine⟨λh=>?_,λh=>⟨by omega,⟨by omega,?_⟩⟩⟩
 ·(repeat' split)<;>first|rfl|(split at h<;>omega)|(simp_all;done)
 ·(repeat' split)<;>first|omega|(simp_all;done)
theorem Zlx (es:LD):gP (ctr libT) rs94 sc94 [dL es []]=(Jm (cut sc94 0) {tm:=[(3,dI 0),(6,dL es []),(7,dI (↑(List.length es):Int)),(8,dI 0)],ob:=[]}:Tr):=by kernel_rfl
def hdOr (es:LD) (n i:Int):St:=⟨[(3,.int .i64 0),(6,.slice es []),(7,.int .i64 n),(8,.int .i64 i)],[]⟩
theorem Zbw (es:LD) (n i c:Int):gH (ctr libT Z31 (eOne [dI c])) 0 true rs94 (cut sc94 0) (hdOr es n i)=(brT (decide (i<n)) (Ow ((0:Int)<=i/\es[Int.toNat i]? = some [dI c]) (brT (!decide (c=(0:Int))) (Rt (dI c) []) (I8 (i+(1:Int)) (Jm (cut sc94 0) {tm:=[(3,dI 0),(6,dL es []),(7,dI n),(8,dI (i+(1:Int)))],ob:=[]})))) (Rt (dI 0) []):Tr):=by kernel_rfl
theorem ZmJ (l:List Int) (hl:l.length<=4611686018427387904): ∀ (m i:Nat),l.length-i=m->i<=l.length →
  At Tryz.prog 0 (cut sc94 0) (hdOr (intC .i64 l) l.length i) (FinQ true 0 rs94 λr _=>r=.int .i64 (fst0 (l.drop i))):=by
 intro m;induction m with
 |zero =>
  intro i hm hi;refine At.tree (Z7 Z2 Z5) (Zbw (intC .i64 l) l.length i 0) ?_;rw[List.drop_eq_nil_of_le (by omega)];simp only[SS];exact⟨λh=>by omega,λ_=>rfl⟩
 |succ m a =>
  intro i hm hi;have h1:i<l.length:=by omega
  refine At.tree (Z7 Z2 Z5) (Zbw (intC .i64 l) l.length i l[i]) ?_;rw[Z0B h1];simp only[SS,fst0];refine⟨λ_=>⟨⟨by omega,Z7s h1⟩,λh=>by rw[if_pos h],λh=>⟨by omega,?_⟩⟩,λh=>by omega⟩;rw[if_neg (by simpa using h)];exact a (i+1) (by omega) (by omega)
theorem or_ok (a b c d:Int):FK 94 [.slice [[.int .i64 a],[.int .i64 b],[.int .i64 c],[.int .i64 d]] []] (.int .i64 (fst0 [a,b,c,d])):=by
 have h:=ZmJ [a,b,c,d] (by simp) _ 0 rfl (Nat.zero_le _);exact FnOK.tree Z6 fp94 (Z7 Z2 Z5) (Zlx _) h
end Go.Proofs.YtecgehidegnmnaaGreatDoor
/- term.Compare. -/
namespace Go.Proofs.YtecgehidegnmnaaGreatDoor
open Go.Sx
theorem Z2i {l:List Tm} {i:Nat} (h:i<l.length):(Tm.cellsL l)[i]? = some l[i].cells:=by rw[QP];simp[h]
theorem Z8N {B:Nat} {l:List Tm} (h:Tm.wfL B l) {t:Tm} (a:t∈l):t.wf B:=Z2O.1 h t a
def eTwo (t0:Nat) (c d:List D):Nat->Int->List D:=λt _=>if t=t0 then c else d
theorem ZlT (es fs e a:LD):gC (ctr libT) 0 rs96 sc96 [] [dL es e,dL fs a,dF 52 [] []] [] []=(Jm (cut sc96 0) {tm:=[(0,dL es e),(1,dL fs a),(2,dF 52 [] []),(11,dL es e),(12,dI (↑(List.length es):Int)),(13,dI 0)],ob:=[]}:Tr):=by kernel_rfl
def hdCF (es fs e a:LD) (n i:Int):St:=⟨[(0,.slice es e),(1,.slice fs a),(2,.func (.func 52) [] []),(11,.slice es e),(12,.int .i64 n),(13,.int .i64 i)],[]⟩
theorem Z6E (es fs e b:LD) (m i k n:Int) (s:LU) (a:LD) (f g:Int) (s':LU) (d:LD) (c:Int):let A:=tC f g s' d;let B:=tC k n s a;let C:=(↑(List.length fs):Int);let E:=cut sc96 0;let F:=(i+(1:Int));gH (ctr libT (asmQ (dI c)) (eTwo 16 B A)) 0 false rs96 E (hdCF es fs e b m i)=(brT (decide (i<m)) (Ow ((0:Int)<=i/\es[Int.toNat i]? = some B) (brT (decide (C<=i)) (Rt (dI 1) []) (Ow ((0:Int)<=i/\fs[Int.toNat i]? = some A) (Ow (CQ 52 [dA B,dA A] [] (dI c) []) (brT (!decide (c=(0:Int))) (Rt (dI c) []) (I8 F (Jm E {tm:=[(0,dL es e),(1,dL fs b),(2,dF 52 [] []),(11,dL es e),(12,dI m),(13,dI F)],ob:=[]}))))))) (brT (decide ((↑(List.length es):Int)<C)) (Rt (dI (-1:Int)) []) (Rt (dI 0) [])):Tr):=by intro A B C E F;kernel_rfl
def CmpC (x y:Tm):Prop:=CF 52 [.agg x.cells,.agg y.cells] [] λr ob=>r=.int .i64 (x.cmp y)/\ob=[]
theorem Zn9 (e d:LD) (l q:List Tm) (hl:l.length<=281474976710656) (v:q.length<=281474976710656) (H: ∀ x∈l,∀ y∈q,CmpC x y): ∀ (m i:Nat),l.length-i=m->i<=l.length->i<=q.length →
  At Tryz.prog 0 (cut sc96 0) (hdCF (Tm.cellsL l) (Tm.cellsL q) e d l.length i) (FinQ false 0 rs96 λr ob=>r=.int .i64 (Tm.cmpL (l.drop i) (q.drop i))/\ob=[]):=by
 intro m;induction m with
 |zero =>
  intro i hm hi f;refine At.tree (Z7 Z2 (Z4G (.int .i64 0))) (Z6E (Tm.cellsL l) (Tm.cellsL q) e d l.length i 0 0 [] [] 0 0 [] [] 0) ?_;rw[List.drop_eq_nil_of_le (by omega)];simp only[SS,Zm];refine⟨λh=>by omega,λ_=>⟨λh=>?_,λh=>?_⟩⟩
  ·rw[Z0B (show i<q.length by omega)];rfl
  ·rw[List.drop_eq_nil_of_le (by omega)];rfl
 |succ m p =>
  intro i hm hi f;have h1:i<l.length:=by omega
  have hx:=Z2i h1;have g:l[i]∈l:=List.getElem_mem h1;have hd:=Z0B h1;by_cases h2:i<q.length
  ·have j:=Z2i h2;have b:=H _ g _ (List.getElem_mem h2);rw[hd,Z0B h2];simp only[Tm.cmpL];unfold CmpC at b;generalize hc:Tm.cmp l[i] q[i]=c at b ⊢;generalize l[i]=x at hx b;generalize q[i]=y at j b;obtain⟨k,n,s,a⟩:=x;obtain⟨t,u,s',o⟩:=y;refine At.tree (Z7 Z2 (Z4G (.int .i64 c))) (Z6E (Tm.cellsL l) (Tm.cellsL q) e d l.length i k n s (Tm.cellsL a) t u s' (Tm.cellsL o) c) ?_;simp only[SS,Zm];refine⟨λ_=>⟨⟨by omega,hx⟩,λh=>by omega,λ_=>⟨⟨by omega,j⟩,b,λh=>by rw[if_pos h],λh=>⟨by omega,?_⟩⟩⟩,λh=>by omega⟩;rw[if_neg (by simpa using h)];exact p (i+1) (by omega) (by omega) (by omega)
  ·rw[hd,List.drop_eq_nil_of_le (show q.length<=i by omega)];generalize l[i]=x at hx;obtain⟨k,n,s,a⟩:=x;refine At.tree (Z7 Z2 (Z4G (.int .i64 0))) (Z6E (Tm.cellsL l) (Tm.cellsL q) e d l.length i k n s (Tm.cellsL a) 0 0 [] [] 0) ?_;simp only[SS,Zm];exact⟨λ_=>⟨⟨by omega,hx⟩,λ_=>rfl,λh=>by omega⟩,λh=>by omega⟩
theorem Zn8 (e a:LD) (l q:List Tm) (hl:l.length<=281474976710656) (b:q.length<=281474976710656) (H: ∀ x∈l,∀ y∈q,CmpC x y):CF 96 [.slice (Tm.cellsL l) e,.slice (Tm.cellsL q) a,.func (.func 52) [] []] [] λr ob=>r=.int .i64 (Tm.cmpL l q)/\ob=[]:=by
 refine CallL.tree Z6 fp96 (Z7 Z2 Z5) (ZlT (Tm.cellsL l) (Tm.cellsL q) e a) ?_;simp only[SS,Zm];exact Zn9 e a l q hl b H _ 0 rfl (Nat.zero_le _) (Nat.zero_le _)
def ZhC:PT:=λf xs=>match xs with
 |[.int .u8 k]=>if f=93 then some (.ok (0<=k/\k<=255) (.int .i64 (rkI k)) []) else none
 |[.int .i64 a,.int .i64 b]=>if f=92 then some (.ok True (.int .i64 (ncmp a b)) []) else none
 |[.slice [[.int .i64 a],[.int .i64 b],[.int .i64 c],[.int .i64 d]] []]=>if f=94 then some (.ok True (.int .i64 (fst0 [a,b,c,d])) []) else none
 |xs=>libT f xs
theorem ZcY:ZhC.OK:=by
 intro f xs rt h;unfold ZhC at h;split at h
 ·split at h
  ·rename_i hf;subst hf;cases h;exactλa=>ZgD _ a
  ·cases h
 ·split at h
  ·rename_i hf;subst hf;cases h;exactλ_=>ZgP _ _
  ·cases h
 ·split at h
  ·rename_i hf;subst hf;cases h;exactλ_=>or_ok _ _ _ _
  ·cases h
 ·exact Z2 _ _ _ h
theorem ZlP (k n:Int) (s:LU) (a:LD) (b d:Int) (s':LU) (f:LD) (c:Int) (e g:LD):let A:=(Ow True (Ow True (Ow (CQ 96 [dL a e,dL f g,dF 52 [] []] [] (dI c) []) (Ow True (Ow True (Rt (dI (fst0 [ncmp (↑(List.length a):Int) (↑(List.length f):Int),Lib.compareBytes s s',c,ncmp n d])) []))))));gC (ctr ZhC (asmQ (dI c))) 0 rs52 sc52 [] [dA [dU k,dI n,dS s,dL a e],dA [dU b,dI d,dS s',dL f g]] [] []=(Ow ((0:Int)<=k/\k<=(255:Int)) (Ow ((0:Int)<=b/\b<=(255:Int)) (Ow True (brT (!decide (ncmp (rkI k) (rkI b)=(0:Int))) (Rt (dI (ncmp (rkI k) (rkI b))) []) (Ow True (brT (!decide (ncmp n d=(0:Int))) (brT (decide (k=(1:Int))) (Rt (dI (ncmp n d)) []) A) A))))):Tr):=by intro A;kernel_rfl
def Zb1:Tm->LD->List D
 |.mk k n s l,e=>[.int .u8 (k:Int),.int .i64 n,.str s,.slice (Tm.cellsL l) e]
theorem Z1o (x:Tm):Zb1 x []=x.cells:=by cases x;rfl
theorem Z7D: ∀ (x y:Tm) (e a:LD),x.wf 281474976710656->y.wf 281474976710656->CF 52 [.agg (Zb1 x e),.agg (Zb1 y a)] [] λr ob=>r=.int .i64 (x.cmp y)/\ob=[]
 |.mk k n s l,.mk o z s' c,e,a,hx,b=>by
  simp only[Tm.wf] at hx b;obtain⟨A,t,u,hs,hl,w⟩:=hx;obtain⟨q,j,m,v,f,g⟩:=b;have i:=Zn8 e a l c hl f λx hx y b=>by
   have:=Z7D x y [] [] (Z8N w hx) (Z8N g b);rw[Z1o,Z1o] at this;exact this
  refine CallL.tree Z6 fp52 (Z7 ZcY (Z4G (.int .i64 (Tm.cmpL l c)))) (ZlP k n s (Tm.cellsL l) o z s' (Tm.cellsL c) (Tm.cmpL l c) e a) ?_;simp only[SS,Zm,Tm.cmp,fst0];have p:((k:Int)=1)=(k=1):=propext (by omega);simp only[p];refine⟨by omega,by omega,λh=>by rw[if_pos h],λh=>⟨λh2=>⟨λd=>?_,λd=>⟨i,?_⟩⟩,λh2=>⟨i,?_⟩⟩⟩
  ·subst d;have h':ncmp (rkI 1) (rkI o)=0:=h;simp[h',h2]
  ·simp[h,h2,d]
  ·simp[h,h2]
termination_by x=>SizeOf.sizeOf x
decreasing_by
 have:=List.sizeOf_lt_of_mem hx;simp only[Tm.mk.sizeOf_spec];omega
theorem ZcW (x y:Tm) (hx:x.wf 281474976710656) (a:y.wf 281474976710656):CmpC x y:=by
 have:=Z7D x y [] [] hx a;rw[Z1o,Z1o] at this;exact this
end Go.Proofs.YtecgehidegnmnaaGreatDoor
/- Equality,sizes. -/
namespace Go.Proofs.YtecgehidegnmnaaGreatDoor
open Go.Sx
theorem Zlu (k n:Int) (s:LU) (a:LD) (m c:Int):gP (ctr (asmP (dI c))) rs21 sc21 [dA (tC k n s a),dI m]=(I8 (m-(1:Int)) (Ow (FK 48 [dL a [],dI (m-(1:Int))] (dI c)) (I8 ((1:Int)+c) (Rt (dI ((1:Int)+c)) []))):Tr):=by kernel_rfl
theorem Zi8 (a:LD) (m:Int):gP (ctr libT) rs48 sc48 [dL a [],dI m]=(Jm (cut sc48 0) {tm:=[(0,dL a []),(1,dI m),(5,dI 0),(6,dI 0)],ob:=[]}:Tr):=by kernel_rfl
def hdSz (a:LD) (m n i:Int):St:=⟨[(0,.slice a []),(1,.int .i64 m),(5,.int .i64 n),(6,.int .i64 i)],[]⟩
theorem Z4I (a:LD) (m n i d nx:Int) (e:LU) (b:LD) (c:Int):let A:=tC d nx e b;let B:=Rt (dI n) [];let C:=cut sc48 0;let E:=(i+(1:Int));gH (ctr (asmP (dI c)) Z31 (eOne A)) 0 true rs48 C (hdSz a m n i)=(brT (decide (i<(↑(List.length a):Int))) (brT (decide (n<=m)) (Ow ((0:Int)<=i/\a[Int.toNat i]? = some A) (I8 (m-n) (Ow (FK 21 [dA A,dI (m-n)] (dI c)) (I8 (n+c) (I8 E (Jm C {tm:=[(0,dL a []),(1,dI m),(5,dI (n+c)),(6,dI E)],ob:=[]})))))) B) B:Tr):=by intro A B C E;kernel_rfl
theorem ZlJ (k n:Int) (s:LU) (a:LD) (d e:Int) (s':LU) (b:LD) (c:Int):let A:=[dA (tC k n s a),dA (tC d e s' b)];gP (ctr (asmP (dI c))) rs24 sc24 A=(Ow (FK 52 A (dI c)) (Rt (dB (decide (c=(0:Int)))) []):Tr):=by intro A;kernel_rfl
def SzP (x:Tm):Prop:=∀ m:Int,0<=m->m<=1000000->FK 21 [.agg x.cells,.int .i64 m] (.int .i64 (x.sz m))
theorem Zj0 (l:List Tm) (hl:l.length<=281474976710656) (H: ∀ x∈l,SzP x) (M:Int) (t: -1<=M/\M<=1000000): ∀ (m i:Nat) (n:Int),l.length-i=m->i<=l.length->0<=n->n<=M+1 →
  At Tryz.prog 0 (cut sc48 0) (hdSz (Tm.cellsL l) M n i) (FinQ true 0 rs48 λr _=>r=.int .i64 (Tm.szL (l.drop i) M n)):=by
 intro m;induction m with
 |zero =>
  intro i n hm hi o f;refine At.tree (Z7 (QR (.int .i64 0)) Z5) (Z4I (Tm.cellsL l) M n i 0 0 [] [] 0) ?_;rw[List.drop_eq_nil_of_le (show l.length<=i by omega)];simp only[SS,Zm];exact⟨λh=>by omega,λ_=>rfl⟩
 |succ m p =>
  intro i n hm hi o f;have h1:i<l.length:=by omega
  have hx:=Z2i h1;have k:=H _ (List.getElem_mem h1);rw[Z0B h1];simp only[Tm.szL];by_cases b:n<=M
  ·rw[if_pos b];have a:=k (M-n) (by omega) (by omega);have d:=Zf0 l[i] (M-n);have e:=Zj2 l[i] (M-n) (by omega);have g:=p (i+1) (n+Tm.sz l[i] (M-n)) (by omega) (by omega) (by omega) (by omega);generalize Tm.sz l[i] (M-n)=c at a g d e ⊢;generalize l[i]=x at hx a;obtain⟨q,nx,s,j⟩:=x;refine At.tree (Z7 (QR (.int .i64 c)) Z5) (Z4I (Tm.cellsL l) M n i q nx s (Tm.cellsL j) c) ?_;simp only[SS,Zm];exact⟨λ_=>⟨λ_=>⟨⟨by omega,hx⟩,by omega,a,by omega,by omega,g⟩,λh=>by omega⟩,λh=>by omega⟩
  ·rw[if_neg b];refine At.tree (Z7 (QR (.int .i64 0)) Z5) (Z4I (Tm.cellsL l) M n i 0 0 [] [] 0) ?_;simp only[SS,Zm];exact⟨λ_=>⟨λh=>by omega,λ_=>trivial⟩,λh=>by omega⟩
theorem ZiZ (l:List Tm) (hl:l.length<=281474976710656) (H: ∀ x∈l,SzP x) (M:Int) (a: -1<=M/\M<=1000000):FK 48 [.slice (Tm.cellsL l) [],.int .i64 M] (.int .i64 (Tm.szL l M 0)) :=
 FnOK.tree Z6 fp48 (Z7 Z2 Z5) (Zi8 (Tm.cellsL l) M) (Zj0 l hl H M a _ 0 0 rfl (Nat.zero_le _) (by omega) (by omega))
theorem Zj1: ∀ (x:Tm),x.wf 281474976710656->SzP x
 |.mk k n s l,hx=>by
  simp only[Tm.wf] at hx;obtain⟨g,d,e,hs,hl,f⟩:=hx;intro m h0 h1;have a:=ZiZ l hl (λx hx=>Zj1 x (Z8N f hx)) (m-1) (by omega);have b:=Z6Y l (m-1) 0;have c:=Z98 l (m-1) 0 (by omega);refine FnOK.tree Z6 fp21 (Z7 (QR (.int .i64 (Tm.szL l (m-1) 0))) Z5) (Zlu k n s (Tm.cellsL l) m (Tm.szL l (m-1) 0)) ?_;simp only[SS];exact⟨by omega,a,by omega,rfl⟩
termination_by x=>SizeOf.sizeOf x
decreasing_by
 have:=List.sizeOf_lt_of_mem hx;simp only[Tm.mk.sizeOf_spec];omega
theorem ZmF:QC Tryz.prog 52=true:=by kernel_rfl
theorem Zla (x y:Tm) (hx:x.wf 281474976710656) (a:y.wf 281474976710656):FK 52 [.agg x.cells,.agg y.cells] (.int .i64 (x.cmp y)) :=
 FnOK.of_call ZmF ((ZcW x y hx a).mono λr ob ⟨h1,h2⟩=>by subst h1;subst h2;exact .inr ⟨rfl,rfl⟩)
theorem ZcO (x y:Tm) (hx:x.wf 281474976710656) (b:y.wf 281474976710656):FK 24 [.agg x.cells,.agg y.cells] (.bool (x.eqb y)):=by
 have a:=Zla x y hx b;rw[Zhu];generalize x.cmp y=c at a ⊢;obtain⟨k,n,s,l⟩:=x;obtain⟨d,f,s',e⟩:=y;refine FnOK.tree Z6 fp24 (Z7 (QR (.int .i64 c)) Z5) (ZlJ k n s (Tm.cellsL l) d f s' (Tm.cellsL e) c) ?_;simp only[SS];exact a
end Go.Proofs.YtecgehidegnmnaaGreatDoor
