/- Own work: a layer over the kit: plain data,a walk over it,its soundness. -/
import Derived.Test.YtaclfbhhekhflaaGreatDoorArA
import Derived.Test.YtaclfbhhekhflaaGreatDoorSx8
import Derived.Test.YtaclfbhhekhflaaGreatDoorShape
set_option linter.all false
set_option maxRecDepth 100000
/- arith.rows[int]. -/
noncomputable section
namespace Go.Proofs.YtaclfbhhekhflaaGreatDoor
open Go.Sx
theorem Ztr (es ext:LD):gC (ctr libT) 0 Zkd Zjm [] [dL es ext] [] []=(Rt (dF 176 [] [dP 0 0]) [(0,oC [dL es ext])]:Tr):=by kernel_rfl
def ZfO:QT:=λd xs ob=>match d,xs,ob with
 |.func (.func f) [] [],[.slice es ext],[]=>if f=134 then some (.ok True (.func (.func 176) [] [.ptr 0 0]) [(0,.cells [.slice es ext])]) else none
 |_,_,_=>none
theorem Z9f:ZfO.OK:=by
 intro d xs ob rt h;unfold ZfO at h;split at h
 ·split at h
  ·rename_i hf;subst hf;cases h;intro _;exact CallL.tree Z3 Zr8 (Z2 Z1 Z0) (Ztr _ _) ⟨rfl,rfl⟩
  ·cases h
 ·cases h
def asmA (r:D) (g:Obs->Obs):QT:=λd xs ob=>some (.ok (CallL Tryz.prog d xs ob λr0 ob0=>r0=r/\ob0=g ob) r (g ob))
theorem Za (r:D) (g:Obs->Obs):(asmA r g).OK:=by intro d xs ob rt h;cases h;exactλhp=>hp
def Z4N:List Nat:=[28,27,2,5,8]
def dsOp (a b c d:Nat):List D:=[.func (.func 176) [] [.ptr a 0],.vec b,.ptr c 0,.vec b,.ptr d 0]
def Zky (st:LoopState) (pend:Option Code) (ds:List D):Ob:=.gen (.loop st pend #[29] (sc95.rngA 0) (sc95.rngB 0) 56 Z4N) ds
def obO (s:LU) (es:LD) (ks vs:List D):Obs:=[(0,.cells [.slice es []]),(1,Zky .ready none (dsOp 0 2 3 4)),(2,.arr true 1 29 es),(3,.cells [.str s]),(4,.cells [.map 5]),(5,.gen (.mapC ks vs) [])]
def obF (s:LU) (es row:LD) (ks vs:List D):Obs:=[(0,.cells [.slice es []]),(1,.cells [.yld 4]),(2,.cells [.vec 5]),(3,.cells [.func (.func 177) [] [.ptr 0 0,.ptr 1 0,.ptr 2 0,.ptr 3 0]]),
 (4,.gen (.loop .ready none #[29] (sc95.rngA 0) (sc95.rngB 0) 56 [28,27,2,5,8]) [.func (.func 176) [] [.ptr 0 0],.vec 6,.ptr 7 0,.vec 6,.ptr 8 0]),(5,.arr false 1 3 row),(6,.arr true 1 29 es),(7,.cells [.str s]),(8,.cells [.map 9]),(9,.gen (.mapC ks vs) [])]
def updO (row:LD) (ks vs:List D):Obs->Obs
 |[]=>[]
 |(i,.arr false sz e _)::r=>(i,.arr false sz e row)::updO row ks vs r
 |(i,.gen (.mapC _ _) [])::r=>(i,.gen (.mapC ks vs) [])::updO row ks vs r
 |x::r=>x::updO row ks vs r
theorem Zts (s:LU) (es:LD) (ks vs:List D) (a:LD) (b c:List D):let A:=(↑(List.length es):Int);let B:=[dP 0 0,dP 1 0,dP 2 0,dP 3 0];let C:=[dF 176 [] [dP 0 0],dV 6,dP 7 0,dV 6,dP 8 0];let E:=(0,oC [dL es []]);let F:=(3,oC [dF 177 [] B]);let G:=(6,oR true 1 29 es);let H:=Gen.mapC b c;let I:=(1,oC [D.yld 4]);let J:=(8,oC [D.map 9]);let K:=(2,oC [dV 5]);let L:=(7,oC [dS s]);gC (ctr libT (asmA (dB true) (updO a b c))) 6 Zk4 Zjd [] [D.yld 1] [dP 0 0] (obO s es ks vs)=(Ow ((0:Int)<=A/\A*(8:Int)<=(281474976710656:Int)/\A<=(1073741824:Int)) (Ow (CallL Tryz.prog (dF 177 [] B) [dI 0] [E,I,K,F,(4,gL .ready none #[29] sc95 0 56 [28,27,2,5,8] C),(5,oR false 1 3 (List.replicate (Int.toNat A) [dI 0])),G,L,J,(9,Ob.gen (Gen.mapC ks vs) [])] λr0 ob0=>r0=dB true/\ob0=[E,I,K,F,(4,gL .ready none #[29] sc95 0 56 [28,27,2,5,8] C),(5,oR false 1 3 a),G,L,J,(9,Ob.gen H [])]) (Rt (D.tuple []) [E,(1,gL .ready none #[29] sc95 0 56 [28,27,2,5,8] [dF 176 [] [dP 0 0],dV 2,dP 3 0,dV 2,dP 4 0]),(2,oR true 1 29 es),(3,oC [dS s]),(4,oC [D.map 5]),(5,Ob.gen H [])])):Tr):=by intro A B C E F G H I J K L;kernel_rfl
theorem Ziw (s:LU) (es row xs a:LD) (ks vs b c:List D) (k:Int):let A:=[dP 0 0,dP 1 0,dP 2 0,dP 3 0];let B:=[dF 176 [] [dP 2 0],dV 3,dP 4 0,dV 3,dP 5 0];let C:=[dF 176 [] [dP 0 0],dV 6,dP 7 0,dV 6,dP 8 0];let E:=[dL es []];let F:=(3,oC [dF 177 [] A]);let G:=(3,oR true 1 29 es);let H:=(6,oR true 1 29 es);let I:=Gen.mapC b c;let J:=(5,oC [D.map 6]);let K:=Gen.mapC ks vs;let L:=(1,oC [D.yld 4]);let M:=(8,oC [D.map 9]);let N:=(4,oC [dS s]);let O:=(2,oC [dV 5]);let P:=(7,oC [dS s]);gC (ctr libT (asmA (dB true) (updO a b c)) (eOne [dL xs []])) 10 Zcj ZaG [] [dI k] A (obF s es row ks vs)=(brT (decide (k=(↑(List.length es):Int))) (Ow (CallL Tryz.prog (D.yld 0) [dV 1] [(0,gL .ready none #[29] sc95 0 56 [28,27,2,5,8] B),(1,oR false 1 3 row),(2,oC E),G,N,J,(6,Ob.gen K [])] λr0 ob0=>r0=dB true/\ob0=[(0,gL .ready none #[29] sc95 0 56 [28,27,2,5,8] B),(1,oR false 1 3 a),(2,oC E),G,N,J,(6,Ob.gen I [])]) (Rt (dB true) [(0,oC E),L,O,F,(4,gL .ready none #[29] sc95 0 56 [28,27,2,5,8] C),(5,oR false 1 3 a),H,P,M,(9,Ob.gen I [])])) (Ow ((0:Int)<=k/\es[Int.toNat k]? = some [dL xs []]) (Jm (cut ZaG 0) {tm:=[(0,dI k),(3,dP 2 0),(4,dP 3 0),(19,dL xs []),(20,dI (↑(List.length xs):Int)),(21,dI 0)],ob:=[(0,oC E),L,O,F,(4,gL .ready none #[29] sc95 0 56 [28,27,2,5,8] C),(5,oR false 1 3 row),H,P,M,(9,Ob.gen K [])]})):Tr):=by intro A B C E F G H I J K L M N O P;kernel_rfl
def hdF (k m i:Int) (xs:LD) (ob:Obs):St:=⟨[(0,.int .i64 k),(3,.ptr 2 0),(4,.ptr 3 0),(19,.slice xs []),(20,.int .i64 m),(21,.int .i64 i)],ob⟩
theorem Zf9 (s:LU) (es row xs a:LD) (ks vs b c:List D) (k m:Int) (i:Nat) (x:Int):let A:=(3,oC [dF 177 [] [dP 0 0,dP 1 0,dP 2 0,dP 3 0]]);let B:=[dF 176 [] [dP 0 0],dV 6,dP 7 0,dV 6,dP 8 0];let C:=(6,oR true 1 29 es);let E:=(0,oC [dL es []]);let F:=(1,oC [D.yld 4]);let G:=(8,oC [D.map 9]);let H:=(2,oC [dV 5]);let I:=(7,oC [dS s]);let J:=(9,Ob.gen (Gen.mapC b c) []);let K:=(9,Ob.gen (Gen.mapC ks vs) []);let L:=(5,oR false 1 3 a);let M:=((↑i:Int)+(1:Int));let N:=cut ZaG 0;let O:=(k+(1:Int));gH (ctr libT (asmA (dB true) (updO a b c)) (eOne [dI x])) 10 false Zcj N (hdF k m (↑i:Int) xs (obF s es row ks vs))=(brT (decide ((↑i:Int)<m)) (Ow ((0:Int)<=(↑i:Int)/\xs[Int.toNat (↑i:Int)]? = some [dI x]) (Ow ((0:Int)<=k/\k<(↑(List.length row):Int)) (Ow (Int.toNat k<List.length row) (I8 O (Ow (CallL Tryz.prog (dF 177 [] [dP 0 0,dP 1 0,dP 2 0,dP 3 0]) [dI O] [E,F,H,A,(4,gL .ready none #[29] sc95 0 56 [28,27,2,5,8] B),(5,oR false 1 3 (List.set row (Int.toNat k) [dI x])),C,I,G,K] λr0 ob0=>r0=dB true/\ob0=[E,F,H,A,(4,gL .ready none #[29] sc95 0 56 [28,27,2,5,8] B),L,C,I,G,J]) (I8 M (Jm N {tm:=[(0,dI k),(3,dP 2 0),(4,dP 3 0),(19,dL xs []),(20,dI m),(21,dI M)],ob:=[E,F,H,A,(4,gL .ready none #[29] sc95 0 56 [28,27,2,5,8] B),L,C,I,G,J]}))))))) (Rt (dB true) [E,F,H,A,(4,gL .ready none #[29] sc95 0 56 [28,27,2,5,8] B),(5,oR false 1 3 row),C,I,G,K]):Tr):=by intro A B C E F G H I J K L M N O;kernel_rfl
theorem ZnC (n:Int):gP (ctr libT) Zkf Zjo [dI n]=(brT (decide ((1000:Int)<n)) Tr.bad (Rt (dI n) []):Tr):=by kernel_rfl
theorem Zqh (n:Int) (h:n<=1000):FK 132 [.int .i64 n] (.int .i64 n):=by
 refine FnOK.tree Z3 Zra (Z2 Z1 Z0) (ZnC n) ?_;rw[Zs];refine⟨λh=>?_,λ_=>rfl⟩
 have:=of_decide_eq_true h;omega
def limP:PT:=λf xs=>match xs with
 |[.int .i64 n]=>if f=132 then some (.ok (n<=1000) (.int .i64 n) []) else none
 |_=>none
theorem Z18:limP.OK:=by
 intro f xs rt h;unfold limP at h;split at h
 ·split at h
  ·rename_i hf;subst hf;cases h;exactλhp=>Zqh _ hp
  ·cases h
 ·cases h
def obY (s:LU) (es row:LD) (ks vs:List D):Obs:=[(1,.arr false 1 3 row),(2,.cells [.slice es []]),(3,.arr true 1 29 es),(4,.cells [.str s]),(5,.cells [.map 6]),(6,.gen (.mapC ks vs) [])]
def eMap (ks vs:List D) (r:D):Nat->Int->List D:=λ_ n=>if n= -1 then [.agg ks,.agg vs] else [r]
theorem Zsg (s:LU) (es row:LD) (ks vs a c:List D) (b:Bool) (n m:Int):let A:=[dF 176 [] [dP 2 0],dV 3,dP 4 0,dV 3,dP 5 0];let B:=[(0,oR false 1 3 row)];let C:=D.tuple [dI n,dB b];let E:=(1,oR false 1 3 row);let F:=(3,oR true 1 29 es);let G:=(2,oC [dL es []]);let H:=(5,oC [D.map 6]);let I:=dsOp 2 3 4 5;let J:=(4,oC [dS s]);yldT Tryz.prog (ctr limP (asmA C id) (eMap a c (dI m))) 7 0 56 #[29] (SC.rngA sc95 0) (SC.rngB sc95 0) Z4N I 2000 {tm:=putP (List.zip [29] [dV 1]) (List.zip Z4N I),ob:=obY s es row ks vs}=(Ow (CQ 135 [dS s,dV 0] B C B) (brT b (Ow (mput (dI n) (dI n) ks vs=some (a,c)) (Ow (some (dI (↑(List.length a):Int))=some (dI m)) (Ow (m<=(1000:Int)) (Rt (dB true) [(0,gL .ready none #[29] sc95 0 56 [28,27,2,5,8] A),E,G,F,J,H,(6,Ob.gen (Gen.mapC a c) [])])))) (Rt (dB true) [(0,gL .ready none #[29] sc95 0 56 [28,27,2,5,8] A),E,G,F,J,H,(6,Ob.gen (Gen.mapC ks vs) [])])):Tr):=by intro A B C E F G H I J;kernel_rfl
def lisD (L:List (List Int)):LD:=L.map λl=>[.slice (intC .i64 l) []]
theorem Z9D {L:List (List Int)} {i:Nat} (h:i<L.length):(lisD L)[i]? = some [.slice (intC .i64 L[i]) []]:=by simp[lisD,h]
theorem Z0f (L:List (List Int)):(lisD L).length=L.length:=by simp[lisD]
theorem Z9I {k:IntKind} (l:List Int) (i:Nat) (x:Int):(intC k l).set i [.int k x]=intC k (l.set i x):=by simp[intC,List.map_set]
theorem Z5G (l:List Int):(intD l).length=l.length:=by simp[intD]
theorem Ziz (s:LU) (L:List (List Int)) (row a:List Int) (hr:row.length<=4611686018427387904) (h:(opB s row a).length<=1000):CallL Tryz.prog (.yld 0) [.vec 1] ((0,Zky .ready none (dsOp 2 3 4 5))::obY s (lisD L) (intC .i64 row) (intD a) (intD a))
  λr ob=>r=.bool true/\ob=(0,Zky .ready none (dsOp 2 3 4 5))::obY s (lisD L) (intC .i64 row) (intD (opB s row a)) (intD (opB s row a)):=by
 refine CallL.yldT Z3 (Z2 Z18 (Za _ _)) rfl (Zsg s (lisD L) (intC .i64 row) (intD a) (intD a) (intD (opB s row a)) (intD (opB s row a)) (Z0p s row).isSome ((Z0p s row).getD 0) (opB s row a).length) ?_;simp only[SS,Z5G];refine⟨Ze8 s row hr,λb=>?_,λb=>?_⟩
 ·obtain⟨n,c⟩:=Option.isSome_iff_exists.1 b;have e:opB s row a=insI n a:=by unfold opB;rw[c]
  rw[e] at h ⊢;rw[c];refine⟨Z9s n a,by omega,rfl⟩
 ·have e:opB s row a=a:=by
   unfold opB;cases d:Z0p s row with
   |none=>rfl
   |some n=>rw[d] at b;cases b
  rw[e];rfl
def FilC (s:LU) (L:List (List Int)) (k:Nat) (row a:List Int):Prop:=CallL Tryz.prog (.func (.func 177) [] [.ptr 0 0,.ptr 1 0,.ptr 2 0,.ptr 3 0]) [.int .i64 k] (obF s (lisD L) (intC .i64 row) (intD a) (intD a))
 λr ob=>r=.bool true/\ob=obF s (lisD L) (intC .i64 (Zh (opB s) (L.drop k) k (row,a)).1) (intD (Zh (opB s) (L.drop k) k (row,a)).2) (intD (Zh (opB s) (L.drop k) k (row,a)).2)
theorem ZrC (s:LU) (L:List (List Int)) (k:Nat) (hk:k<L.length) (o:L.length<=1073741824) (l:List Int) (hl:l.length<=1073741824)
  (HF: ∀ row a,row.length=L.length->(Zh (opB s) (L.drop (k+1)) (k+1) (row,a)).2.length<=1000->FilC s L (k+1) row a): ∀ (m i:Nat) (row a:List Int),l.length-i=m->i<=l.length->row.length=L.length →
  ((l.drop i).foldl (λp x=>Zh (opB s) (L.drop (k+1)) (k+1) (p.1.set k x,p.2)) (row,a)).2.length<=1000 →
  At Tryz.prog 10 (cut ZaG 0) (hdF k l.length i (intC .i64 l) (obF s (lisD L) (intC .i64 row) (intD a) (intD a))) (FinQ false 10 Zcj λr ob=>r=.bool true ∧
   ob=obF s (lisD L) (intC .i64 ((l.drop i).foldl (λp x=>Zh (opB s) (L.drop (k+1)) (k+1) (p.1.set k x,p.2)) (row,a)).1) (intD ((l.drop i).foldl (λp x=>Zh (opB s) (L.drop (k+1)) (k+1) (p.1.set k x,p.2)) (row,a)).2) (intD ((l.drop i).foldl (λp x=>Zh (opB s) (L.drop (k+1)) (k+1) (p.1.set k x,p.2)) (row,a)).2)):=by
 intro m;induction m with
 |zero =>
  intro i row a hm hi b f;refine At.tree (Z2 Z1 (Za _ _)) (Zf9 s (lisD L) (intC .i64 row) (intC .i64 l) [] (intD a) (intD a) [] [] k l.length i 0) ?_;have e:l.drop i=[]:=List.drop_eq_nil_of_le (by omega);rw[e];simp only[SS];exact⟨λh=>by omega,λ_=>rfl⟩
 |succ m n =>
  intro i row a hm hi b f;have h1:i<l.length:=by omega
  rw[Zc h1,List.foldl_cons] at f ⊢;have d:(Zh (opB s) (L.drop (k+1)) (k+1) (row.set k l[i],a)).1.length=L.length:=by rw[QI];simpa using b
  have c:=Z09 (z:=List.length) (ZcE s) (L.drop (k+1)) k (l.drop (i+1)) (Zh (opB s) (L.drop (k+1)) (k+1) (row.set k l[i],a));have g:=HF (row.set k l[i]) a (by simpa using b) (Nat.le_trans c f);unfold FilC at g;have j:=n (i+1) (Zh (opB s) (L.drop (k+1)) (k+1) (row.set k l[i],a)).1 (Zh (opB s) (L.drop (k+1)) (k+1) (row.set k l[i],a)).2 (by omega) (by omega) d f;refine At.tree (Z2 Z1 (Za _ _)) (Zf9 s (lisD L) (intC .i64 row) (intC .i64 l) (intC .i64 (Zh (opB s) (L.drop (k+1)) (k+1) (row.set k l[i],a)).1) (intD a) (intD a) (intD (Zh (opB s) (L.drop (k+1)) (k+1) (row.set k l[i],a)).2) (intD (Zh (opB s) (L.drop (k+1)) (k+1) (row.set k l[i],a)).2) k l.length i l[i]) ?_;simp only[SS,ZR,Z9I];refine⟨λ_=>⟨⟨by omega,Z0J h1⟩,by omega,by omega,by omega,g,by omega,j⟩,λh=>by omega⟩
theorem ZrB (s:LU) (L:List (List Int)) (f:L.length<=1073741824) (hl: ∀ l∈L,l.length<=1073741824): ∀ (m k:Nat),L.length-k=m->k<=L.length-> ∀ row a,row.length=L.length->(Zh (opB s) (L.drop k) k (row,a)).2.length<=1000->FilC s L k row a:=by
 intro m;induction m with
 |zero =>
  intro k hm hk row a c b;have e:L.drop k=[]:=List.drop_eq_nil_of_le (by omega);unfold FilC;rw[e] at b ⊢;simp only[Zh] at b ⊢;refine CallL.tree Z3 Zli (Z2 Z1 (Za _ _)) (Ziw s (lisD L) (intC .i64 row) [] (intC .i64 row) (intD a) (intD a) (intD (opB s row a)) (intD (opB s row a)) k) ?_;simp only[SS,Z0f];exact⟨λ_=>⟨Ziz s L row a (by omega) b,rfl⟩,λh=>by omega⟩
 |succ m g =>
  intro k hm hk row a c b;have h1:k<L.length:=by omega
  have d:=ZrC s L k h1 f L[k] (hl _ (List.getElem_mem h1)) (λrow a hr b=>g (k+1) (by omega) (by omega) row a hr b) _ 0 row a rfl (Nat.zero_le _) c;unfold FilC;rw[Zc h1] at b ⊢;simp only[Zh] at b ⊢;simp only[List.drop_zero] at d;refine CallL.tree Z3 Zli (Z2 Z1 (Za _ _)) (Ziw s (lisD L) (intC .i64 row) (intC .i64 L[k]) [] (intD a) (intD a) [] [] k) ?_;simp only[SS,Z0f,ZR];exact⟨λh=>by omega,λ_=>⟨⟨by omega,Z9D h1⟩,d b⟩⟩
theorem ZjL (s:LU) (L:List (List Int)) (b:L.length<=1073741824) (hl: ∀ l∈L,l.length<=1073741824) (c:(Zh (opB s) L 0 (List.replicate L.length 0,[])).2.length<=1000) :
  CallL Tryz.prog (.func (.func 176) [] [.ptr 0 0]) [.yld 1] (obO s (lisD L) [] []) λr ob=>r=.tuple []/\ob=obO s (lisD L) (intD (Zh (opB s) L 0 (List.replicate L.length 0,[])).2) (intD (Zh (opB s) L 0 (List.replicate L.length 0,[])).2):=by
 have a:=ZrB s L b hl _ 0 rfl (Nat.zero_le _) (List.replicate L.length 0) [] (by simp) (by rw[List.drop_zero];exact c);unfold FilC at a;rw[List.drop_zero] at a;have e:intC .i64 (List.replicate L.length 0)=List.replicate L.length [.int .i64 0]:=by simp[intC]
 refine CallL.tree Z3 ZqY (Z2 Z1 (Za _ _)) (Zts s (lisD L) [] [] (intC .i64 (Zh (opB s) L 0 (List.replicate L.length 0,[])).1) (intD (Zh (opB s) L 0 (List.replicate L.length 0,[])).2) (intD (Zh (opB s) L 0 (List.replicate L.length 0,[])).2)) ?_;simp only[SS,Z0f];rw[<- e];exact⟨⟨by omega,by omega,by omega⟩,a,rfl⟩
end Go.Proofs.YtaclfbhhekhflaaGreatDoor
/- Bindings: trees. -/
namespace Go.Proofs.YtaclfbhhekhflaaGreatDoor
open Go.Sx
def mCtr (l:List (Nat × D)) (e:List (Nat × List D):=[]) (c:List (Nat × D):=[]):Ctr:=⟨λt f a=>match lk l t with|some r=>some (.ok (FK f a r) r [])|none=>none,
 λt d xs ob=>match lk c t with|some r=>some (.ok (CallL Tryz.prog d xs ob λr0 o=>r0=r/\o=ob) r ob)|none=>none,λt _=>(lk e t).getD []⟩
theorem Zf {l:List (Nat × D)} {e:List (Nat × List D)} {c:List (Nat × D)}:(mCtr l e c).OK Tryz.prog:=by
 refine⟨λt f a rt h=>?_,λt d a ob rt h=>?_⟩
 ·simp only[mCtr] at h;split at h
  ·cases h;exactλhp=>hp
  ·cases h
 ·simp only[mCtr] at h;split at h
  ·cases h;exactλhp=>hp
  ·cases h
abbrev bC (m:LU) (k n:Int) (s:LU) (a:LD):List D:=[.str m,.int .u8 k,.int .i64 n,.str s,.slice a []]
theorem ZsE (es:LD):gP (mCtr []) rs32 sc32 [dL es []]=(Jm (cut sc32 0) {tm:=[(0,dL es []),(5,dL es []),(6,dI (↑(List.length es):Int)),(7,dI 0)],ob:=[]}:Tr):=by kernel_rfl
def hdVa (es:LD) (m i:Int):St:=⟨[(0,.slice es []),(5,.slice es []),(6,.int .i64 m),(7,.int .i64 i)],[]⟩
theorem Z8K (es:LD) (mm:Int) (i:Nat) (m:LU) (k n:Int) (s:LU) (a:LD) (m':LU) (c d:Int) (s':LU) (b:LD) (v w:Bool):let A:=[(0,dL es []),(5,dL es []),(6,dI mm),(7,dI ((↑i:Int)+(1:Int)))];let B:=Rt (dB false) [];let C:=cut sc32 0;let E:=((↑i:Int)-(1:Int));let F:=((↑i:Int)+(1:Int));gH (mCtr [(14,dB v),(19,dB w)] [(10,bC m k n s a),(31,bC m' c d s' b)]) 0 true rs32 C (hdVa es mm (↑i:Int))=(brT (decide ((↑i:Int)<mm)) (Ow ((0:Int)<=(↑i:Int)/\es[Int.toNat (↑i:Int)]? = some [dS m,dU k,dI n,dS s,dL a []]) (Ow (FK 9 [dS m] (dB v)) (brT (!v) B (Ow (FK 33 [dA [dU k,dI n,dS s,dL a []]] (dB w)) (brT (!w) B (brT (decide ((0:Int)<(↑i:Int))) (I8 E (Ow ((0:Int)<=(↑i:Int)-(1:Int)/\es[Int.toNat E]? = some [dS m',dU c,dI d,dS s',dL b []]) (brT (Op.bytesLess m m' ||decide (m=m')) B (I8 F (Jm C {tm:=A,ob:=[]}))))) (I8 F (Jm C {tm:=A,ob:=[]})))))))) (Rt (dB true) []):Tr):=by intro A B C E F;kernel_rfl
theorem ZsK (es:LD) (s:LU) (i:Int) (b:Bool):let A:=[dI i,dB b];gP (mCtr [] [] [(8,D.tuple A)]) rs57 sc57 [dL es [],dS s]=(Ow (CF 87 [dL es [],dS s,dF 88 [] []] [] λr0 o=>r0=D.tuple A/\o=[]) (Rt (D.tuple A) []):Tr):=by intro A;kernel_rfl
theorem ZsL (m:LU) (k n:Int) (s:LU) (a:LD) (t:LU) (c:Int):gC (mCtr [(8,dI c)]) 0 rs88 sc88 [] [dA (bC m k n s a),dS t] [] []=(Ow (FK 89 [dS m,dS t] (dI c)) (Rt (dI c) []):Tr):=by kernel_rfl
theorem ZsO (es:LD) (s:LU):let A:=(↑(List.length es):Int);gC (mCtr []) 0 rs87 sc87 [] [dL es [],dS s,dF 88 [] []] [] []=(Jm (cut sc87 0) {tm:=[(0,dL es []),(1,dS s),(2,dF 88 [] []),(8,dI A),(9,dI 0),(10,dI A)],ob:=[]}:Tr):=by intro A;kernel_rfl
def hdBs (es:LD) (s:LU) (n i j:Int):St:=⟨[(0,.slice es []),(1,.str s),(2,.func (.func 88) [] []),(8,.int .i64 n),(9,.int .i64 i),(10,.int .i64 j)],[]⟩
theorem Z8L (es:LD) (t:LU) (nn i j:Int) (m:LU) (k n:Int) (s:LU) (a:LD) (c:Int):let A:=IntKind.wrap IntKind.u64 (i+j);let B:=[dS m,dU k,dI n,dS s,dL a []];let C:=(shI false IntKind.u64 A (1:Int));let E:=(shI false IntKind.u64 A (1:Int)+(1:Int));let F:=cut sc87 0;let G:=(2,dF 88 [] []);let H:=(0,dL es []);let I:=[dA B,dS t];gH (mCtr [] [(27,bC m k n s a),(43,bC m k n s a)] [(30,dI c),(46,dI c)]) 0 false rs87 F (hdBs es t nn i j)=(brT (decide (i<j)) (I8 (i+j) (Ow ((0:Int)<=(1:Int)) (I8 C (Ow ((0:Int)<=shI false IntKind.u64 A (1:Int)/\es[Int.toNat C]? = some B) (Ow (CF 88 I [] λr0 o=>r0=dI c/\o=[]) (brT (decide (c<(0:Int))) (I8 E (Jm F {tm:=[H,(1,dS t),G,(8,dI nn),(9,dI E),(10,dI j)],ob:=[]})) (Jm F {tm:=[H,(1,dS t),G,(8,dI nn),(9,dI i),(10,dI C)],ob:=[]}))))))) (brT (decide (i<nn)) (Ow ((0:Int)<=i/\es[Int.toNat i]? = some B) (Ow (CF 88 I [] λr0 o=>r0=dI c/\o=[]) (Rt (D.tuple [dI i,dB (decide (c=(0:Int)))]) []))) (Rt (D.tuple [dI i,dB false]) [])):Tr):=by intro A B C E F G H I;kernel_rfl
abbrev obT (es:LD):Obs:=[(0,.cells [.slice es []])]
theorem ZeJ (es:LD) (t:LU) (i:Int) (b:Bool) (m:LU) (k n:Int) (s:LU) (a:LD):let A:=[(0,oC [dL es []])];let B:=[dI i,dB b];gC (mCtr [(14,D.tuple B)] [(25,bC m k n s a)]) 1 rs39 sc39 [] [dP 0 0,dS t] [] (obT es)=(Ow (FK 57 [dL es [],dS t] (D.tuple B)) (brT (!b) (Rt (D.tuple [dA [dU 0,dI 0,dS [],dL [] []],dB false]) A) (Ow ((0:Int)<=i/\es[Int.toNat i]? = some [dS m,dU k,dI n,dS s,dL a []]) (Rt (D.tuple [dA [dU k,dI n,dS s,dL a []],dB true]) A))):Tr):=by intro A B;kernel_rfl
abbrev obP (es:LD):Obs:=[(0,.cells [.ptr 1 0]),(1,.cells [.slice es []])]
theorem ZeL (es:LD) (k n:Int) (s:LU) (a:LD) (d e:Int) (f:LU) (c:LD) (b:Bool):let A:=[dA [dU d,dI e,dS f,dL c []],dB b];let B:=[(0,oC [dP 1 0]),(1,oC [dL es []])];let C:=[(0,oC [dL es []])];gC (mCtr [] [] [(12,D.tuple [dA (tC d e f c),dB b])]) 2 Zkg Zjp [] [dA (tC k n s a)] [dP 0 0] (obP es)=(brT (!decide (k=(3:Int))) (Rt (D.tuple [dA [dU 0,dI 0,dS [],dL [] []],dB false]) B) (Ow (CF 39 [dP 0 0,dS s] C λr0 o=>r0=D.tuple A/\o=C) (Rt (D.tuple A) B)):Tr):=by intro A B C;kernel_rfl
theorem ZsN (k n:Int) (s:LU) (a:LD):gC (mCtr []) 0 rs65 sc65 [] [dA (tC k n s a)] [] []=(Rt (D.tuple [dA [dU 0,dI 0,dS [],dL [] []],dB false]) []:Tr):=by kernel_rfl
abbrev f0:D:=.func (.func 65) [] []
abbrev fA:D:=.func (.func 129) [] [.ptr 0 0]
theorem ZsF (k n:Int) (s:LU) (a c:LD) (e f:Int) (g:LU) (d:LD) (b:Bool):let A:=[dU e,dI f,dS g,dL d []];let B:=tC e f g d;gC (mCtr [(15,dA B)] [] [(10,D.tuple [dA B,dB b]),(19,dL c [])]) 0 rs60 sc60 [] [f0,dA (tC k n s a)] [] []=(Ow (CF 65 [dA [dU k,dI n,dS s,dL a []]] [] λr0 o=>r0=D.tuple [dA A,dB b]/\o=[]) (brT b (Ow (FK 40 [dA A] (dA A)) (Rt (dA A) [])) (Ow (CF 92 [dF 65 [] [],dL a []] [] λr0 o=>r0=dL c []/\o=[]) (Rt (dA [dU k,dI n,dS s,dL c []]) []))):Tr):=by intro A B;kernel_rfl
theorem Zi8 (es:LD) (k n:Int) (s:LU) (a c:LD) (e f:Int) (g:LU) (d:LD) (b:Bool):let A:=[(0,oC [dP 1 0]),(1,oC [dL es []])];let B:=[dU e,dI f,dS g,dL d []];let C:=tC e f g d;gC (mCtr [(15,dA C)] [] [(10,D.tuple [dA C,dB b]),(19,dL c [])]) 2 rs60 sc60 [] [fA,dA (tC k n s a)] [] (obP es)=(Ow (CallL Tryz.prog (dF 129 [] [dP 0 0]) [dA [dU k,dI n,dS s,dL a []]] A λr0 o=>r0=D.tuple [dA B,dB b]/\o=A) (brT b (Ow (FK 40 [dA B] (dA B)) (Rt (dA B) A)) (Ow (CF 92 [dF 129 [] [dP 0 0],dL a []] A λr0 o=>r0=dL c []/\o=A) (Rt (dA [dU k,dI n,dS s,dL c []]) A))):Tr):=by intro A B C;kernel_rfl
theorem ZsH (l:LD):gC (mCtr []) 0 rs92 sc92 [] [f0,dL l []] [] []=(Jm (cut sc92 0) {tm:=[(0,dF 65 [] []),(4,dV 0),(7,dL l []),(8,dI (↑(List.length l):Int)),(9,dI 0)],ob:=[(0,oR true 4 25 [])]}:Tr):=by kernel_rfl
theorem ZsG (es l:LD):gC (mCtr []) 2 rs92 sc92 [] [fA,dL l []] [] (obP es)=(Jm (cut sc92 0) {tm:=[(0,dF 129 [] [dP 0 0]),(4,dV 2),(7,dL l []),(8,dI (↑(List.length l):Int)),(9,dI 0)],ob:=[(0,oC [dP 1 0]),(1,oC [dL es []]),(2,oR true 4 25 [])]}:Tr):=by kernel_rfl
theorem ZsM (k n:Int) (s:LU) (a:LD) (c d:Int) (e:LU) (b:LD):let A:=[dU c,dI d,dS e,dL b []];gP (mCtr [] [] [(4,dA (tC c d e b))]) rs40 sc40 [dA (tC k n s a)]=(Ow (CF 60 [dF 65 [] [],dA [dU k,dI n,dS s,dL a []]] [] λr0 o=>r0=dA A/\o=[]) (Rt (dA A) []):Tr):=by intro A;kernel_rfl
end Go.Proofs.YtaclfbhhekhflaaGreatDoor
/- Bindings: more trees. -/
namespace Go.Proofs.YtaclfbhhekhflaaGreatDoor
open Go.Sx
def hdT0 (l row:LD) (m i:Int):St:=⟨[(0,f0),(4,.vec 0),(7,.slice l []),(8,.int .i64 m),(9,.int .i64 i)],[(0,.arr true 4 25 row)]⟩
def hdTA (es l row:LD) (m i:Int):St:=⟨[(0,fA),(4,.vec 2),(7,.slice l []),(8,.int .i64 m),(9,.int .i64 i)],[(0,.cells [.ptr 1 0]),(1,.cells [.slice es []]),(2,.arr true 4 25 row)]⟩
theorem ZeF (l row:LD) (m:Int) (i:Nat) (c nx:Int) (f:LU) (a:LD) (d e:Int) (g:LU) (b:LD):let A:=[dU d,dI e,dS g,dL b []];let B:=[dU c,dI nx,dS f,dL a []];let C:=((↑i:Int)+(1:Int));let E:=cut sc92 0;gH (mCtr [] [(11,tC c nx f a)] [(16,dA (tC d e g b))]) 0 false rs92 E (hdT0 l row m (↑i:Int))=(brT (decide ((↑i:Int)<m)) (Ow ((0:Int)<=(↑i:Int)/\l[Int.toNat (↑i:Int)]? = some B) (Ow (CF 60 [dF 65 [] [],dA B] [] λr0 o=>r0=dA A/\o=[]) (Ow (Ze 4 [A]/\List.length row+1<=1073741824) (I8 C (Jm E {tm:=[(0,dF 65 [] []),(4,dV 0),(7,dL l []),(8,dI m),(9,dI C)],ob:=[(0,oR true 4 25 (row++[A]))]}))))) (Rt (dV 0) [(0,oR true 4 25 row)]):Tr):=by intro A B C E;kernel_rfl
theorem ZeE (es l row:LD) (m:Int) (i:Nat) (c nx:Int) (f:LU) (a:LD) (d e:Int) (g:LU) (b:LD):let A:=[dU d,dI e,dS g,dL b []];let B:=(1,oC [dL es []]);let C:=(0,oC [dP 1 0]);let E:=[dU c,dI nx,dS f,dL a []];let F:=((↑i:Int)+(1:Int));let G:=cut sc92 0;gH (mCtr [] [(11,tC c nx f a)] [(16,dA (tC d e g b))]) 2 false rs92 G (hdTA es l row m (↑i:Int))=(brT (decide ((↑i:Int)<m)) (Ow ((0:Int)<=(↑i:Int)/\l[Int.toNat (↑i:Int)]? = some E) (Ow (CF 60 [dF 129 [] [dP 0 0],dA E] [C,B] λr0 o=>r0=dA A/\o=[C,B]) (Ow (Ze 4 [A]/\List.length row+1<=1073741824) (I8 F (Jm G {tm:=[(0,dF 129 [] [dP 0 0]),(4,dV 2),(7,dL l []),(8,dI m),(9,dI F)],ob:=[C,B,(2,oR true 4 25 (row++[A]))]}))))) (Rt (dV 2) [C,B,(2,oR true 4 25 row)]):Tr):=by intro A B C E F G;kernel_rfl
theorem ZsV (es:LD):gC (mCtr []) 1 rs91 sc91 [] [dP 0 0] [] (obT es)=(Rt (dF 129 [] [dP 1 0]) [(0,oC [dL es []]),(1,oC [dP 0 0])]:Tr):=by kernel_rfl
def ayQ:QT:=λd xs ob=>match d,xs,ob with
 |.func (.func f) [] [],[.ptr 0 0],[(0,.cells [.slice es []])]=>if f=91 then some (.ok True (.func (.func 129) [] [.ptr 1 0]) [(0,.cells [.slice es []]),(1,.cells [.ptr 0 0])]) else none
 |_,_,_=>none
def qCtr (l:List (Nat × D)) (q:QT):Ctr:=dCtr l [] q
theorem ZsW (es:LD) (b:Bool):let A:=dF 129 [] [dP 0 0];let B:=[dL es []];let C:=(0,oC [dP 1 0]);gC (qCtr [(4,dB b)] ayQ) 0 rs59 sc59 [] B [] []=(Ow (FK 32 B (dB b)) (brT (!b) (Ow True (Rt A [C,(1,oC [dL [] []])])) (Ow True (Rt A [C,(1,oC B)]))):Tr):=by intro A B C;kernel_rfl
def ZlX (a:LD) (r:D):QT:=λd xs ob=>match d with
 |.func (.func f) [] []=>if f=59 then some (.ok (CallL Tryz.prog d xs ob λr0 o=>r0=fA/\o=obP a) fA (obP a)) else if f=60 then some (.ok (CallL Tryz.prog d xs ob λr0 o=>r0=r/\o=ob) r ob) else none
 |_=>none
theorem Zh0 (a:LD) (r:D):(ZlX a r).OK:=by
 intro d xs ob rt h;unfold ZlX at h;split at h
 ·split at h
  ·cases h;exactλhp=>hp
  ·split at h
   ·cases h;exactλhp=>hp
   ·cases h
 ·cases h
theorem ZsX (es b:LD) (k n:Int) (s:LU) (a:LD) (d e:Int) (f:LU) (c:LD):let A:=[(0,oC [dP 1 0]),(1,oC [dL b []])];let B:=[dU d,dI e,dS f,dL c []];gP (qCtr [] (ZlX b (dA (tC d e f c)))) rs36 sc36 [dA (tC k n s a),dL es []]=(Ow (CF 59 [dL es []] [] λr0 o=>r0=dF 129 [] [dP 0 0]/\o=A) (Ow (CF 60 [dF 129 [] [dP 0 0],dA [dU k,dI n,dS s,dL a []]] A λr0 o=>r0=dA B/\o=A) (Rt (dA B) [])):Tr):=by intro A B;kernel_rfl
theorem ZeI (es:LD) (t:LU) (v b:Bool) (c d:Int) (e:LU) (a:LD):let A:=[dU c,dI d,dS e,dL a []];let B:=[dL es []];let C:=tC c d e a;let E:=[dA A,dB b];gP (mCtr [(9,dB v),(21,dA C)] [] [(17,D.tuple [dA C,dB b])]) rs14 sc14 [dL es [],dS t]=(Ow (FK 32 B (dB v)) (brT (!v) (Rt (D.tuple [dA [dU 0,dI 0,dS [],dL [] []],dB false]) []) (Ow (CF 39 [dP 0 0,dS t] [(0,oC B)] λr0 o=>r0=D.tuple E/\o=[(0,oC B)]) (Ow (FK 40 [dA A] (dA A)) (Rt (D.tuple E) [])))):Tr):=by intro A B C E;kernel_rfl
theorem ZsJ (es:LD):gC (mCtr []) 1 rs35 sc35 [] [dP 0 0] [] (obT es)=(Jm (cut sc35 0) {tm:=[(2,dV 1),(8,dL es []),(9,dI (↑(List.length es):Int)),(10,dI 0)],ob:=[(0,oC [dL es []]),(1,oR true 5 108 [])]}:Tr):=by kernel_rfl
theorem ZsI (es:LD):let A:=(1,oR false 5 108 es);let B:=(0,oC [dV 1]);gC (mCtr []) 2 rs35 sc35 [] [dP 0 0] [] [B,A]=(Jm (cut sc35 0) {tm:=[(2,dV 2),(8,dV 1),(9,dI (↑(List.length es):Int)),(10,dI 0)],ob:=[B,A,(2,oR true 5 108 [])]}:Tr):=by intro A B;kernel_rfl
def hdR0 (es row:LD) (m i:Int):St:=⟨[(2,.vec 1),(8,.slice es []),(9,.int .i64 m),(10,.int .i64 i)],[(0,.cells [.slice es []]),(1,.arr true 5 108 row)]⟩
def hdR1 (es row:LD) (m i:Int):St:=⟨[(2,.vec 2),(8,.vec 1),(9,.int .i64 m),(10,.int .i64 i)],[(0,.cells [.vec 1]),(1,.arr false 5 108 es),(2,.arr true 5 108 row)]⟩
theorem ZeH (es row:LD) (mm:Int) (i:Nat) (m:LU) (k n:Int) (s:LU) (a:LD):let A:=[dS m,dU k,dI n,dS s,dL a []];let B:=[dU k,dI n,dS s,dL a []];let C:=((↑i:Int)+(1:Int));let E:=(0,oC [dL es []]);let F:=cut sc35 0;gH (mCtr [(19,dA (tC k n s a))] [(12,bC m k n s a),(13,bC m k n s a)]) 1 false rs35 F (hdR0 es row mm (↑i:Int))=(brT (decide ((↑i:Int)<mm)) (Ow ((0:Int)<=(↑i:Int)/\es[Int.toNat (↑i:Int)]? = some A) (Ow (FK 40 [dA B] (dA B)) (Ow (Ze 5 [A]/\List.length row+1<=1073741824) (I8 C (Jm F {tm:=[(2,dV 1),(8,dL es []),(9,dI mm),(10,dI C)],ob:=[E,(1,oR true 5 108 (row++[A]))]}))))) (Rt (dV 1) [E,(1,oR true 5 108 row)]):Tr):=by intro A B C E F;kernel_rfl
theorem ZeG (es row:LD) (mm:Int) (i:Nat) (m:LU) (k n:Int) (s:LU) (a:LD):let A:=[dS m,dU k,dI n,dS s,dL a []];let B:=[dU k,dI n,dS s,dL a []];let C:=(1,oR false 5 108 es);let E:=((↑i:Int)+(1:Int));let F:=(0,oC [dV 1]);let G:=cut sc35 0;gH (mCtr [(19,dA (tC k n s a))] [(13,bC m k n s a)]) 2 false rs35 G (hdR1 es row mm (↑i:Int))=(brT (decide ((↑i:Int)<mm)) (Ow ((0:Int)<=(↑i:Int)/\(↑i:Int)<(↑(List.length es):Int)) (Ow (es[Int.toNat (↑i:Int)]? = some A) (Ow (FK 40 [dA B] (dA B)) (Ow (Ze 5 [A]/\List.length row+1<=1073741824) (I8 E (Jm G {tm:=[(2,dV 2),(8,dV 1),(9,dI mm),(10,dI E)],ob:=[F,C,(2,oR true 5 108 (row++[A]))]})))))) (Rt (dV 2) [F,C,(2,oR true 5 108 row)]):Tr):=by intro A B C E F G;kernel_rfl
end Go.Proofs.YtaclfbhhekhflaaGreatDoor
