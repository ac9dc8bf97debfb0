/- Own work: a layer over the kit: plain data,a walk over it,its soundness. -/
import Derived.Test.YtobgkdlghljdlaaGreatDoorArA
import Derived.Test.YtobgkdlghljdlaaGreatDoorSx8
import Derived.Test.YtobgkdlghljdlaaGreatDoorShape
set_option linter.unusedSectionVars false
set_option linter.unusedVariables false
set_option linter.unusedSimpArgs false
set_option linter.deprecated false
set_option maxRecDepth 100000
/- The same by the kit. -/
namespace Go.Proofs.YtobgkdlghljdlaaGreatDoor
open Go.Sx
theorem Zmj (a a':LD):gP (ctr libT) rs50 sc50 [dL a [],dL a' []]=(brT (!decide ((↑(List.length a):Int)=(↑(List.length a'):Int))) (Rt (dB false) []) (Jm (cut sc50 0) { tm:=[(0,dL a []),(1,dL a' []),(5,dI (0:Int))],ob:=[] }):Tr):=by kernel_rfl
def hdSS (a a':LD) (i:Int):St:=⟨[(0,.slice a []),(1,.slice a' []),(5,.int .i64 i)],[]⟩
theorem Za7 (a a':LD) (i kx nx:Int) (sx:LU) (ax:LD) (ky ny:Int) (sy:LU) (ay:LD) (c:Bool):let A:=[dU kx,dI nx,dS sx,dL ax []];let B:=[dU ky,dI ny,dS sy,dL ay []];let C:=cut sc50 0;let E:=(i+(1:Int));gH (ctr (asmP (dB c)) Qg (eTwo 19 A B)) 0 true rs50 C (hdSS a a' i)=(brT (decide (i<(↑(List.length a):Int))) (Ow ((0:Int)<=i/\a[Int.toNat i]? = some A) (Ow ((0:Int)<=i/\a'[Int.toNat i]? = some B) (Ow (FK 24 [dA A,dA B] (dB c)) (brT (!c) (Rt (dB false) []) (I8 E (Jm C { tm:=[(0,dL a []),(1,dL a' []),(5,dI E)],ob:=[] })))))) (Rt (dB true) []):Tr):=by intro A B C E;kernel_rfl
theorem Zmi (k n:Int) (s:LU) (a:LD) (k' n':Int) (s':LU) (a':LD) (c:Bool):let A:=Rt (dB false) [];gP (ctr (asmP (dB c))) rs24 sc24 [dA [dU k,dI n,dS s,dL a []],dA [dU k',dI n',dS s',dL a' []]]=(brT (decide (k=k')) (brT (decide (n=n')) (brT (decide (s=s')) (Ow (FK 50 [dL a [],dL a' []] (dB c)) (Rt (dB c) [])) A) A) A:Tr):=by intro A;kernel_rfl
def SaP (x y:Tm):Prop:=FK 24 [.agg x.cells,.agg y.cells] (.bool (x.eqb y))
theorem Znq (l q:List Tm) (hlq:l.length=q.length) (hl:l.length<=281474976710656) (H: ∀ x∈l, ∀ y∈q,SaP x y): ∀ (m i:Nat),l.length-i=m->i<=l.length →
  At Tryz.prog 0 (cut sc50 0) (hdSS (Tm.cellsL l) (Tm.cellsL q) i) (FinQ true 0 rs50 fun r _=>r= .bool (Tm.eqbL (l.drop i) (q.drop i))):=by
 intro m
 induction m with
 | zero =>
  intro i hm hi
  refine At.tree (Z3 (Zl (.bool true)) Z0) (Za7 (Tm.cellsL l) (Tm.cellsL q) i 0 0 [] [] 0 0 [] [] true) ?_
  rw[List.drop_eq_nil_of_le (show l.length<=i by omega),List.drop_eq_nil_of_le (show q.length<=i by omega)]
  simp only[SS,Z1]
  exact⟨fun h=>by omega,fun _=>rfl⟩
 | succ m ih =>
  intro i hm hi
  have h1:i<l.length:=by omega
  have h2:i<q.length:=by omega
  have hx:=Zg h1
  have hy:=Zg h2
  have hC:=H _ (List.getElem_mem h1) _ (List.getElem_mem h2)
  have hI:=ih (i+1) (by omega) (by omega)
  rw[Za h1,Za h2]
  simp only[Tm.eqbL]
  unfold SaP at hC
  generalize Tm.eqb l[i] q[i]=c at hC ⊢
  generalize l[i]=x at hx hC
  generalize q[i]=y at hy hC
  obtain⟨kx,nx,sx,ax⟩:=x
  obtain⟨ky,ny,sy,ay⟩:=y
  refine At.tree (Z3 (Zl (.bool c)) Z0) (Za7 (Tm.cellsL l) (Tm.cellsL q) i kx nx sx (Tm.cellsL ax) ky ny sy (Tm.cellsL ay) c) ?_
  simp only[SS,Z1]
  refine⟨fun _=>⟨⟨by omega,hx⟩,⟨by omega,hy⟩,hC,fun h=>by rw[h]; rfl,fun h=>⟨by omega, ?_⟩⟩,fun h=>by omega⟩
  rw[h,Bool.true_and]; exact hI
theorem Zgf: ∀ {l q:List Tm},l.length≠q.length->Tm.eqbL l q=false:=fun {l q} h=>by
 rw[Bool.eq_false_iff]
 intro h2
 exact h (by rw[Z5y.1 h2])
theorem Znp (l q:List Tm) (hl:l.length<=281474976710656) (H: ∀ x∈l, ∀ y∈q,SaP x y):FK 50 [.slice (Tm.cellsL l) [],.slice (Tm.cellsL q) []] (.bool (Tm.eqbL l q)):=by
 refine FnOK.tree Z4 fp50 (Z3 Z2 Z0) (Zmj (Tm.cellsL l) (Tm.cellsL q)) ?_
 have e2:((l.length:Int)=q.length)=(l.length=q.length):=propext (by omega)
 simp only[SS,Z1,e2]
 exact⟨fun h4=>by rw[Zgf h4],fun h4=>Znq l q h4 hl H _ 0 rfl (Nat.zero_le _)⟩
theorem ZiZ: ∀ (x y:Tm),x.wf 281474976710656->y.wf 281474976710656->SaP x y
 | .mk k n s l,.mk k' n' s' l',hx,hy=>by
  simp only[Tm.wf] at hx hy
  obtain⟨hk,hn1,hn2,hs,hl,hw⟩:=hx
  obtain⟨hk',hn1',hn2',hs',hl',hw'⟩:=hy
  have hC:=Znp l l' hl (fun x hx y hy=>ZiZ x y (Z40 hw hx) (Z40 hw' hy))
  refine FnOK.tree Z4 fp24 (Z3 (Zl (.bool (Tm.eqbL l l'))) Z0) (Zmi k n s (Tm.cellsL l) k' n' s' (Tm.cellsL l') (Tm.eqbL l l')) ?_
  have e1:((k:Int)=k')=(k=k'):=propext (by omega)
  simp only[SS,Z1,Tm.eqb,e1]
  exact⟨fun h=>⟨fun h2=>⟨fun h3=>⟨hC,by simp[h,h2,h3]⟩,fun h3=>by simp[h3]⟩,fun h2=>by simp[h2]⟩,fun h=>by simp[h]⟩
termination_by x=>SizeOf.sizeOf x
decreasing_by
 have:=List.sizeOf_lt_of_mem hx
 simp only[Tm.mk.sizeOf_spec]
 omega
end Go.Proofs.YtobgkdlghljdlaaGreatDoor
/- arith.rows[int]. -/
namespace Go.Proofs.YtobgkdlghljdlaaGreatDoor
open Go.Sx
theorem Znj (es ext:LD):gC (ctr libT) 0 Zf3 Zen [] [dL es ext] [] []=(Rt (dF 139 [] [dP 0 0]) [(0,oC [dL es ext])]:Tr):=by kernel_rfl
def Zbc:QT:=fun d xs ob=>match d,xs,ob with
 | .func (.func f) [] [],[.slice es ext],[]=>if f=118 then some (.ok True (.func (.func 139) [] [.ptr 0 0]) [(0,.cells [.slice es ext])]) else none
 | _,_,_=>none
theorem Z68:Zbc.OK:=by
 intro d xs ob rt h
 unfold Zbc at h
 split at h
 ·split at h
  ·rename_i hf
   subst hf
   cases h
   intro _
   exact CallL.tree Z4 Zl7 (Z3 Z2 Z0) (Znj _ _) ⟨rfl,rfl⟩
  ·cases h
 ·cases h
def asmA (r:D) (g:Obs->Obs):QT:=fun d xs ob=>some (.ok (CallL Tryz.prog d xs ob fun r0 ob0=>r0=r/\ob0=g ob) r (g ob))
theorem Zw (r:D) (g:Obs->Obs):(asmA r g).OK:=by intro d xs ob rt h; cases h; exact fun hp=>hp
def Z2R:List Nat:=[28,27,2,5,8]
def dsOp (a b c d:Nat):List D:=[.func (.func 139) [] [.ptr a 0],.vec b,.ptr c 0,.vec b,.ptr d 0]
def Zfe (st:LoopState) (pend:Option Code) (ds:List D):Ob:= .gen (.loop st pend #[29] (sc88.rngA 0) (sc88.rngB 0) 56 Z2R) ds
def obO (s:LU) (es:LD) (ks vs:List D):Obs:=[(0,.cells [.slice es []]),(1,Zfe .ready none (dsOp 0 2 3 4)),(2,.arr true 1 110 es),(3,.cells [.str s]),(4,.cells [.map 5]),(5,.gen (.mapC ks vs) [])]
def obF (s:LU) (es row:LD) (ks vs:List D):Obs:=[(0,.cells [.slice es []]),(1,.cells [.yld 4]),(2,.cells [.vec 5]),(3,.cells [.func (.func 140) [] [.ptr 0 0,.ptr 1 0,.ptr 2 0,.ptr 3 0]]),
 (4,.gen (.loop .ready none #[29] (sc88.rngA 0) (sc88.rngB 0) 56 [28,27,2,5,8]) [.func (.func 139) [] [.ptr 0 0],.vec 6,.ptr 7 0,.vec 6,.ptr 8 0]),(5,.arr false 1 3 row),(6,.arr true 1 110 es),(7,.cells [.str s]),(8,.cells [.map 9]),(9,.gen (.mapC ks vs) [])]
def updO (row:LD) (ks vs:List D):Obs->Obs
 | []=>[]
 | (i,.arr false sz e _)::r=>(i,.arr false sz e row)::updO row ks vs r
 | (i,.gen (.mapC _ _) [])::r=>(i,.gen (.mapC ks vs) [])::updO row ks vs r
 | x::r=>x::updO row ks vs r
theorem Znk (s:LU) (es:LD) (ks vs:List D) (row':LD) (ks' vs':List D):let A:=(↑(List.length es):Int);let B:=[dP 0 0,dP 1 0,dP 2 0,dP 3 0];let C:=[dF 139 [] [dP 0 0],dV 6,dP 7 0,dV 6,dP 8 0];let E:=(0,oC [dL es []]);let F:=(3,oC [dF 140 [] B]);let G:=(6,oR true 1 110 es);let H:=Gen.mapC ks' vs';let I:=(1,oC [D.yld 4]);let J:=(8,oC [D.map 9]);let K:=(2,oC [dV 5]);let L:=(7,oC [dS s]);let M:=[dI (0:Int)];gC (ctr libT (asmA (dB true) (updO row' ks' vs'))) 6 ZeU Zee [] [D.yld 1] [dP 0 0] (obO s es ks vs)=(Ow ((0:Int)<=A/\A*(8:Int)<=(281474976710656:Int)/\A<=(1073741824:Int)) (Ow (CallL Tryz.prog (dF 140 [] B) M [E,I,K,F,(4,gL .ready none #[29] sc88 0 56 [28,27,2,5,8] C),(5,oR false 1 3 (List.replicate (Int.toNat A) M)),G,L,J,(9,Ob.gen (Gen.mapC ks vs) [])] fun r0 ob0=>r0=dB true/\ob0=[E,I,K,F,(4,gL .ready none #[29] sc88 0 56 [28,27,2,5,8] C),(5,oR false 1 3 row'),G,L,J,(9,Ob.gen H [])]) (Rt (D.tuple []) [E,(1,gL .ready none #[29] sc88 0 56 [28,27,2,5,8] [dF 139 [] [dP 0 0],dV 2,dP 3 0,dV 2,dP 4 0]),(2,oR true 1 110 es),(3,oC [dS s]),(4,oC [D.map 5]),(5,Ob.gen H [])])):Tr):=by intro A B C E F G H I J K L M;kernel_rfl
theorem Zdu (s:LU) (es row xs row':LD) (ks vs ks' vs':List D) (k:Int):let A:=[dP 0 0,dP 1 0,dP 2 0,dP 3 0];let B:=[dF 139 [] [dP 2 0],dV 3,dP 4 0,dV 3,dP 5 0];let C:=[dF 139 [] [dP 0 0],dV 6,dP 7 0,dV 6,dP 8 0];let E:=[dL es []];let F:=(3,oR true 1 110 es);let G:=(3,oC [dF 140 [] A]);let H:=(6,oR true 1 110 es);let I:=Gen.mapC ks' vs';let J:=(5,oC [D.map 6]);let K:=Gen.mapC ks vs;let L:=(1,oC [D.yld 4]);let M:=(8,oC [D.map 9]);let N:=(4,oC [dS s]);let O:=(2,oC [dV 5]);let P:=(7,oC [dS s]);gC (ctr libT (asmA (dB true) (updO row' ks' vs')) (eOne [dL xs []])) 10 Z8v Z7h [] [dI k] A (obF s es row ks vs)=(brT (decide (k=(↑(List.length es):Int))) (Ow (CallL Tryz.prog (D.yld 0) [dV 1] [(0,gL .ready none #[29] sc88 0 56 [28,27,2,5,8] B),(1,oR false 1 3 row),(2,oC E),F,N,J,(6,Ob.gen K [])] fun r0 ob0=>r0=dB true/\ob0=[(0,gL .ready none #[29] sc88 0 56 [28,27,2,5,8] B),(1,oR false 1 3 row'),(2,oC E),F,N,J,(6,Ob.gen I [])]) (Rt (dB true) [(0,oC E),L,O,G,(4,gL .ready none #[29] sc88 0 56 [28,27,2,5,8] C),(5,oR false 1 3 row'),H,P,M,(9,Ob.gen I [])])) (Ow ((0:Int)<=k/\es[Int.toNat k]? = some [dL xs []]) (Jm (cut Z7h 0) { tm:=[(0,dI k),(3,dP 2 0),(4,dP 3 0),(19,dL xs []),(20,dI (↑(List.length xs):Int)),(21,dI (0:Int))],ob:=[(0,oC E),L,O,G,(4,gL .ready none #[29] sc88 0 56 [28,27,2,5,8] C),(5,oR false 1 3 row),H,P,M,(9,Ob.gen K [])] })):Tr):=by intro A B C E F G H I J K L M N O P;kernel_rfl
def hdF (k m i:Int) (xs:LD) (ob:Obs):St:=⟨[(0,.int .i64 k),(3,.ptr 2 0),(4,.ptr 3 0),(19,.slice xs []),(20,.int .i64 m),(21,.int .i64 i)],ob⟩
theorem ZaC (s:LU) (es row xs row':LD) (ks vs ks' vs':List D) (k m:Int) (i:Nat) (x:Int):let A:=(3,oC [dF 140 [] [dP 0 0,dP 1 0,dP 2 0,dP 3 0]]);let B:=[dF 139 [] [dP 0 0],dV 6,dP 7 0,dV 6,dP 8 0];let C:=(6,oR true 1 110 es);let E:=(0,oC [dL es []]);let F:=(1,oC [D.yld 4]);let G:=(8,oC [D.map 9]);let H:=(2,oC [dV 5]);let I:=(7,oC [dS s]);let J:=(9,Ob.gen (Gen.mapC ks' vs') []);let K:=(9,Ob.gen (Gen.mapC ks vs) []);let L:=(5,oR false 1 3 row');let M:=((↑i:Int)+(1:Int));let N:=cut Z7h 0;let O:=(k+(1:Int));gH (ctr libT (asmA (dB true) (updO row' ks' vs')) (eOne [dI x])) 10 false Z8v N (hdF k m (↑i:Int) xs (obF s es row ks vs))=(brT (decide ((↑i:Int)<m)) (Ow ((0:Int)<=(↑i:Int)/\xs[Int.toNat (↑i:Int)]? = some [dI x]) (Ow ((0:Int)<=k/\k<(↑(List.length row):Int)) (Ow (Int.toNat k<List.length row) (I8 O (Ow (CallL Tryz.prog (dF 140 [] [dP 0 0,dP 1 0,dP 2 0,dP 3 0]) [dI O] [E,F,H,A,(4,gL .ready none #[29] sc88 0 56 [28,27,2,5,8] B),(5,oR false 1 3 (List.set row (Int.toNat k) [dI x])),C,I,G,K] fun r0 ob0=>r0=dB true/\ob0=[E,F,H,A,(4,gL .ready none #[29] sc88 0 56 [28,27,2,5,8] B),L,C,I,G,J]) (I8 M (Jm N { tm:=[(0,dI k),(3,dP 2 0),(4,dP 3 0),(19,dL xs []),(20,dI m),(21,dI M)],ob:=[E,F,H,A,(4,gL .ready none #[29] sc88 0 56 [28,27,2,5,8] B),L,C,I,G,J] }))))))) (Rt (dB true) [E,F,H,A,(4,gL .ready none #[29] sc88 0 56 [28,27,2,5,8] B),(5,oR false 1 3 row),C,I,G,K]):Tr):=by intro A B C E F G H I J K L M N O;kernel_rfl
theorem ZhW (n:Int):gP (ctr libT) Zf5 Zep [dI n]=(brT (decide ((1000:Int)<n)) Tr.bad (Rt (dI n) []):Tr):=by kernel_rfl
theorem Zki (n:Int) (h:n<=1000):FK 116 [.int .i64 n] (.int .i64 n):=by
 refine FnOK.tree Z4 Zl9 (Z3 Z2 Z0) (ZhW n) ?_
 rw[Qt]
 refine⟨fun h=> ?_,fun _=>rfl⟩
 have:=of_decide_eq_true h
 omega
def limP:PT:=fun f xs=>match xs with
 | [.int .i64 n]=>if f=116 then some (.ok (n<=1000) (.int .i64 n) []) else none
 | _=>none
theorem Z0h:limP.OK:=by
 intro f xs rt h
 unfold limP at h
 split at h
 ·split at h
  ·rename_i hf; subst hf; cases h; exact fun hp=>Zki _ hp
  ·cases h
 ·cases h
def obY (s:LU) (es row:LD) (ks vs:List D):Obs:=[(1,.arr false 1 3 row),(2,.cells [.slice es []]),(3,.arr true 1 110 es),(4,.cells [.str s]),(5,.cells [.map 6]),(6,.gen (.mapC ks vs) [])]
def eMap (ks vs:List D) (r:D):Nat->Int->List D:=fun _ n=>if n= -1 then [.agg ks,.agg vs] else [r]
theorem Zmb (s:LU) (es row:LD) (ks vs ks' vs':List D) (b:Bool) (n m:Int):let A:=[dF 139 [] [dP 2 0],dV 3,dP 4 0,dV 3,dP 5 0];let B:=[(0,oR false 1 3 row)];let C:=(1,oR false 1 3 row);let E:=(3,oR true 1 110 es);let F:=(2,oC [dL es []]);let G:=(5,oC [D.map 6]);let H:=dsOp 2 3 4 5;let I:=(4,oC [dS s]);let J:=[dI n,dB b];yldT Tryz.prog (ctr limP (asmA (D.tuple J) id) (eMap ks' vs' (dI m))) 7 0 56 #[29] (SC.rngA sc88 0) (SC.rngB sc88 0) Z2R H 2000 { tm:=putP (List.zip [29] [dV 1]) (List.zip Z2R H),ob:=obY s es row ks vs }=(Ow (CF 119 [dS s,dV 0] B fun r0 ob0=>r0=D.tuple J/\ob0=B) (brT b (Ow (mput (dI n) (dI n) ks vs=some (ks',vs')) (Ow (some (dI (↑(List.length ks'):Int))=some (dI m)) (Ow (m<=(1000:Int)) (Rt (dB true) [(0,gL .ready none #[29] sc88 0 56 [28,27,2,5,8] A),C,F,E,I,G,(6,Ob.gen (Gen.mapC ks' vs') [])])))) (Rt (dB true) [(0,gL .ready none #[29] sc88 0 56 [28,27,2,5,8] A),C,F,E,I,G,(6,Ob.gen (Gen.mapC ks vs) [])])):Tr):=by intro A B C E F G H I J;kernel_rfl
def lisD (L:List (List Int)):LD:=L.map fun l=>[.slice (intC .i64 l) []]
theorem Z6v {L:List (List Int)} {i:Nat} (h:i<L.length):(lisD L)[i]? = some [.slice (intC .i64 L[i]) []]:=by simp[lisD,h]
theorem Qw (L:List (List Int)):(lisD L).length=L.length:=by simp[lisD]
theorem Z6x {k:IntKind} (l:List Int) (i:Nat) (x:Int):(intC k l).set i [.int k x]=intC k (l.set i x):=by simp[intC,List.map_set]
theorem Z3E (l:List Int):(intD l).length=l.length:=by simp[intD]
theorem Zdx (s:LU) (L:List (List Int)) (row acc:List Int) (hr:row.length<=4611686018427387904) (h:(opB s row acc).length<=1000):CallL Tryz.prog (.yld 0) [.vec 1] ((0,Zfe .ready none (dsOp 2 3 4 5))::obY s (lisD L) (intC .i64 row) (intD acc) (intD acc))
  fun r ob=>r= .bool true/\ob=(0,Zfe .ready none (dsOp 2 3 4 5))::obY s (lisD L) (intC .i64 row) (intD (opB s row acc)) (intD (opB s row acc)):=by
 refine CallL.yldT Z4 (Z3 Z0h (Zw _ _)) rfl (Zmb s (lisD L) (intC .i64 row) (intD acc) (intD acc) (intD (opB s row acc)) (intD (opB s row acc)) (QP s row).isSome ((QP s row).getD 0) (opB s row acc).length) ?_
 simp only[SS,Z3E]
 refine⟨Z9O s row hr,fun hb=> ?_,fun hb=> ?_⟩
 ·obtain⟨n,hn⟩:=Option.isSome_iff_exists.1 hb
  have e:opB s row acc=insI n acc:=by unfold opB; rw[hn]
  rw[e] at h ⊢
  rw[hn]
  refine⟨Z3x n acc,by omega,rfl⟩
 ·have e:opB s row acc=acc:=by
   unfold opB
   cases hq:QP s row with
   | none=>rfl
   | some n=>rw[hq] at hb; cases hb
  rw[e]
  rfl
def FilC (s:LU) (L:List (List Int)) (k:Nat) (row acc:List Int):Prop:=CallL Tryz.prog (.func (.func 140) [] [.ptr 0 0,.ptr 1 0,.ptr 2 0,.ptr 3 0]) [.int .i64 k] (obF s (lisD L) (intC .i64 row) (intD acc) (intD acc))
 fun r ob=>r= .bool true/\ob=obF s (lisD L) (intC .i64 (Zb (opB s) (L.drop k) k (row,acc)).1) (intD (Zb (opB s) (L.drop k) k (row,acc)).2) (intD (Zb (opB s) (L.drop k) k (row,acc)).2)
theorem Zls (s:LU) (L:List (List Int)) (k:Nat) (hk:k<L.length) (hL:L.length<=1073741824) (l:List Int) (hl:l.length<=1073741824)
  (HF: ∀ row acc,row.length=L.length->(Zb (opB s) (L.drop (k+1)) (k+1) (row,acc)).2.length<=1000->FilC s L (k+1) row acc): ∀ (m i:Nat) (row acc:List Int),l.length-i=m->i<=l.length->row.length=L.length →
  ((l.drop i).foldl (fun p x=>Zb (opB s) (L.drop (k+1)) (k+1) (p.1.set k x,p.2)) (row,acc)).2.length<=1000 →
  At Tryz.prog 10 (cut Z7h 0) (hdF k l.length i (intC .i64 l) (obF s (lisD L) (intC .i64 row) (intD acc) (intD acc))) (FinQ false 10 Z8v fun r ob=>r= .bool true ∧
   ob=obF s (lisD L) (intC .i64 ((l.drop i).foldl (fun p x=>Zb (opB s) (L.drop (k+1)) (k+1) (p.1.set k x,p.2)) (row,acc)).1) (intD ((l.drop i).foldl (fun p x=>Zb (opB s) (L.drop (k+1)) (k+1) (p.1.set k x,p.2)) (row,acc)).2) (intD ((l.drop i).foldl (fun p x=>Zb (opB s) (L.drop (k+1)) (k+1) (p.1.set k x,p.2)) (row,acc)).2)):=by
 intro m
 induction m with
 | zero =>
  intro i row acc hm hi hrow hz
  refine At.tree (Z3 Z2 (Zw _ _)) (ZaC s (lisD L) (intC .i64 row) (intC .i64 l) [] (intD acc) (intD acc) [] [] k l.length i 0) ?_
  have e:l.drop i=[]:=List.drop_eq_nil_of_le (by omega)
  rw[e]
  simp only[SS]
  exact⟨fun h=>by omega,fun _=>rfl⟩
 | succ m ih =>
  intro i row acc hm hi hrow hz
  have h1:i<l.length:=by omega
  rw[Za h1,List.foldl_cons] at hz ⊢
  have hlen:(Zb (opB s) (L.drop (k+1)) (k+1) (row.set k l[i],acc)).1.length=L.length:=by rw[Qc]; simpa using hrow
  have hmono:=Qo (z:=List.length) (Z8P s) (L.drop (k+1)) k (l.drop (i+1)) (Zb (opB s) (L.drop (k+1)) (k+1) (row.set k l[i],acc))
  have hC:=HF (row.set k l[i]) acc (by simpa using hrow) (Nat.le_trans hmono hz)
  unfold FilC at hC
  have hI:=ih (i+1) (Zb (opB s) (L.drop (k+1)) (k+1) (row.set k l[i],acc)).1 (Zb (opB s) (L.drop (k+1)) (k+1) (row.set k l[i],acc)).2 (by omega) (by omega) hlen hz
  refine At.tree (Z3 Z2 (Zw _ _)) (ZaC s (lisD L) (intC .i64 row) (intC .i64 l) (intC .i64 (Zb (opB s) (L.drop (k+1)) (k+1) (row.set k l[i],acc)).1) (intD acc) (intD acc) (intD (Zb (opB s) (L.drop (k+1)) (k+1) (row.set k l[i],acc)).2) (intD (Zb (opB s) (L.drop (k+1)) (k+1) (row.set k l[i],acc)).2) k l.length i l[i]) ?_
  simp only[SS,Zy,Z6x]
  refine⟨fun _=>⟨⟨by omega,QV h1⟩,by omega,by omega,by omega,hC,by omega,hI⟩,fun h=>by omega⟩
theorem Zlr (s:LU) (L:List (List Int)) (hL:L.length<=1073741824) (hl: ∀ l∈L,l.length<=1073741824): ∀ (m k:Nat),L.length-k=m->k<=L.length-> ∀ row acc,row.length=L.length->(Zb (opB s) (L.drop k) k (row,acc)).2.length<=1000->FilC s L k row acc:=by
 intro m
 induction m with
 | zero =>
  intro k hm hk row acc hrow hz
  have e:L.drop k=[]:=List.drop_eq_nil_of_le (by omega)
  unfold FilC
  rw[e] at hz ⊢
  simp only[Zb] at hz ⊢
  refine CallL.tree Z4 Zg1 (Z3 Z2 (Zw _ _)) (Zdu s (lisD L) (intC .i64 row) [] (intC .i64 row) (intD acc) (intD acc) (intD (opB s row acc)) (intD (opB s row acc)) k) ?_
  simp only[SS,Qw]
  exact⟨fun _=>⟨Zdx s L row acc (by omega) hz,rfl⟩,fun h=>by omega⟩
 | succ m ih =>
  intro k hm hk row acc hrow hz
  have h1:k<L.length:=by omega
  have hA:=Zls s L k h1 hL L[k] (hl _ (List.getElem_mem h1)) (fun row acc hr hz=>ih (k+1) (by omega) (by omega) row acc hr hz) _ 0 row acc rfl (Nat.zero_le _) hrow
  unfold FilC
  rw[Za h1] at hz ⊢
  simp only[Zb] at hz ⊢
  simp only[List.drop_zero] at hA
  refine CallL.tree Z4 Zg1 (Z3 Z2 (Zw _ _)) (Zdu s (lisD L) (intC .i64 row) (intC .i64 L[k]) [] (intD acc) (intD acc) [] [] k) ?_
  simp only[SS,Qw,Zy]
  exact⟨fun h=>by omega,fun _=>⟨⟨by omega,Z6v h1⟩,hA hz⟩⟩
theorem ZeE (s:LU) (L:List (List Int)) (hL:L.length<=1073741824) (hl: ∀ l∈L,l.length<=1073741824) (hz:(Zb (opB s) L 0 (List.replicate L.length 0,[])).2.length<=1000) :
  CallL Tryz.prog (.func (.func 139) [] [.ptr 0 0]) [.yld 1] (obO s (lisD L) [] []) fun r ob=>r= .tuple []/\ob=obO s (lisD L) (intD (Zb (opB s) L 0 (List.replicate L.length 0,[])).2) (intD (Zb (opB s) L 0 (List.replicate L.length 0,[])).2):=by
 have hF:=Zlr s L hL hl _ 0 rfl (Nat.zero_le _) (List.replicate L.length 0) [] (by simp) (by rw[List.drop_zero]; exact hz)
 unfold FilC at hF
 rw[List.drop_zero] at hF
 have e:intC .i64 (List.replicate L.length 0)=List.replicate L.length [.int .i64 0]:=by simp[intC]
 refine CallL.tree Z4 ZkW (Z3 Z2 (Zw _ _)) (Znk s (lisD L) [] [] (intC .i64 (Zb (opB s) L 0 (List.replicate L.length 0,[])).1) (intD (Zb (opB s) L 0 (List.replicate L.length 0,[])).2) (intD (Zb (opB s) L 0 (List.replicate L.length 0,[])).2)) ?_
 simp only[SS,Qw]
 rw[<- e]
 exact⟨⟨by omega,by omega,by omega⟩,hF,rfl⟩
end Go.Proofs.YtobgkdlghljdlaaGreatDoor
/- Bindings: trees. -/
namespace Go.Proofs.YtobgkdlghljdlaaGreatDoor
open Go.Sx
def mCtr (l:List (Nat × D)) (e:List (Nat × List D):=[]) (c:List (Nat × D):=[]):Ctr:=⟨fun t f az=>match lk l t with | some r=>some (.ok (FK f az r) r []) | none=>none,
 fun t d xs ob=>match lk c t with | some r=>some (.ok (CallL Tryz.prog d xs ob fun r0 o=>r0=r/\o=ob) r ob) | none=>none,fun t _=>(lk e t).getD []⟩
theorem Z5 {l:List (Nat × D)} {e:List (Nat × List D)} {c:List (Nat × D)}:(mCtr l e c).OK Tryz.prog:=by
 refine⟨fun t f az rt h=> ?_,fun t d az ob rt h=> ?_⟩
 ·simp only[mCtr] at h
  split at h
  ·cases h; exact fun hp=>hp
  ·cases h
 ·simp only[mCtr] at h
  split at h
  ·cases h; exact fun hp=>hp
  ·cases h
abbrev bC (m:LU) (k n:Int) (s:LU) (a:LD):List D:=[.str m,.int .u8 k,.int .i64 n,.str s,.slice a []]
theorem ZmH (es:LD):gP (mCtr []) rs13 sc13 [dL es []]=(Jm (cut sc13 0) { tm:=[(0,dL es []),(5,dL es []),(6,dI (↑(List.length es):Int)),(7,dI (0:Int))],ob:=[] }:Tr):=by kernel_rfl
def hdVa (es:LD) (m i:Int):St:=⟨[(0,.slice es []),(5,.slice es []),(6,.int .i64 m),(7,.int .i64 i)],[]⟩
theorem Z5L (es:LD) (mm:Int) (i:Nat) (m:LU) (k n:Int) (s:LU) (a:LD) (m':LU) (k' n':Int) (s':LU) (a':LD) (v w:Bool):let A:=[(0,dL es []),(5,dL es []),(6,dI mm),(7,dI ((↑i:Int)+(1:Int)))];let B:=Rt (dB false) [];let C:=cut sc13 0;let E:=((↑i:Int)-(1:Int));let F:=((↑i:Int)+(1:Int));gH (mCtr [(14,dB v),(19,dB w)] [(10,bC m k n s a),(31,bC m' k' n' s' a')]) 0 true rs13 C (hdVa es mm (↑i:Int))=(brT (decide ((↑i:Int)<mm)) (Ow ((0:Int)<=(↑i:Int)/\es[Int.toNat (↑i:Int)]? = some (bC m k n s a)) (Ow (FK 26 [dS m] (dB v)) (brT (!v) B (Ow (FK 16 [dA (tC k n s a)] (dB w)) (brT (!w) B (brT (decide ((0:Int)<(↑i:Int))) (I8 E (Ow ((0:Int)<=(↑i:Int)-(1:Int)/\es[Int.toNat E]? = some (bC m' k' n' s' a')) (brT (Op.bytesLess m m' || decide (m=m')) B (I8 F (Jm C { tm:=A,ob:=[] }))))) (I8 F (Jm C { tm:=A,ob:=[] })))))))) (Rt (dB true) []):Tr):=by intro A B C E F;kernel_rfl
theorem ZmM (es:LD) (s:LU) (i:Int) (b:Bool):let A:=[dI i,dB b];gP (mCtr [] [] [(8,D.tuple A)]) rs82 sc82 [dL es [],dS s]=(Ow (CF 111 [dL es [],dS s,dF 112 [] []] [] fun r0 o=>r0=D.tuple A/\o=[]) (Rt (D.tuple A) []):Tr):=by intro A;kernel_rfl
theorem ZmN (m:LU) (k n:Int) (s:LU) (a:LD) (t:LU) (c:Int):gC (mCtr [(8,dI c)]) 0 Zf6 Zeq [] [dA (bC m k n s a),dS t] [] []=(Ow (FK 96 [dS m,dS t] (dI c)) (Rt (dI c) []):Tr):=by kernel_rfl
theorem ZmQ (es:LD) (s:LU):let A:=(↑(List.length es):Int);gC (mCtr []) 0 Z7n Z4Z [] [dL es [],dS s,dF 112 [] []] [] []=(Jm (cut Z4Z 0) { tm:=[(0,dL es []),(1,dS s),(2,dF 112 [] []),(8,dI A),(9,dI (0:Int)),(10,dI A)],ob:=[] }:Tr):=by intro A;kernel_rfl
def hdBs (es:LD) (s:LU) (n i j:Int):St:=⟨[(0,.slice es []),(1,.str s),(2,.func (.func 112) [] []),(8,.int .i64 n),(9,.int .i64 i),(10,.int .i64 j)],[]⟩
theorem Z5P (es:LD) (t:LU) (nn i j:Int) (m:LU) (k n:Int) (s:LU) (a:LD) (c:Int):let A:=IntKind.wrap IntKind.u64 (i+j);let B:=(shI false IntKind.u64 A (1:Int));let C:=(shI false IntKind.u64 A (1:Int)+(1:Int));let E:=bC m k n s a;let F:=cut Z4Z 0;let G:=(2,dF 112 [] []);let H:=(0,dL es []);let I:=[dA E,dS t];gH (mCtr [] [(27,bC m k n s a),(43,bC m k n s a)] [(30,dI c),(46,dI c)]) 0 false Z7n F (hdBs es t nn i j)=(brT (decide (i<j)) (I8 (i+j) (Ow ((0:Int)<=(1:Int)) (I8 B (Ow ((0:Int)<=shI false IntKind.u64 A (1:Int)/\es[Int.toNat B]? = some E) (Ow (CF 112 I [] fun r0 o=>r0=dI c/\o=[]) (brT (decide (c<(0:Int))) (I8 C (Jm F { tm:=[H,(1,dS t),G,(8,dI nn),(9,dI C),(10,dI j)],ob:=[] })) (Jm F { tm:=[H,(1,dS t),G,(8,dI nn),(9,dI i),(10,dI B)],ob:=[] }))))))) (brT (decide (i<nn)) (Ow ((0:Int)<=i/\es[Int.toNat i]? = some E) (Ow (CF 112 I [] fun r0 o=>r0=dI c/\o=[]) (Rt (D.tuple [dI i,dB (decide (c=(0:Int)))]) []))) (Rt (D.tuple [dI i,dB false]) [])):Tr):=by intro A B C E F G H I;kernel_rfl
abbrev obT (es:LD):Obs:=[(0,.cells [.slice es []])]
theorem Zar (es:LD) (t:LU) (i:Int) (b:Bool) (m:LU) (k n:Int) (s:LU) (a:LD):let A:=[(0,oC [dL es []])];let B:=[dI i,dB b];gC (mCtr [(14,D.tuple B)] [(25,bC m k n s a)]) 1 rs42 sc42 [] [dP 0 0,dS t] [] (obT es)=(Ow (FK 82 [dL es [],dS t] (D.tuple B)) (brT (!b) (Rt (D.tuple [dA [dU (0:Int),dI (0:Int),dS [],dL [] []],dB false]) A) (Ow ((0:Int)<=i/\es[Int.toNat i]? = some (bC m k n s a)) (Rt (D.tuple [dA (tC k n s a),dB true]) A))):Tr):=by intro A B;kernel_rfl
abbrev obP (es:LD):Obs:=[(0,.cells [.ptr 1 0]),(1,.cells [.slice es []])]
theorem Zas (es:LD) (k n:Int) (s:LU) (a:LD) (kv nv:Int) (sv:LU) (av:LD) (b:Bool):let A:=[dA (tC kv nv sv av),dB b];let B:=[(0,oC [dP 1 0]),(1,oC [dL es []])];let C:=[(0,oC [dL es []])];gC (mCtr [] [] [(12,D.tuple A)]) 2 Zb9 Zb1 [] [dA (tC k n s a)] [dP 0 0] (obP es)=(brT (!decide (k=(3:Int))) (Rt (D.tuple [dA [dU (0:Int),dI (0:Int),dS [],dL [] []],dB false]) B) (Ow (CF 42 [dP 0 0,dS s] C fun r0 o=>r0=D.tuple A/\o=C) (Rt (D.tuple A) B)):Tr):=by intro A B C;kernel_rfl
theorem ZmP (k n:Int) (s:LU) (a:LD):gC (mCtr []) 0 rs83 sc83 [] [dA (tC k n s a)] [] []=(Rt (D.tuple [dA [dU (0:Int),dI (0:Int),dS [],dL [] []],dB false]) []:Tr):=by kernel_rfl
abbrev f0:D:= .func (.func 83) [] []
abbrev fA:D:= .func (.func 113) [] [.ptr 0 0]
theorem ZmI (k n:Int) (s:LU) (a a':LD) (kv nv:Int) (sv:LU) (av:LD) (b:Bool):let A:=tC kv nv sv av;let B:=tC k n s a;let C:=[dA A,dB b];gC (mCtr [(15,dA A)] [] [(10,D.tuple C),(19,dL a' [])]) 0 rs45 sc45 [] [f0,dA B] [] []=(Ow (CF 83 [dA B] [] fun r0 o=>r0=D.tuple C/\o=[]) (brT b (Ow (FK 43 [dA A] (dA A)) (Rt (dA A) [])) (Ow (CF 85 [dF 83 [] [],dL a []] [] fun r0 o=>r0=dL a' []/\o=[]) (Rt (dA (tC k n s a')) []))):Tr):=by intro A B C;kernel_rfl
theorem Zdj (es:LD) (k n:Int) (s:LU) (a a':LD) (kv nv:Int) (sv:LU) (av:LD) (b:Bool):let A:=[(0,oC [dP 1 0]),(1,oC [dL es []])];let B:=tC kv nv sv av;let C:=tC k n s a;let E:=[dA B,dB b];gC (mCtr [(15,dA B)] [] [(10,D.tuple E),(19,dL a' [])]) 2 rs45 sc45 [] [fA,dA C] [] (obP es)=(Ow (CallL Tryz.prog (dF 113 [] [dP 0 0]) [dA C] A fun r0 o=>r0=D.tuple E/\o=A) (brT b (Ow (FK 43 [dA B] (dA B)) (Rt (dA B) A)) (Ow (CF 85 [dF 113 [] [dP 0 0],dL a []] A fun r0 o=>r0=dL a' []/\o=A) (Rt (dA (tC k n s a')) A))):Tr):=by intro A B C E;kernel_rfl
theorem ZmL (l:LD):gC (mCtr []) 0 rs85 sc85 [] [f0,dL l []] [] []=(Jm (cut sc85 0) { tm:=[(0,dF 83 [] []),(4,dV 0),(7,dL l []),(8,dI (↑(List.length l):Int)),(9,dI (0:Int))],ob:=[(0,oR true 4 35 [])] }:Tr):=by kernel_rfl
theorem ZmK (es l:LD):gC (mCtr []) 2 rs85 sc85 [] [fA,dL l []] [] (obP es)=(Jm (cut sc85 0) { tm:=[(0,dF 113 [] [dP 0 0]),(4,dV 2),(7,dL l []),(8,dI (↑(List.length l):Int)),(9,dI (0:Int))],ob:=[(0,oC [dP 1 0]),(1,oC [dL es []]),(2,oR true 4 35 [])] }:Tr):=by kernel_rfl
theorem ZmO (k n:Int) (s:LU) (a:LD) (kv nv:Int) (sv:LU) (av:LD):let A:=tC kv nv sv av;let B:=tC k n s a;gP (mCtr [] [] [(4,dA A)]) rs43 sc43 [dA B]=(Ow (CF 45 [dF 83 [] [],dA B] [] fun r0 o=>r0=dA A/\o=[]) (Rt (dA A) []):Tr):=by intro A B;kernel_rfl
end Go.Proofs.YtobgkdlghljdlaaGreatDoor
/- Bindings: more trees. -/
namespace Go.Proofs.YtobgkdlghljdlaaGreatDoor
open Go.Sx
def hdT0 (l row:LD) (m i:Int):St:=⟨[(0,f0),(4,.vec 0),(7,.slice l []),(8,.int .i64 m),(9,.int .i64 i)],[(0,.arr true 4 35 row)]⟩
def hdTA (es l row:LD) (m i:Int):St:=⟨[(0,fA),(4,.vec 2),(7,.slice l []),(8,.int .i64 m),(9,.int .i64 i)],[(0,.cells [.ptr 1 0]),(1,.cells [.slice es []]),(2,.arr true 4 35 row)]⟩
theorem Zaq (l row:LD) (m:Int) (i:Nat) (kx nx:Int) (sx:LU) (ax:LD) (ky ny:Int) (sy:LU) (ay:LD):let A:=tC ky ny sy ay;let B:=((↑i:Int)+(1:Int));let C:=tC kx nx sx ax;let E:=cut sc85 0;gH (mCtr [] [(11,tC kx nx sx ax)] [(16,dA A)]) 0 false rs85 E (hdT0 l row m (↑i:Int))=(brT (decide ((↑i:Int)<m)) (Ow ((0:Int)<=(↑i:Int)/\l[Int.toNat (↑i:Int)]? = some C) (Ow (CF 45 [dF 83 [] [],dA C] [] fun r0 o=>r0=dA A/\o=[]) (Ow (Zc 4 [A]/\List.length row+1<=1073741824) (I8 B (Jm E { tm:=[(0,dF 83 [] []),(4,dV 0),(7,dL l []),(8,dI m),(9,dI B)],ob:=[(0,oR true 4 35 (row++[A]))] }))))) (Rt (dV 0) [(0,oR true 4 35 row)]):Tr):=by intro A B C E;kernel_rfl
theorem Zap (es l row:LD) (m:Int) (i:Nat) (kx nx:Int) (sx:LU) (ax:LD) (ky ny:Int) (sy:LU) (ay:LD):let A:=(1,oC [dL es []]);let B:=tC ky ny sy ay;let C:=(0,oC [dP 1 0]);let E:=((↑i:Int)+(1:Int));let F:=tC kx nx sx ax;let G:=cut sc85 0;gH (mCtr [] [(11,tC kx nx sx ax)] [(16,dA B)]) 2 false rs85 G (hdTA es l row m (↑i:Int))=(brT (decide ((↑i:Int)<m)) (Ow ((0:Int)<=(↑i:Int)/\l[Int.toNat (↑i:Int)]? = some F) (Ow (CF 45 [dF 113 [] [dP 0 0],dA F] [C,A] fun r0 o=>r0=dA B/\o=[C,A]) (Ow (Zc 4 [B]/\List.length row+1<=1073741824) (I8 E (Jm G { tm:=[(0,dF 113 [] [dP 0 0]),(4,dV 2),(7,dL l []),(8,dI m),(9,dI E)],ob:=[C,A,(2,oR true 4 35 (row++[B]))] }))))) (Rt (dV 2) [C,A,(2,oR true 4 35 row)]):Tr):=by intro A B C E F G;kernel_rfl
theorem ZmR (es:LD):gC (mCtr []) 1 rs84 sc84 [] [dP 0 0] [] (obT es)=(Rt (dF 113 [] [dP 1 0]) [(0,oC [dL es []]),(1,oC [dP 0 0])]:Tr):=by kernel_rfl
def ayQ:QT:=fun d xs ob=>match d,xs,ob with
 | .func (.func f) [] [],[.ptr 0 0],[(0,.cells [.slice es []])]=>if f=84 then some (.ok True (.func (.func 113) [] [.ptr 1 0]) [(0,.cells [.slice es []]),(1,.cells [.ptr 0 0])]) else none
 | _,_,_=>none
def qCtr (l:List (Nat × D)) (q:QT):Ctr:=dCtr l [] q
theorem ZmS (es:LD) (b:Bool):let A:=dF 113 [] [dP 0 0];let B:=[dL es []];let C:=(0,oC [dP 1 0]);gC (qCtr [(4,dB b)] ayQ) 0 rs44 sc44 [] B [] []=(Ow (FK 13 B (dB b)) (brT (!b) (Ow True (Rt A [C,(1,oC [dL [] []])])) (Ow True (Rt A [C,(1,oC B)]))):Tr):=by intro A B C;kernel_rfl
def ZgC (es':LD) (r:D):QT:=fun d xs ob=>match d with
 | .func (.func f) [] []=>if f=44 then some (.ok (CallL Tryz.prog d xs ob fun r0 o=>r0=fA/\o=obP es') fA (obP es')) else if f=45 then some (.ok (CallL Tryz.prog d xs ob fun r0 o=>r0=r/\o=ob) r ob) else none
 | _=>none
theorem Zcd (es':LD) (r:D):(ZgC es' r).OK:=by
 intro d xs ob rt h
 unfold ZgC at h
 split at h
 ·split at h
  ·cases h; exact fun hp=>hp
  ·split at h
   ·cases h; exact fun hp=>hp
   ·cases h
 ·cases h
theorem ZmT (es es':LD) (k n:Int) (s:LU) (a:LD) (kv nv:Int) (sv:LU) (av:LD):let A:=[(0,oC [dP 1 0]),(1,oC [dL es' []])];let B:=tC kv nv sv av;let C:=tC k n s a;gP (qCtr [] (ZgC es' (dA B))) rs20 sc20 [dA C,dL es []]=(Ow (CF 44 [dL es []] [] fun r0 o=>r0=dF 113 [] [dP 0 0]/\o=A) (Ow (CF 45 [dF 113 [] [dP 0 0],dA C] A fun r0 o=>r0=dA B/\o=A) (Rt (dA B) [])):Tr):=by intro A B C;kernel_rfl
end Go.Proofs.YtobgkdlghljdlaaGreatDoor
