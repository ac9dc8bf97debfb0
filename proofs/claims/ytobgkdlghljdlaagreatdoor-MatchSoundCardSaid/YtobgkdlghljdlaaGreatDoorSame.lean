/- Own work: a layer over the kit: plain data,a walk over it,its soundness. -/
import Derived.Test.YtobgkdlghljdlaaGreatDoorArA
import Derived.Test.YtobgkdlghljdlaaGreatDoorSx8
import Derived.Test.YtobgkdlghljdlaaGreatDoorShape
set_option linter.unusedSectionVars false
set_option linter.unusedVariables false
set_option linter.unusedSimpArgs false
set_option linter.deprecated false
set_option maxRecDepth 100000
/- The same by the kit. -/
namespace Go.Proofs.YtobgkdlghljdlaaGreatDoor
open Go.Sx
theorem PSS_eq (a a':LD):goT Tryz.prog (ctr libT) 0 (finF true 0 rs50) 2000 [Fr.sc sc50] { tm:=envOf 0 [dL a [],dL a' []],ob:=[] }=(brT (!decide ((↑(List.length a):Int)=(↑(List.length a'):Int))) (Rt (dB false) []) (Jm (cut sc50 0) { tm:=[(0,dL a []),(1,dL a' []),(5,dI (0:Int))],ob:=[] }):Tr):=by kernel_rfl
def hdSS (a a':LD) (i:Int):St:=⟨[(0,.slice a []),(1,.slice a' []),(5,.int .i64 i)],[]⟩
theorem PSS2_eq (a a':LD) (i kx nx:Int) (sx:LU) (ax:LD) (ky ny:Int) (sy:LU) (ay:LD) (c:Bool):goT Tryz.prog (ctr (asmP (dB c)) qnone (eTwo 19 [dU kx,dI nx,dS sx,dL ax []] [dU ky,dI ny,dS sy,dL ay []])) 0 (finF true 0 rs50) 2000 (cut sc50 0) (hdSS a a' i)=(brT (decide (i<(↑(List.length a):Int))) (Ow ((0:Int)<=i/\a[Int.toNat i]? = some [dU kx,dI nx,dS sx,dL ax []]) (Ow ((0:Int)<=i/\a'[Int.toNat i]? = some [dU ky,dI ny,dS sy,dL ay []]) (Ow (FK 24 [dA [dU kx,dI nx,dS sx,dL ax []],dA [dU ky,dI ny,dS sy,dL ay []]] (dB c)) (brT (!c) (Rt (dB false) []) (Ow ((-9223372036854775808:Int)<=i+(1:Int)/\i+(1:Int)<=(9223372036854775807:Int)) (Jm (cut sc50 0) { tm:=[(0,dL a []),(1,dL a' []),(5,dI (i+(1:Int)))],ob:=[] })))))) (Rt (dB true) []):Tr):=by kernel_rfl
theorem PST_eq (k n:Int) (s:LU) (a:LD) (k' n':Int) (s':LU) (a':LD) (c:Bool):goT Tryz.prog (ctr (asmP (dB c))) 0 (finF true 0 rs24) 2000 [Fr.sc sc24] { tm:=envOf 0 [dA [dU k,dI n,dS s,dL a []],dA [dU k',dI n',dS s',dL a' []]],ob:=[] }=(brT (decide (k=k')) (brT (decide (n=n')) (brT (decide (s=s')) (Ow (FK 50 [dL a [],dL a' []] (dB c)) (Rt (dB c) [])) (Rt (dB false) [])) (Rt (dB false) [])) (Rt (dB false) []):Tr):=by kernel_rfl
def SaP (x y:Tm):Prop:=FK 24 [.agg x.cells,.agg y.cells] (.bool (x.eqb y))
theorem ss_at (l q:List Tm) (hlq:l.length=q.length) (hl:l.length<=281474976710656) (H: ∀ x∈l, ∀ y∈q,SaP x y): ∀ (m i:Nat),l.length-i=m->i<=l.length →
  At Tryz.prog 0 (cut sc50 0) (hdSS (Tm.cellsL l) (Tm.cellsL q) i) (FinQ true 0 rs50 fun r _=>r= .bool (Tm.eqbL (l.drop i) (q.drop i))):=by
 intro m
 induction m with
 | zero =>
  intro i hm hi
  refine At.tree (ctr_ok (asmP_ok (.bool true)) qnone_ok) (PSS2_eq (Tm.cellsL l) (Tm.cellsL q) i 0 0 [] [] 0 0 [] [] true) ?_
  rw[List.drop_eq_nil_of_le (show l.length<=i by omega),List.drop_eq_nil_of_le (show q.length<=i by omega)]
  simp only[SS,cellsL_length]
  exact⟨fun h=>by omega,fun _=>rfl⟩
 | succ m ih =>
  intro i hm hi
  have h1:i<l.length:=by omega
  have h2:i<q.length:=by omega
  have hx:=cellsL_get h1
  have hy:=cellsL_get h2
  have hC:=H _ (List.getElem_mem h1) _ (List.getElem_mem h2)
  have hI:=ih (i+1) (by omega) (by omega)
  rw[drop_cons h1,drop_cons h2]
  simp only[Tm.eqbL]
  unfold SaP at hC
  generalize Tm.eqb l[i] q[i]=c at hC ⊢
  generalize l[i]=x at hx hC
  generalize q[i]=y at hy hC
  obtain⟨kx,nx,sx,ax⟩:=x
  obtain⟨ky,ny,sy,ay⟩:=y
  refine At.tree (ctr_ok (asmP_ok (.bool c)) qnone_ok) (PSS2_eq (Tm.cellsL l) (Tm.cellsL q) i kx nx sx (Tm.cellsL ax) ky ny sy (Tm.cellsL ay) c) ?_
  simp only[SS,cellsL_length]
  refine⟨fun _=>⟨⟨by omega,hx⟩,⟨by omega,hy⟩,hC,fun h=>by rw[h]; rfl,fun h=>⟨by omega, ?_⟩⟩,fun h=>by omega⟩
  rw[h,Bool.true_and]; exact hI
theorem eqbL_ne: ∀ {l q:List Tm},l.length≠q.length->Tm.eqbL l q=false:=fun {l q} h=>by
 rw[Bool.eq_false_iff]
 intro h2
 exact h (by rw[eqbL_eq.1 h2])
theorem ss_ok (l q:List Tm) (hl:l.length<=281474976710656) (H: ∀ x∈l, ∀ y∈q,SaP x y):FK 50 [.slice (Tm.cellsL l) [],.slice (Tm.cellsL q) []] (.bool (Tm.eqbL l q)):=by
 refine FnOK.tree hdraw fp50 (ctr_ok libT_ok qnone_ok) (PSS_eq (Tm.cellsL l) (Tm.cellsL q)) ?_
 have e2:((l.length:Int)=q.length)=(l.length=q.length):=propext (by omega)
 simp only[SS,cellsL_length,e2]
 exact⟨fun h4=>by rw[eqbL_ne h4],fun h4=>ss_at l q h4 hl H _ 0 rfl (Nat.zero_le _)⟩
theorem sa_ok: ∀ (x y:Tm),x.wf 281474976710656->y.wf 281474976710656->SaP x y
 | .mk k n s l,.mk k' n' s' l',hx,hy=>by
  simp only[Tm.wf] at hx hy
  obtain⟨hk,hn1,hn2,hs,hl,hw⟩:=hx
  obtain⟨hk',hn1',hn2',hs',hl',hw'⟩:=hy
  have hC:=ss_ok l l' hl (fun x hx y hy=>sa_ok x y (wf_get hw hx) (wf_get hw' hy))
  refine FnOK.tree hdraw fp24 (ctr_ok (asmP_ok (.bool (Tm.eqbL l l'))) qnone_ok) (PST_eq k n s (Tm.cellsL l) k' n' s' (Tm.cellsL l') (Tm.eqbL l l')) ?_
  have e1:((k:Int)=k')=(k=k'):=propext (by omega)
  simp only[SS,cellsL_length,Tm.eqb,e1]
  exact⟨fun h=>⟨fun h2=>⟨fun h3=>⟨hC,by simp[h,h2,h3]⟩,fun h3=>by simp[h3]⟩,fun h2=>by simp[h2]⟩,fun h=>by simp[h]⟩
termination_by x=>SizeOf.sizeOf x
decreasing_by
 have:=List.sizeOf_lt_of_mem hx
 simp only[Tm.mk.sizeOf_spec]
 omega
end Go.Proofs.YtobgkdlghljdlaaGreatDoor
/- arith.rows[int]. -/
namespace Go.Proofs.YtobgkdlghljdlaaGreatDoor
open Go.Sx
theorem CRw_eq (es ext:LD):goT Tryz.prog (ctr libT) 0 (finF false 0 rs118) 2000 [Fr.sc sc118] { tm:=envOf 0 ([]++[dL es ext]++[]),ob:=[] }=(Rt (dF 139 [] [dP 0 0]) [(0,oC [dL es ext])]:Tr):=by kernel_rfl
def rowsQ:QT:=fun d xs ob=>match d,xs,ob with
 | .func (.func f) [] [],[.slice es ext],[]=>if f=118 then some (.ok True (.func (.func 139) [] [.ptr 0 0]) [(0,.cells [.slice es ext])]) else none
 | _,_,_=>none
theorem rowsQ_ok:rowsQ.OK:=by
 intro d xs ob rt h
 unfold rowsQ at h
 split at h
 ·split at h
  ·rename_i hf
   subst hf
   cases h
   intro _
   exact CallL.tree hdraw fp118 (ctr_ok libT_ok qnone_ok) (CRw_eq _ _) ⟨rfl,rfl⟩
  ·cases h
 ·cases h
def asmA (r:D) (g:Obs->Obs):QT:=fun d xs ob=>some (.ok (CallL Tryz.prog d xs ob fun r0 ob0=>r0=r/\ob0=g ob) r (g ob))
theorem asmA_ok (r:D) (g:Obs->Obs):(asmA r g).OK:=by intro d xs ob rt h; cases h; exact fun hp=>hp
def keysOp:List Nat:=[28,27,2,5,8]
def dsOp (a b c d:Nat):List D:=[.func (.func 139) [] [.ptr a 0],.vec b,.ptr c 0,.vec b,.ptr d 0]
def recOp (st:LoopState) (pend:Option Code) (ds:List D):Ob:= .gen (.loop st pend #[29] (sc88.rngA 0) (sc88.rngB 0) 56 keysOp) ds
def obO (s:LU) (es:LD) (ks vs:List D):Obs:=[(0,.cells [.slice es []]),(1,recOp .ready none (dsOp 0 2 3 4)),(2,.arr true 1 110 es),(3,.cells [.str s]),(4,.cells [.map 5]),(5,.gen (.mapC ks vs) [])]
def obF (s:LU) (es row:LD) (ks vs:List D):Obs:=[(0,.cells [.slice es []]),(1,.cells [.yld 4]),(2,.cells [.vec 5]),(3,.cells [.func (.func 140) [] [.ptr 0 0,.ptr 1 0,.ptr 2 0,.ptr 3 0]]),
 (4,.gen (.loop .ready none #[29] (sc88.rngA 0) (sc88.rngB 0) 56 [28,27,2,5,8]) [.func (.func 139) [] [.ptr 0 0],.vec 6,.ptr 7 0,.vec 6,.ptr 8 0]),(5,.arr false 1 3 row),(6,.arr true 1 110 es),(7,.cells [.str s]),(8,.cells [.map 9]),(9,.gen (.mapC ks vs) [])]
def updO (row:LD) (ks vs:List D):Obs->Obs
 | []=>[]
 | (i,.arr false sz e _)::r=>(i,.arr false sz e row)::updO row ks vs r
 | (i,.gen (.mapC _ _) [])::r=>(i,.gen (.mapC ks vs) [])::updO row ks vs r
 | x::r=>x::updO row ks vs r
theorem CR1_eq (s:LU) (es:LD) (ks vs:List D) (row':LD) (ks' vs':List D):goT Tryz.prog (ctr libT (asmA (dB true) (updO row' ks' vs'))) 6 (finF false 6 rs139) 2000 [Fr.sc sc139] { tm:=envOf 0 ([]++[D.yld 1]++[dP 0 0]),ob:=obO s es ks vs }=(Ow ((0:Int)<=(↑(List.length es):Int)/\(↑(List.length es):Int)*(8:Int)<=(281474976710656:Int)/\(↑(List.length es):Int)<=(1073741824:Int)) (Ow (CallL Tryz.prog (dF 140 [] [dP 0 0,dP 1 0,dP 2 0,dP 3 0]) [dI (0:Int)] [(0,oC [dL es []]),(1,oC [D.yld 4]),(2,oC [dV 5]),(3,oC [dF 140 [] [dP 0 0,dP 1 0,dP 2 0,dP 3 0]]),(4,Ob.gen (Gen.loop LoopState.ready none #[29] (SC.rngA sc88 0) (SC.rngB sc88 0) 56 [28,27,2,5,8]) [dF 139 [] [dP 0 0],dV 6,dP 7 0,dV 6,dP 8 0]),(5,oR false 1 3 (List.replicate (Int.toNat (↑(List.length es):Int)) [dI (0:Int)])),(6,oR true 1 110 es),(7,oC [dS s]),(8,oC [D.map 9]),(9,Ob.gen (Gen.mapC ks vs) [])] fun r0 ob0=>r0=dB true/\ob0=[(0,oC [dL es []]),(1,oC [D.yld 4]),(2,oC [dV 5]),(3,oC [dF 140 [] [dP 0 0,dP 1 0,dP 2 0,dP 3 0]]),(4,Ob.gen (Gen.loop LoopState.ready none #[29] (SC.rngA sc88 0) (SC.rngB sc88 0) 56 [28,27,2,5,8]) [dF 139 [] [dP 0 0],dV 6,dP 7 0,dV 6,dP 8 0]),(5,oR false 1 3 row'),(6,oR true 1 110 es),(7,oC [dS s]),(8,oC [D.map 9]),(9,Ob.gen (Gen.mapC ks' vs') [])]) (Rt (D.tuple []) [(0,oC [dL es []]),(1,Ob.gen (Gen.loop LoopState.ready none #[29] (SC.rngA sc88 0) (SC.rngB sc88 0) 56 [28,27,2,5,8]) [dF 139 [] [dP 0 0],dV 2,dP 3 0,dV 2,dP 4 0]),(2,oR true 1 110 es),(3,oC [dS s]),(4,oC [D.map 5]),(5,Ob.gen (Gen.mapC ks' vs') [])])):Tr):=by kernel_rfl
theorem CFl_eq (s:LU) (es row xs row':LD) (ks vs ks' vs':List D) (k:Int):goT Tryz.prog (ctr libT (asmA (dB true) (updO row' ks' vs')) (eOne [dL xs []])) 10 (finF false 10 rs140) 2000 [Fr.sc sc140] { tm:=envOf 0 ([]++[dI k]++[dP 0 0,dP 1 0,dP 2 0,dP 3 0]),ob:=obF s es row ks vs }=(brT (decide (k=(↑(List.length es):Int))) (Ow (CallL Tryz.prog (D.yld 0) [dV 1] [(0,Ob.gen (Gen.loop LoopState.ready none #[29] (SC.rngA sc88 0) (SC.rngB sc88 0) 56 [28,27,2,5,8]) [dF 139 [] [dP 2 0],dV 3,dP 4 0,dV 3,dP 5 0]),(1,oR false 1 3 row),(2,oC [dL es []]),(3,oR true 1 110 es),(4,oC [dS s]),(5,oC [D.map 6]),(6,Ob.gen (Gen.mapC ks vs) [])] fun r0 ob0=>r0=dB true/\ob0=[(0,Ob.gen (Gen.loop LoopState.ready none #[29] (SC.rngA sc88 0) (SC.rngB sc88 0) 56 [28,27,2,5,8]) [dF 139 [] [dP 2 0],dV 3,dP 4 0,dV 3,dP 5 0]),(1,oR false 1 3 row'),(2,oC [dL es []]),(3,oR true 1 110 es),(4,oC [dS s]),(5,oC [D.map 6]),(6,Ob.gen (Gen.mapC ks' vs') [])]) (Rt (dB true) [(0,oC [dL es []]),(1,oC [D.yld 4]),(2,oC [dV 5]),(3,oC [dF 140 [] [dP 0 0,dP 1 0,dP 2 0,dP 3 0]]),(4,Ob.gen (Gen.loop LoopState.ready none #[29] (SC.rngA sc88 0) (SC.rngB sc88 0) 56 [28,27,2,5,8]) [dF 139 [] [dP 0 0],dV 6,dP 7 0,dV 6,dP 8 0]),(5,oR false 1 3 row'),(6,oR true 1 110 es),(7,oC [dS s]),(8,oC [D.map 9]),(9,Ob.gen (Gen.mapC ks' vs') [])])) (Ow ((0:Int)<=k/\es[Int.toNat k]? = some [dL xs []]) (Jm (cut sc140 0) { tm:=[(0,dI k),(3,dP 2 0),(4,dP 3 0),(19,dL xs []),(20,dI (↑(List.length xs):Int)),(21,dI (0:Int))],ob:=[(0,oC [dL es []]),(1,oC [D.yld 4]),(2,oC [dV 5]),(3,oC [dF 140 [] [dP 0 0,dP 1 0,dP 2 0,dP 3 0]]),(4,Ob.gen (Gen.loop LoopState.ready none #[29] (SC.rngA sc88 0) (SC.rngB sc88 0) 56 [28,27,2,5,8]) [dF 139 [] [dP 0 0],dV 6,dP 7 0,dV 6,dP 8 0]),(5,oR false 1 3 row),(6,oR true 1 110 es),(7,oC [dS s]),(8,oC [D.map 9]),(9,Ob.gen (Gen.mapC ks vs) [])] })):Tr):=by kernel_rfl
def hdF (k m i:Int) (xs:LD) (ob:Obs):St:=⟨[(0,.int .i64 k),(3,.ptr 2 0),(4,.ptr 3 0),(19,.slice xs []),(20,.int .i64 m),(21,.int .i64 i)],ob⟩
theorem CFl2_eq (s:LU) (es row xs row':LD) (ks vs ks' vs':List D) (k m:Int) (i:Nat) (x:Int):goT Tryz.prog (ctr libT (asmA (dB true) (updO row' ks' vs')) (eOne [dI x])) 10 (finF false 10 rs140) 2000 (cut sc140 0) (hdF k m (↑i:Int) xs (obF s es row ks vs))=(brT (decide ((↑i:Int)<m)) (Ow ((0:Int)<=(↑i:Int)/\xs[Int.toNat (↑i:Int)]? = some [dI x]) (Ow ((0:Int)<=k/\k<(↑(List.length row):Int)) (Ow (Int.toNat k<List.length row) (Ow ((-9223372036854775808:Int)<=k+(1:Int)/\k+(1:Int)<=(9223372036854775807:Int)) (Ow (CallL Tryz.prog (dF 140 [] [dP 0 0,dP 1 0,dP 2 0,dP 3 0]) [dI (k+(1:Int))] [(0,oC [dL es []]),(1,oC [D.yld 4]),(2,oC [dV 5]),(3,oC [dF 140 [] [dP 0 0,dP 1 0,dP 2 0,dP 3 0]]),(4,Ob.gen (Gen.loop LoopState.ready none #[29] (SC.rngA sc88 0) (SC.rngB sc88 0) 56 [28,27,2,5,8]) [dF 139 [] [dP 0 0],dV 6,dP 7 0,dV 6,dP 8 0]),(5,oR false 1 3 (List.set row (Int.toNat k) [dI x])),(6,oR true 1 110 es),(7,oC [dS s]),(8,oC [D.map 9]),(9,Ob.gen (Gen.mapC ks vs) [])] fun r0 ob0=>r0=dB true/\ob0=[(0,oC [dL es []]),(1,oC [D.yld 4]),(2,oC [dV 5]),(3,oC [dF 140 [] [dP 0 0,dP 1 0,dP 2 0,dP 3 0]]),(4,Ob.gen (Gen.loop LoopState.ready none #[29] (SC.rngA sc88 0) (SC.rngB sc88 0) 56 [28,27,2,5,8]) [dF 139 [] [dP 0 0],dV 6,dP 7 0,dV 6,dP 8 0]),(5,oR false 1 3 row'),(6,oR true 1 110 es),(7,oC [dS s]),(8,oC [D.map 9]),(9,Ob.gen (Gen.mapC ks' vs') [])]) (Ow ((-9223372036854775808:Int)<=(↑i:Int)+(1:Int)/\(↑i:Int)+(1:Int)<=(9223372036854775807:Int)) (Jm (cut sc140 0) { tm:=[(0,dI k),(3,dP 2 0),(4,dP 3 0),(19,dL xs []),(20,dI m),(21,dI ((↑i:Int)+(1:Int)))],ob:=[(0,oC [dL es []]),(1,oC [D.yld 4]),(2,oC [dV 5]),(3,oC [dF 140 [] [dP 0 0,dP 1 0,dP 2 0,dP 3 0]]),(4,Ob.gen (Gen.loop LoopState.ready none #[29] (SC.rngA sc88 0) (SC.rngB sc88 0) 56 [28,27,2,5,8]) [dF 139 [] [dP 0 0],dV 6,dP 7 0,dV 6,dP 8 0]),(5,oR false 1 3 row'),(6,oR true 1 110 es),(7,oC [dS s]),(8,oC [D.map 9]),(9,Ob.gen (Gen.mapC ks' vs') [])] }))))))) (Rt (dB true) [(0,oC [dL es []]),(1,oC [D.yld 4]),(2,oC [dV 5]),(3,oC [dF 140 [] [dP 0 0,dP 1 0,dP 2 0,dP 3 0]]),(4,Ob.gen (Gen.loop LoopState.ready none #[29] (SC.rngA sc88 0) (SC.rngB sc88 0) 56 [28,27,2,5,8]) [dF 139 [] [dP 0 0],dV 6,dP 7 0,dV 6,dP 8 0]),(5,oR false 1 3 row),(6,oR true 1 110 es),(7,oC [dS s]),(8,oC [D.map 9]),(9,Ob.gen (Gen.mapC ks vs) [])]):Tr):=by kernel_rfl
theorem CLim_eq (n:Int):goT Tryz.prog (ctr libT) 0 (finF true 0 rs116) 2000 [Fr.sc sc116] { tm:=envOf 0 [dI n],ob:=[] }=(brT (decide ((1000:Int)<n)) Tr.bad (Rt (dI n) []):Tr):=by kernel_rfl
theorem lim_ok (n:Int) (h:n<=1000):FK 116 [.int .i64 n] (.int .i64 n):=by
 refine FnOK.tree hdraw fp116 (ctr_ok libT_ok qnone_ok) (CLim_eq n) ?_
 rw[ok_br]
 refine⟨fun h=> ?_,fun _=>rfl⟩
 have:=of_decide_eq_true h
 omega
def limP:PT:=fun f xs=>match xs with
 | [.int .i64 n]=>if f=116 then some (.ok (n<=1000) (.int .i64 n) []) else none
 | _=>none
theorem limP_ok:limP.OK:=by
 intro f xs rt h
 unfold limP at h
 split at h
 ·split at h
  ·rename_i hf; subst hf; cases h; exact fun hp=>lim_ok _ hp
  ·cases h
 ·cases h
def obY (s:LU) (es row:LD) (ks vs:List D):Obs:=[(1,.arr false 1 3 row),(2,.cells [.slice es []]),(3,.arr true 1 110 es),(4,.cells [.str s]),(5,.cells [.map 6]),(6,.gen (.mapC ks vs) [])]
def eMap (ks vs:List D) (r:D):Nat->Int->List D:=fun _ n=>if n= -1 then [.agg ks,.agg vs] else [r]
theorem TyO_eq (s:LU) (es row:LD) (ks vs ks' vs':List D) (b:Bool) (n m:Int):yldT Tryz.prog (ctr limP (asmA (D.tuple [dI n,dB b]) id) (eMap ks' vs' (dI m))) 7 0 56 #[29] (SC.rngA sc88 0) (SC.rngB sc88 0) keysOp (dsOp 2 3 4 5) 2000 { tm:=putP (List.zip [29] [dV 1]) (List.zip keysOp (dsOp 2 3 4 5)),ob:=obY s es row ks vs }=(Ow (CF 119 [dS s,dV 0] [(0,oR false 1 3 row)] fun r0 ob0=>r0=D.tuple [dI n,dB b]/\ob0=[(0,oR false 1 3 row)]) (brT b (Ow (mput (dI n) (dI n) ks vs=some (ks',vs')) (Ow (some (dI (↑(List.length ks'):Int))=some (dI m)) (Ow (m<=(1000:Int)) (Rt (dB true) [(0,Ob.gen (Gen.loop LoopState.ready none #[29] (SC.rngA sc88 0) (SC.rngB sc88 0) 56 [28,27,2,5,8]) [dF 139 [] [dP 2 0],dV 3,dP 4 0,dV 3,dP 5 0]),(1,oR false 1 3 row),(2,oC [dL es []]),(3,oR true 1 110 es),(4,oC [dS s]),(5,oC [D.map 6]),(6,Ob.gen (Gen.mapC ks' vs') [])])))) (Rt (dB true) [(0,Ob.gen (Gen.loop LoopState.ready none #[29] (SC.rngA sc88 0) (SC.rngB sc88 0) 56 [28,27,2,5,8]) [dF 139 [] [dP 2 0],dV 3,dP 4 0,dV 3,dP 5 0]),(1,oR false 1 3 row),(2,oC [dL es []]),(3,oR true 1 110 es),(4,oC [dS s]),(5,oC [D.map 6]),(6,Ob.gen (Gen.mapC ks vs) [])])):Tr):=by kernel_rfl
def lisD (L:List (List Int)):LD:=L.map fun l=>[.slice (intC .i64 l) []]
theorem lisD_get {L:List (List Int)} {i:Nat} (h:i<L.length):(lisD L)[i]? = some [.slice (intC .i64 L[i]) []]:=by simp[lisD,h]
theorem lisD_len (L:List (List Int)):(lisD L).length=L.length:=by simp[lisD]
theorem intC_set {k:IntKind} (l:List Int) (i:Nat) (x:Int):(intC k l).set i [.int k x]=intC k (l.set i x):=by simp[intC,List.map_set]
theorem intD_len (l:List Int):(intD l).length=l.length:=by simp[intD]
theorem yldO_ok (s:LU) (L:List (List Int)) (row acc:List Int) (hr:row.length<=4611686018427387904) (h:(opB s row acc).length<=1000):CallL Tryz.prog (.yld 0) [.vec 1] ((0,recOp .ready none (dsOp 2 3 4 5))::obY s (lisD L) (intC .i64 row) (intD acc) (intD acc))
  fun r ob=>r= .bool true/\ob=(0,recOp .ready none (dsOp 2 3 4 5))::obY s (lisD L) (intC .i64 row) (intD (opB s row acc)) (intD (opB s row acc)):=by
 refine CallL.yldT hdraw (ctr_ok limP_ok (asmA_ok _ _)) rfl (TyO_eq s (lisD L) (intC .i64 row) (intD acc) (intD acc) (intD (opB s row acc)) (intD (opB s row acc)) (calcR s row).isSome ((calcR s row).getD 0) (opB s row acc).length) ?_
 simp only[SS,intD_len]
 refine⟨calV_ok s row hr,fun hb=> ?_,fun hb=> ?_⟩
 ·obtain⟨n,hn⟩:=Option.isSome_iff_exists.1 hb
  have e:opB s row acc=insI n acc:=by unfold opB; rw[hn]
  rw[e] at h ⊢
  rw[hn]
  refine⟨mput_int n acc,by omega,rfl⟩
 ·have e:opB s row acc=acc:=by
   unfold opB
   cases hq:calcR s row with
   | none=>rfl
   | some n=>rw[hq] at hb; cases hb
  rw[e]
  rfl
def FilC (s:LU) (L:List (List Int)) (k:Nat) (row acc:List Int):Prop:=CallL Tryz.prog (.func (.func 140) [] [.ptr 0 0,.ptr 1 0,.ptr 2 0,.ptr 3 0]) [.int .i64 k] (obF s (lisD L) (intC .i64 row) (intD acc) (intD acc))
 fun r ob=>r= .bool true/\ob=obF s (lisD L) (intC .i64 (fillS (opB s) (L.drop k) k (row,acc)).1) (intD (fillS (opB s) (L.drop k) k (row,acc)).2) (intD (fillS (opB s) (L.drop k) k (row,acc)).2)
theorem fil_at (s:LU) (L:List (List Int)) (k:Nat) (hk:k<L.length) (hL:L.length<=1073741824) (l:List Int) (hl:l.length<=1073741824)
  (HF: ∀ row acc,row.length=L.length->(fillS (opB s) (L.drop (k+1)) (k+1) (row,acc)).2.length<=1000->FilC s L (k+1) row acc): ∀ (m i:Nat) (row acc:List Int),l.length-i=m->i<=l.length->row.length=L.length →
  ((l.drop i).foldl (fun p x=>fillS (opB s) (L.drop (k+1)) (k+1) (p.1.set k x,p.2)) (row,acc)).2.length<=1000 →
  At Tryz.prog 10 (cut sc140 0) (hdF k l.length i (intC .i64 l) (obF s (lisD L) (intC .i64 row) (intD acc) (intD acc))) (FinQ false 10 rs140 fun r ob=>r= .bool true ∧
   ob=obF s (lisD L) (intC .i64 ((l.drop i).foldl (fun p x=>fillS (opB s) (L.drop (k+1)) (k+1) (p.1.set k x,p.2)) (row,acc)).1) (intD ((l.drop i).foldl (fun p x=>fillS (opB s) (L.drop (k+1)) (k+1) (p.1.set k x,p.2)) (row,acc)).2) (intD ((l.drop i).foldl (fun p x=>fillS (opB s) (L.drop (k+1)) (k+1) (p.1.set k x,p.2)) (row,acc)).2)):=by
 intro m
 induction m with
 | zero =>
  intro i row acc hm hi hrow hz
  refine At.tree (ctr_ok libT_ok (asmA_ok _ _)) (CFl2_eq s (lisD L) (intC .i64 row) (intC .i64 l) [] (intD acc) (intD acc) [] [] k l.length i 0) ?_
  have e:l.drop i=[]:=List.drop_eq_nil_of_le (by omega)
  rw[e]
  simp only[SS]
  exact⟨fun h=>by omega,fun _=>rfl⟩
 | succ m ih =>
  intro i row acc hm hi hrow hz
  have h1:i<l.length:=by omega
  rw[drop_cons h1,List.foldl_cons] at hz ⊢
  have hlen:(fillS (opB s) (L.drop (k+1)) (k+1) (row.set k l[i],acc)).1.length=L.length:=by rw[fillS_len]; simpa using hrow
  have hmono:=fold_mono (z:=List.length) (opB_len s) (L.drop (k+1)) k (l.drop (i+1)) (fillS (opB s) (L.drop (k+1)) (k+1) (row.set k l[i],acc))
  have hC:=HF (row.set k l[i]) acc (by simpa using hrow) (Nat.le_trans hmono hz)
  unfold FilC at hC
  have hI:=ih (i+1) (fillS (opB s) (L.drop (k+1)) (k+1) (row.set k l[i],acc)).1 (fillS (opB s) (L.drop (k+1)) (k+1) (row.set k l[i],acc)).2 (by omega) (by omega) hlen hz
  refine At.tree (ctr_ok libT_ok (asmA_ok _ _)) (CFl2_eq s (lisD L) (intC .i64 row) (intC .i64 l) (intC .i64 (fillS (opB s) (L.drop (k+1)) (k+1) (row.set k l[i],acc)).1) (intD acc) (intD acc) (intD (fillS (opB s) (L.drop (k+1)) (k+1) (row.set k l[i],acc)).2) (intD (fillS (opB s) (L.drop (k+1)) (k+1) (row.set k l[i],acc)).2) k l.length i l[i]) ?_
  simp only[SS,intC_len,intC_set]
  refine⟨fun _=>⟨⟨by omega,intC_get h1⟩,by omega,by omega,by omega,hC,by omega,hI⟩,fun h=>by omega⟩
theorem fil_ok (s:LU) (L:List (List Int)) (hL:L.length<=1073741824) (hl: ∀ l∈L,l.length<=1073741824): ∀ (m k:Nat),L.length-k=m->k<=L.length-> ∀ row acc,row.length=L.length->(fillS (opB s) (L.drop k) k (row,acc)).2.length<=1000->FilC s L k row acc:=by
 intro m
 induction m with
 | zero =>
  intro k hm hk row acc hrow hz
  have e:L.drop k=[]:=List.drop_eq_nil_of_le (by omega)
  unfold FilC
  rw[e] at hz ⊢
  simp only[fillS] at hz ⊢
  refine CallL.tree hdraw fp140 (ctr_ok libT_ok (asmA_ok _ _)) (CFl_eq s (lisD L) (intC .i64 row) [] (intC .i64 row) (intD acc) (intD acc) (intD (opB s row acc)) (intD (opB s row acc)) k) ?_
  simp only[SS,lisD_len]
  exact⟨fun _=>⟨yldO_ok s L row acc (by omega) hz,rfl⟩,fun h=>by omega⟩
 | succ m ih =>
  intro k hm hk row acc hrow hz
  have h1:k<L.length:=by omega
  have hA:=fil_at s L k h1 hL L[k] (hl _ (List.getElem_mem h1)) (fun row acc hr hz=>ih (k+1) (by omega) (by omega) row acc hr hz) _ 0 row acc rfl (Nat.zero_le _) hrow
  unfold FilC
  rw[drop_cons h1] at hz ⊢
  simp only[fillS] at hz ⊢
  simp only[List.drop_zero] at hA
  refine CallL.tree hdraw fp140 (ctr_ok libT_ok (asmA_ok _ _)) (CFl_eq s (lisD L) (intC .i64 row) (intC .i64 L[k]) [] (intD acc) (intD acc) [] [] k) ?_
  simp only[SS,lisD_len,intC_len]
  exact⟨fun h=>by omega,fun _=>⟨⟨by omega,lisD_get h1⟩,hA hz⟩⟩
theorem rwsO_ok (s:LU) (L:List (List Int)) (hL:L.length<=1073741824) (hl: ∀ l∈L,l.length<=1073741824) (hz:(fillS (opB s) L 0 (List.replicate L.length 0,[])).2.length<=1000) :
  CallL Tryz.prog (.func (.func 139) [] [.ptr 0 0]) [.yld 1] (obO s (lisD L) [] []) fun r ob=>r= .tuple []/\ob=obO s (lisD L) (intD (fillS (opB s) L 0 (List.replicate L.length 0,[])).2) (intD (fillS (opB s) L 0 (List.replicate L.length 0,[])).2):=by
 have hF:=fil_ok s L hL hl _ 0 rfl (Nat.zero_le _) (List.replicate L.length 0) [] (by simp) (by rw[List.drop_zero]; exact hz)
 unfold FilC at hF
 rw[List.drop_zero] at hF
 have e:intC .i64 (List.replicate L.length 0)=List.replicate L.length [.int .i64 0]:=by simp[intC]
 refine CallL.tree hdraw fp139 (ctr_ok libT_ok (asmA_ok _ _)) (CR1_eq s (lisD L) [] [] (intC .i64 (fillS (opB s) L 0 (List.replicate L.length 0,[])).1) (intD (fillS (opB s) L 0 (List.replicate L.length 0,[])).2) (intD (fillS (opB s) L 0 (List.replicate L.length 0,[])).2)) ?_
 simp only[SS,lisD_len]
 rw[<- e]
 exact⟨⟨by omega,by omega,by omega⟩,hF,rfl⟩
end Go.Proofs.YtobgkdlghljdlaaGreatDoor
/- Bindings: trees. -/
namespace Go.Proofs.YtobgkdlghljdlaaGreatDoor
open Go.Sx
def mCtr (l:List (Nat × D)) (e:List (Nat × List D):=[]) (c:List (Nat × D):=[]):Ctr:=⟨fun t f az=>match lk l t with | some r=>some (.ok (FK f az r) r []) | none=>none,
 fun t d xs ob=>match lk c t with | some r=>some (.ok (CallL Tryz.prog d xs ob fun r0 o=>r0=r/\o=ob) r ob) | none=>none,fun t _=>(lk e t).getD []⟩
theorem mCtr_ok {l:List (Nat × D)} {e:List (Nat × List D)} {c:List (Nat × D)}:(mCtr l e c).OK Tryz.prog:=by
 refine⟨fun t f az rt h=> ?_,fun t d az ob rt h=> ?_⟩
 ·simp only[mCtr] at h
  split at h
  ·cases h; exact fun hp=>hp
  ·cases h
 ·simp only[mCtr] at h
  split at h
  ·cases h; exact fun hp=>hp
  ·cases h
abbrev bC (m:LU) (k n:Int) (s:LU) (a:LD):List D:=[.str m,.int .u8 k,.int .i64 n,.str s,.slice a []]
theorem MVa_eq (es:LD):goT Tryz.prog (mCtr []) 0 (finF true 0 rs13) 2000 [Fr.sc sc13] { tm:=envOf 0 [dL es []],ob:=[] }=(Jm (cut sc13 0) { tm:=[(0,dL es []),(5,dL es []),(6,dI (↑(List.length es):Int)),(7,dI (0:Int))],ob:=[] }:Tr):=by kernel_rfl
def hdVa (es:LD) (m i:Int):St:=⟨[(0,.slice es []),(5,.slice es []),(6,.int .i64 m),(7,.int .i64 i)],[]⟩
theorem MVa2_eq (es:LD) (mm:Int) (i:Nat) (m:LU) (k n:Int) (s:LU) (a:LD) (m':LU) (k' n':Int) (s':LU) (a':LD) (v w:Bool):goT Tryz.prog (mCtr [(14,dB v),(19,dB w)] [(10,bC m k n s a),(31,bC m' k' n' s' a')]) 0 (finF true 0 rs13) 2000 (cut sc13 0) (hdVa es mm (↑i:Int))=(brT (decide ((↑i:Int)<mm)) (Ow ((0:Int)<=(↑i:Int)/\es[Int.toNat (↑i:Int)]? = some (bC m k n s a)) (Ow (FK 26 [dS m] (dB v)) (brT (!v) (Rt (dB false) []) (Ow (FK 16 [dA (tC k n s a)] (dB w)) (brT (!w) (Rt (dB false) []) (brT (decide ((0:Int)<(↑i:Int))) (Ow ((-9223372036854775808:Int)<=(↑i:Int)-(1:Int)/\(↑i:Int)-(1:Int)<=(9223372036854775807:Int)) (Ow ((0:Int)<=(↑i:Int)-(1:Int)/\es[Int.toNat ((↑i:Int)-(1:Int))]? = some (bC m' k' n' s' a')) (brT (Op.bytesLess m m' || decide (m=m')) (Rt (dB false) []) (Ow ((-9223372036854775808:Int)<=(↑i:Int)+(1:Int)/\(↑i:Int)+(1:Int)<=(9223372036854775807:Int)) (Jm (cut sc13 0) { tm:=[(0,dL es []),(5,dL es []),(6,dI mm),(7,dI ((↑i:Int)+(1:Int)))],ob:=[] }))))) (Ow ((-9223372036854775808:Int)<=(↑i:Int)+(1:Int)/\(↑i:Int)+(1:Int)<=(9223372036854775807:Int)) (Jm (cut sc13 0) { tm:=[(0,dL es []),(5,dL es []),(6,dI mm),(7,dI ((↑i:Int)+(1:Int)))],ob:=[] })))))))) (Rt (dB true) []):Tr):=by kernel_rfl
theorem MFi_eq (es:LD) (s:LU) (i:Int) (b:Bool):goT Tryz.prog (mCtr [] [] [(8,D.tuple [dI i,dB b])]) 0 (finF true 0 rs82) 2000 [Fr.sc sc82] { tm:=envOf 0 [dL es [],dS s],ob:=[] }=(Ow (CF 111 [dL es [],dS s,dF 112 [] []] [] fun r0 o=>r0=D.tuple [dI i,dB b]/\o=[]) (Rt (D.tuple [dI i,dB b]) []):Tr):=by kernel_rfl
theorem MF1_eq (m:LU) (k n:Int) (s:LU) (a:LD) (t:LU) (c:Int):goT Tryz.prog (mCtr [(8,dI c)]) 0 (finF false 0 rs112) 2000 [Fr.sc sc112] { tm:=envOf 0 ([]++[dA (bC m k n s a),dS t]++[]),ob:=[] }=(Ow (FK 96 [dS m,dS t] (dI c)) (Rt (dI c) []):Tr):=by kernel_rfl
theorem MBs_eq (es:LD) (s:LU):goT Tryz.prog (mCtr []) 0 (finF false 0 rs111) 2000 [Fr.sc sc111] { tm:=envOf 0 ([]++[dL es [],dS s,dF 112 [] []]++[]),ob:=[] }=(Jm (cut sc111 0) { tm:=[(0,dL es []),(1,dS s),(2,dF 112 [] []),(8,dI (↑(List.length es):Int)),(9,dI (0:Int)),(10,dI (↑(List.length es):Int))],ob:=[] }:Tr):=by kernel_rfl
def hdBs (es:LD) (s:LU) (n i j:Int):St:=⟨[(0,.slice es []),(1,.str s),(2,.func (.func 112) [] []),(8,.int .i64 n),(9,.int .i64 i),(10,.int .i64 j)],[]⟩
theorem MBs2_eq (es:LD) (t:LU) (nn i j:Int) (m:LU) (k n:Int) (s:LU) (a:LD) (c:Int):goT Tryz.prog (mCtr [] [(27,bC m k n s a),(43,bC m k n s a)] [(30,dI c),(46,dI c)]) 0 (finF false 0 rs111) 2000 (cut sc111 0) (hdBs es t nn i j)=(brT (decide (i<j)) (Ow ((-9223372036854775808:Int)<=i+j/\i+j<=(9223372036854775807:Int)) (Ow ((0:Int)<=(1:Int)) (Ow ((-9223372036854775808:Int)<=shI false IntKind.u64 (IntKind.wrap IntKind.u64 (i+j)) (1:Int)/\shI false IntKind.u64 (IntKind.wrap IntKind.u64 (i+j)) (1:Int)<=(9223372036854775807:Int)) (Ow ((0:Int)<=shI false IntKind.u64 (IntKind.wrap IntKind.u64 (i+j)) (1:Int)/\es[Int.toNat (shI false IntKind.u64 (IntKind.wrap IntKind.u64 (i+j)) (1:Int))]? = some (bC m k n s a)) (Ow (CF 112 [dA (bC m k n s a),dS t] [] fun r0 o=>r0=dI c/\o=[]) (brT (decide (c<(0:Int))) (Ow ((-9223372036854775808:Int)<=shI false IntKind.u64 (IntKind.wrap IntKind.u64 (i+j)) (1:Int)+(1:Int)/\shI false IntKind.u64 (IntKind.wrap IntKind.u64 (i+j)) (1:Int)+(1:Int)<=(9223372036854775807:Int)) (Jm (cut sc111 0) { tm:=[(0,dL es []),(1,dS t),(2,dF 112 [] []),(8,dI nn),(9,dI (shI false IntKind.u64 (IntKind.wrap IntKind.u64 (i+j)) (1:Int)+(1:Int))),(10,dI j)],ob:=[] })) (Jm (cut sc111 0) { tm:=[(0,dL es []),(1,dS t),(2,dF 112 [] []),(8,dI nn),(9,dI i),(10,dI (shI false IntKind.u64 (IntKind.wrap IntKind.u64 (i+j)) (1:Int)))],ob:=[] }))))))) (brT (decide (i<nn)) (Ow ((0:Int)<=i/\es[Int.toNat i]? = some (bC m k n s a)) (Ow (CF 112 [dA (bC m k n s a),dS t] [] fun r0 o=>r0=dI c/\o=[]) (Rt (D.tuple [dI i,dB (decide (c=(0:Int)))]) []))) (Rt (D.tuple [dI i,dB false]) [])):Tr):=by kernel_rfl
abbrev obT (es:LD):Obs:=[(0,.cells [.slice es []])]
theorem MGe_eq (es:LD) (t:LU) (i:Int) (b:Bool) (m:LU) (k n:Int) (s:LU) (a:LD):goT Tryz.prog (mCtr [(14,D.tuple [dI i,dB b])] [(25,bC m k n s a)]) 1 (finF false 1 rs42) 2000 [Fr.sc sc42] { tm:=envOf 0 ([]++[dP 0 0,dS t]++[]),ob:=obT es }=(Ow (FK 82 [dL es [],dS t] (D.tuple [dI i,dB b])) (brT (!b) (Rt (D.tuple [dA [dU (0:Int),dI (0:Int),dS [],dL [] []],dB false]) [(0,oC [dL es []])]) (Ow ((0:Int)<=i/\es[Int.toNat i]? = some (bC m k n s a)) (Rt (D.tuple [dA (tC k n s a),dB true]) [(0,oC [dL es []])]))):Tr):=by kernel_rfl
abbrev obP (es:LD):Obs:=[(0,.cells [.ptr 1 0]),(1,.cells [.slice es []])]
theorem MA1_eq (es:LD) (k n:Int) (s:LU) (a:LD) (kv nv:Int) (sv:LU) (av:LD) (b:Bool):goT Tryz.prog (mCtr [] [] [(12,D.tuple [dA (tC kv nv sv av),dB b])]) 2 (finF false 2 rs113) 2000 [Fr.sc sc113] { tm:=envOf 0 ([]++[dA (tC k n s a)]++[dP 0 0]),ob:=obP es }=(brT (!decide (k=(3:Int))) (Rt (D.tuple [dA [dU (0:Int),dI (0:Int),dS [],dL [] []],dB false]) [(0,oC [dP 1 0]),(1,oC [dL es []])]) (Ow (CF 42 [dP 0 0,dS s] [(0,oC [dL es []])] fun r0 o=>r0=D.tuple [dA (tC kv nv sv av),dB b]/\o=[(0,oC [dL es []])]) (Rt (D.tuple [dA (tC kv nv sv av),dB b]) [(0,oC [dP 1 0]),(1,oC [dL es []])])):Tr):=by kernel_rfl
theorem MC1_eq (k n:Int) (s:LU) (a:LD):goT Tryz.prog (mCtr []) 0 (finF false 0 rs83) 2000 [Fr.sc sc83] { tm:=envOf 0 ([]++[dA (tC k n s a)]++[]),ob:=[] }=(Rt (D.tuple [dA [dU (0:Int),dI (0:Int),dS [],dL [] []],dB false]) []:Tr):=by kernel_rfl
abbrev f0:D:= .func (.func 83) [] []
abbrev fA:D:= .func (.func 113) [] [.ptr 0 0]
theorem MT0_eq (k n:Int) (s:LU) (a a':LD) (kv nv:Int) (sv:LU) (av:LD) (b:Bool):goT Tryz.prog (mCtr [(15,dA (tC kv nv sv av))] [] [(10,D.tuple [dA (tC kv nv sv av),dB b]),(19,dL a' [])]) 0 (finF false 0 rs45) 2000 [Fr.sc sc45] { tm:=envOf 0 ([]++[f0,dA (tC k n s a)]++[]),ob:=[] }=(Ow (CF 83 [dA (tC k n s a)] [] fun r0 o=>r0=D.tuple [dA (tC kv nv sv av),dB b]/\o=[]) (brT b (Ow (FK 43 [dA (tC kv nv sv av)] (dA (tC kv nv sv av))) (Rt (dA (tC kv nv sv av)) [])) (Ow (CF 85 [dF 83 [] [],dL a []] [] fun r0 o=>r0=dL a' []/\o=[]) (Rt (dA (tC k n s a')) []))):Tr):=by kernel_rfl
theorem MTA_eq (es:LD) (k n:Int) (s:LU) (a a':LD) (kv nv:Int) (sv:LU) (av:LD) (b:Bool):goT Tryz.prog (mCtr [(15,dA (tC kv nv sv av))] [] [(10,D.tuple [dA (tC kv nv sv av),dB b]),(19,dL a' [])]) 2 (finF false 2 rs45) 2000 [Fr.sc sc45] { tm:=envOf 0 ([]++[fA,dA (tC k n s a)]++[]),ob:=obP es }=(Ow (CallL Tryz.prog (dF 113 [] [dP 0 0]) [dA (tC k n s a)] [(0,oC [dP 1 0]),(1,oC [dL es []])] fun r0 o=>r0=D.tuple [dA (tC kv nv sv av),dB b]/\o=[(0,oC [dP 1 0]),(1,oC [dL es []])]) (brT b (Ow (FK 43 [dA (tC kv nv sv av)] (dA (tC kv nv sv av))) (Rt (dA (tC kv nv sv av)) [(0,oC [dP 1 0]),(1,oC [dL es []])])) (Ow (CF 85 [dF 113 [] [dP 0 0],dL a []] [(0,oC [dP 1 0]),(1,oC [dL es []])] fun r0 o=>r0=dL a' []/\o=[(0,oC [dP 1 0]),(1,oC [dL es []])]) (Rt (dA (tC k n s a')) [(0,oC [dP 1 0]),(1,oC [dL es []])]))):Tr):=by kernel_rfl
theorem MS0_eq (l:LD):goT Tryz.prog (mCtr []) 0 (finF false 0 rs85) 2000 [Fr.sc sc85] { tm:=envOf 0 ([]++[f0,dL l []]++[]),ob:=[] }=(Jm (cut sc85 0) { tm:=[(0,dF 83 [] []),(4,dV 0),(7,dL l []),(8,dI (↑(List.length l):Int)),(9,dI (0:Int))],ob:=[(0,oR true 4 35 [])] }:Tr):=by kernel_rfl
theorem MSA_eq (es l:LD):goT Tryz.prog (mCtr []) 2 (finF false 2 rs85) 2000 [Fr.sc sc85] { tm:=envOf 0 ([]++[fA,dL l []]++[]),ob:=obP es }=(Jm (cut sc85 0) { tm:=[(0,dF 113 [] [dP 0 0]),(4,dV 2),(7,dL l []),(8,dI (↑(List.length l):Int)),(9,dI (0:Int))],ob:=[(0,oC [dP 1 0]),(1,oC [dL es []]),(2,oR true 4 35 [])] }:Tr):=by kernel_rfl
theorem MCo_eq (k n:Int) (s:LU) (a:LD) (kv nv:Int) (sv:LU) (av:LD):goT Tryz.prog (mCtr [] [] [(4,dA (tC kv nv sv av))]) 0 (finF true 0 rs43) 2000 [Fr.sc sc43] { tm:=envOf 0 [dA (tC k n s a)],ob:=[] }=(Ow (CF 45 [dF 83 [] [],dA (tC k n s a)] [] fun r0 o=>r0=dA (tC kv nv sv av)/\o=[]) (Rt (dA (tC kv nv sv av)) []):Tr):=by kernel_rfl
end Go.Proofs.YtobgkdlghljdlaaGreatDoor
/- Bindings: more trees. -/
namespace Go.Proofs.YtobgkdlghljdlaaGreatDoor
open Go.Sx
def hdT0 (l row:LD) (m i:Int):St:=⟨[(0,f0),(4,.vec 0),(7,.slice l []),(8,.int .i64 m),(9,.int .i64 i)],[(0,.arr true 4 35 row)]⟩
def hdTA (es l row:LD) (m i:Int):St:=⟨[(0,fA),(4,.vec 2),(7,.slice l []),(8,.int .i64 m),(9,.int .i64 i)],[(0,.cells [.ptr 1 0]),(1,.cells [.slice es []]),(2,.arr true 4 35 row)]⟩
theorem MS02_eq (l row:LD) (m:Int) (i:Nat) (kx nx:Int) (sx:LU) (ax:LD) (ky ny:Int) (sy:LU) (ay:LD):goT Tryz.prog (mCtr [] [(11,tC kx nx sx ax)] [(16,dA (tC ky ny sy ay))]) 0 (finF false 0 rs85) 2000 (cut sc85 0) (hdT0 l row m (↑i:Int))=(brT (decide ((↑i:Int)<m)) (Ow ((0:Int)<=(↑i:Int)/\l[Int.toNat (↑i:Int)]? = some (tC kx nx sx ax)) (Ow (CF 45 [dF 83 [] [],dA (tC kx nx sx ax)] [] fun r0 o=>r0=dA (tC ky ny sy ay)/\o=[]) (Ow (allLen 4 [(tC ky ny sy ay)]/\List.length row+1<=1073741824) (Ow ((-9223372036854775808:Int)<=(↑i:Int)+(1:Int)/\(↑i:Int)+(1:Int)<=(9223372036854775807:Int)) (Jm (cut sc85 0) { tm:=[(0,dF 83 [] []),(4,dV 0),(7,dL l []),(8,dI m),(9,dI ((↑i:Int)+(1:Int)))],ob:=[(0,oR true 4 35 (row++[(tC ky ny sy ay)]))] }))))) (Rt (dV 0) [(0,oR true 4 35 row)]):Tr):=by kernel_rfl
theorem MSA2_eq (es l row:LD) (m:Int) (i:Nat) (kx nx:Int) (sx:LU) (ax:LD) (ky ny:Int) (sy:LU) (ay:LD):goT Tryz.prog (mCtr [] [(11,tC kx nx sx ax)] [(16,dA (tC ky ny sy ay))]) 2 (finF false 2 rs85) 2000 (cut sc85 0) (hdTA es l row m (↑i:Int))=(brT (decide ((↑i:Int)<m)) (Ow ((0:Int)<=(↑i:Int)/\l[Int.toNat (↑i:Int)]? = some (tC kx nx sx ax)) (Ow (CF 45 [dF 113 [] [dP 0 0],dA (tC kx nx sx ax)] [(0,oC [dP 1 0]),(1,oC [dL es []])] fun r0 o=>r0=dA (tC ky ny sy ay)/\o=[(0,oC [dP 1 0]),(1,oC [dL es []])]) (Ow (allLen 4 [(tC ky ny sy ay)]/\List.length row+1<=1073741824) (Ow ((-9223372036854775808:Int)<=(↑i:Int)+(1:Int)/\(↑i:Int)+(1:Int)<=(9223372036854775807:Int)) (Jm (cut sc85 0) { tm:=[(0,dF 113 [] [dP 0 0]),(4,dV 2),(7,dL l []),(8,dI m),(9,dI ((↑i:Int)+(1:Int)))],ob:=[(0,oC [dP 1 0]),(1,oC [dL es []]),(2,oR true 4 35 (row++[(tC ky ny sy ay)]))] }))))) (Rt (dV 2) [(0,oC [dP 1 0]),(1,oC [dL es []]),(2,oR true 4 35 row)]):Tr):=by kernel_rfl
theorem MAy_eq (es:LD):goT Tryz.prog (mCtr []) 1 (finF false 1 rs84) 2000 [Fr.sc sc84] { tm:=envOf 0 ([]++[dP 0 0]++[]),ob:=obT es }=(Rt (dF 113 [] [dP 1 0]) [(0,oC [dL es []]),(1,oC [dP 0 0])]:Tr):=by kernel_rfl
def ayQ:QT:=fun d xs ob=>match d,xs,ob with
 | .func (.func f) [] [],[.ptr 0 0],[(0,.cells [.slice es []])]=>if f=84 then some (.ok True (.func (.func 113) [] [.ptr 1 0]) [(0,.cells [.slice es []]),(1,.cells [.ptr 0 0])]) else none
 | _,_,_=>none
def qCtr (l:List (Nat × D)) (q:QT):Ctr:=dCtr l [] q
theorem MAr_eq (es:LD) (b:Bool):goT Tryz.prog (qCtr [(4,dB b)] ayQ) 0 (finF false 0 rs44) 2000 [Fr.sc sc44] { tm:=envOf 0 ([]++[dL es []]++[]),ob:=[] }=(Ow (FK 13 [dL es []] (dB b)) (brT (!b) (Ow True (Rt (dF 113 [] [dP 0 0]) [(0,oC [dP 1 0]),(1,oC [dL [] []])])) (Ow True (Rt (dF 113 [] [dP 0 0]) [(0,oC [dP 1 0]),(1,oC [dL es []])]))):Tr):=by kernel_rfl
def applQ (es':LD) (r:D):QT:=fun d xs ob=>match d with
 | .func (.func f) [] []=>if f=44 then some (.ok (CallL Tryz.prog d xs ob fun r0 o=>r0=fA/\o=obP es') fA (obP es')) else if f=45 then some (.ok (CallL Tryz.prog d xs ob fun r0 o=>r0=r/\o=ob) r ob) else none
 | _=>none
theorem applQ_ok (es':LD) (r:D):(applQ es' r).OK:=by
 intro d xs ob rt h
 unfold applQ at h
 split at h
 ·split at h
  ·cases h; exact fun hp=>hp
  ·split at h
   ·cases h; exact fun hp=>hp
   ·cases h
 ·cases h
theorem MAp_eq (es es':LD) (k n:Int) (s:LU) (a:LD) (kv nv:Int) (sv:LU) (av:LD):goT Tryz.prog (qCtr [] (applQ es' (dA (tC kv nv sv av)))) 0 (finF true 0 rs20) 2000 [Fr.sc sc20] { tm:=envOf 0 [dA (tC k n s a),dL es []],ob:=[] }=(Ow (CF 44 [dL es []] [] fun r0 o=>r0=dF 113 [] [dP 0 0]/\o=[(0,oC [dP 1 0]),(1,oC [dL es' []])]) (Ow (CF 45 [dF 113 [] [dP 0 0],dA (tC k n s a)] [(0,oC [dP 1 0]),(1,oC [dL es' []])] fun r0 o=>r0=dA (tC kv nv sv av)/\o=[(0,oC [dP 1 0]),(1,oC [dL es' []])]) (Rt (dA (tC kv nv sv av)) [])):Tr):=by kernel_rfl
theorem MGt_eq (es:LD) (t:LU) (v b:Bool) (kv nv:Int) (sv:LU) (av:LD):goT Tryz.prog (mCtr [(9,dB v),(21,dA (tC kv nv sv av))] [] [(17,D.tuple [dA (tC kv nv sv av),dB b])]) 0 (finF true 0 rs18) 2000 [Fr.sc sc18] { tm:=envOf 0 [dL es [],dS t],ob:=[] }=(Ow (FK 13 [dL es []] (dB v)) (brT (!v) (Rt (D.tuple [dA [dU (0:Int),dI (0:Int),dS [],dL [] []],dB false]) []) (Ow (CF 42 [dP 0 0,dS t] [(0,oC [dL es []])] fun r0 o=>r0=D.tuple [dA (tC kv nv sv av),dB b]/\o=[(0,oC [dL es []])]) (Ow (FK 43 [dA (tC kv nv sv av)] (dA (tC kv nv sv av))) (Rt (D.tuple [dA (tC kv nv sv av),dB b]) [])))):Tr):=by kernel_rfl
end Go.Proofs.YtobgkdlghljdlaaGreatDoor
