/- arith.rows[int]. -/
import Derived.Test.YtfoklncmfoogcaaGreatDoorArA
import Derived.Test.YtfoklncmfoogcaaGreatDoorSx8
set_option linter.unusedSectionVars false
set_option linter.unusedVariables false
set_option linter.unusedSimpArgs false
set_option linter.deprecated false
set_option maxRecDepth 100000
namespace Go.Proofs.YtfoklncmfoogcaaGreatDoor
open Go.Sx
noncomputable def CRw (es ext:List (List D)):Tr:=Tr.ret (D.func (Fn.func 100) [] [D.ptr 0 0]) [(0,Ob.cells [D.slice es ext])]
theorem CRw_eq (es ext:List (List D)):goT Tryz.prog (ctr libT) 0 (finF false 0 rs83) 2000 [Fr.sc sc83] { tm:=envOf 0 ([]++[D.slice es ext]++[]),ob:=[] }=CRw es ext:=by kernel_rfl
def rowsQ:QT:=fun d xs ob=>match d,xs,ob with
 | .func (.func f) [] [],[.slice es ext],[]=>if f=83 then some (.ok True (.func (.func 100) [] [.ptr 0 0]) [(0,.cells [.slice es ext])]) else none
 | _,_,_=>none
theorem rowsQ_ok:rowsQ.OK:=by
 intro d xs ob rt h
 unfold rowsQ at h
 split at h
 ·split at h
  ·rename_i hf
   subst hf
   cases h
   intro _
   exact CallL.tree hdraw fp83 (ctr_ok libT_ok qnone_ok) (CRw_eq _ _) ⟨rfl,rfl⟩
  ·cases h
 ·cases h
def asmA (r:D) (g:Obs->Obs):QT:=fun d xs ob=>some (.ok (CallL Tryz.prog d xs ob fun r0 ob0=>r0=r/\ob0=g ob) r (g ob))
theorem asmA_ok (r:D) (g:Obs->Obs):(asmA r g).OK:=by intro d xs ob rt h; cases h; exact fun hp=>hp
def keysOp:List Nat:=[28,27,2,5,8]
def dsOp (a b c d:Nat):List D:=[.func (.func 100) [] [.ptr a 0],.vec b,.ptr c 0,.vec b,.ptr d 0]
def recOp (st:LoopState) (pend:Option Code) (ds:List D):Ob:= .gen (.loop st pend #[29] (sc62.rngA 0) (sc62.rngB 0) 56 keysOp) ds
def obO (s:List UInt8) (es:List (List D)) (ks vs:List D):Obs:=[(0,.cells [.slice es []]),(1,recOp .ready none (dsOp 0 2 3 4)),(2,.arr true 1 22 es),(3,.cells [.str s]),(4,.cells [.map 5]),(5,.gen (.mapC ks vs) [])]
def obF (s:List UInt8) (es row:List (List D)) (ks vs:List D):Obs:=[(0,.cells [.slice es []]),(1,.cells [.yld 4]),(2,.cells [.vec 5]),(3,.cells [.func (.func 101) [] [.ptr 0 0,.ptr 1 0,.ptr 2 0,.ptr 3 0]]),
 (4,.gen (.loop .ready none #[29] (sc62.rngA 0) (sc62.rngB 0) 56 [28,27,2,5,8]) [.func (.func 100) [] [.ptr 0 0],.vec 6,.ptr 7 0,.vec 6,.ptr 8 0]),(5,.arr false 1 3 row),(6,.arr true 1 22 es),(7,.cells [.str s]),(8,.cells [.map 9]),(9,.gen (.mapC ks vs) [])]
def updO (row:List (List D)) (ks vs:List D):Obs->Obs
 | []=>[]
 | (i,.arr false sz e _)::r=>(i,.arr false sz e row)::updO row ks vs r
 | (i,.gen (.mapC _ _) [])::r=>(i,.gen (.mapC ks vs) [])::updO row ks vs r
 | x::r=>x::updO row ks vs r
noncomputable def CR1 (s:List UInt8) (es:List (List D)) (ks vs:List D) (row':List (List D)) (ks' vs':List D):Tr:=Tr.owe ((0:Int)<=(↑(List.length es):Int)/\(↑(List.length es):Int)*(8:Int)<=(281474976710656:Int)/\(↑(List.length es):Int)<=(1073741824:Int)) (Tr.owe (CallL Tryz.prog (D.func (Fn.func 101) [] [D.ptr 0 0,D.ptr 1 0,D.ptr 2 0,D.ptr 3 0]) [D.int .i64 (0:Int)] [(0,Ob.cells [D.slice es []]),(1,Ob.cells [D.yld 4]),(2,Ob.cells [D.vec 5]),(3,Ob.cells [D.func (Fn.func 101) [] [D.ptr 0 0,D.ptr 1 0,D.ptr 2 0,D.ptr 3 0]]),(4,Ob.gen (Gen.loop LoopState.ready none #[29] (SC.rngA sc62 0) (SC.rngB sc62 0) 56 [28,27,2,5,8]) [D.func (Fn.func 100) [] [D.ptr 0 0],D.vec 6,D.ptr 7 0,D.vec 6,D.ptr 8 0]),(5,Ob.arr false 1 3 (List.replicate (Int.toNat (↑(List.length es):Int)) [D.int .i64 (0:Int)])),(6,Ob.arr true 1 22 es),(7,Ob.cells [D.str s]),(8,Ob.cells [D.map 9]),(9,Ob.gen (Gen.mapC ks vs) [])] fun r0 ob0=>r0=D.bool true/\ob0=[(0,Ob.cells [D.slice es []]),(1,Ob.cells [D.yld 4]),(2,Ob.cells [D.vec 5]),(3,Ob.cells [D.func (Fn.func 101) [] [D.ptr 0 0,D.ptr 1 0,D.ptr 2 0,D.ptr 3 0]]),(4,Ob.gen (Gen.loop LoopState.ready none #[29] (SC.rngA sc62 0) (SC.rngB sc62 0) 56 [28,27,2,5,8]) [D.func (Fn.func 100) [] [D.ptr 0 0],D.vec 6,D.ptr 7 0,D.vec 6,D.ptr 8 0]),(5,Ob.arr false 1 3 row'),(6,Ob.arr true 1 22 es),(7,Ob.cells [D.str s]),(8,Ob.cells [D.map 9]),(9,Ob.gen (Gen.mapC ks' vs') [])]) (Tr.ret (D.tuple []) [(0,Ob.cells [D.slice es []]),(1,Ob.gen (Gen.loop LoopState.ready none #[29] (SC.rngA sc62 0) (SC.rngB sc62 0) 56 [28,27,2,5,8]) [D.func (Fn.func 100) [] [D.ptr 0 0],D.vec 2,D.ptr 3 0,D.vec 2,D.ptr 4 0]),(2,Ob.arr true 1 22 es),(3,Ob.cells [D.str s]),(4,Ob.cells [D.map 5]),(5,Ob.gen (Gen.mapC ks' vs') [])]))
theorem CR1_eq (s:List UInt8) (es:List (List D)) (ks vs:List D) (row':List (List D)) (ks' vs':List D):goT Tryz.prog (ctr libT (asmA (D.bool true) (updO row' ks' vs'))) 6 (finF false 6 rs100) 2000 [Fr.sc sc100] { tm:=envOf 0 ([]++[D.yld 1]++[D.ptr 0 0]),ob:=obO s es ks vs }=CR1 s es ks vs row' ks' vs':=by kernel_rfl
noncomputable def CFl (s:List UInt8) (es row xs row':List (List D)) (ks vs ks' vs':List D) (k:Int):Tr:=brT (decide (k=(↑(List.length es):Int))) (Tr.owe (CallL Tryz.prog (D.yld 0) [D.vec 1] [(0,Ob.gen (Gen.loop LoopState.ready none #[29] (SC.rngA sc62 0) (SC.rngB sc62 0) 56 [28,27,2,5,8]) [D.func (Fn.func 100) [] [D.ptr 2 0],D.vec 3,D.ptr 4 0,D.vec 3,D.ptr 5 0]),(1,Ob.arr false 1 3 row),(2,Ob.cells [D.slice es []]),(3,Ob.arr true 1 22 es),(4,Ob.cells [D.str s]),(5,Ob.cells [D.map 6]),(6,Ob.gen (Gen.mapC ks vs) [])] fun r0 ob0=>r0=D.bool true/\ob0=[(0,Ob.gen (Gen.loop LoopState.ready none #[29] (SC.rngA sc62 0) (SC.rngB sc62 0) 56 [28,27,2,5,8]) [D.func (Fn.func 100) [] [D.ptr 2 0],D.vec 3,D.ptr 4 0,D.vec 3,D.ptr 5 0]),(1,Ob.arr false 1 3 row'),(2,Ob.cells [D.slice es []]),(3,Ob.arr true 1 22 es),(4,Ob.cells [D.str s]),(5,Ob.cells [D.map 6]),(6,Ob.gen (Gen.mapC ks' vs') [])]) (Tr.ret (D.bool true) [(0,Ob.cells [D.slice es []]),(1,Ob.cells [D.yld 4]),(2,Ob.cells [D.vec 5]),(3,Ob.cells [D.func (Fn.func 101) [] [D.ptr 0 0,D.ptr 1 0,D.ptr 2 0,D.ptr 3 0]]),(4,Ob.gen (Gen.loop LoopState.ready none #[29] (SC.rngA sc62 0) (SC.rngB sc62 0) 56 [28,27,2,5,8]) [D.func (Fn.func 100) [] [D.ptr 0 0],D.vec 6,D.ptr 7 0,D.vec 6,D.ptr 8 0]),(5,Ob.arr false 1 3 row'),(6,Ob.arr true 1 22 es),(7,Ob.cells [D.str s]),(8,Ob.cells [D.map 9]),(9,Ob.gen (Gen.mapC ks' vs') [])])) (Tr.owe ((0:Int)<=k/\es[Int.toNat k]? = some [D.slice xs []]) (Tr.jmp (cut sc101 0) { tm:=[(0,D.int .i64 k),(3,D.ptr 2 0),(4,D.ptr 3 0),(19,D.slice xs []),(20,D.int .i64 (↑(List.length xs):Int)),(21,D.int .i64 (0:Int))],ob:=[(0,Ob.cells [D.slice es []]),(1,Ob.cells [D.yld 4]),(2,Ob.cells [D.vec 5]),(3,Ob.cells [D.func (Fn.func 101) [] [D.ptr 0 0,D.ptr 1 0,D.ptr 2 0,D.ptr 3 0]]),(4,Ob.gen (Gen.loop LoopState.ready none #[29] (SC.rngA sc62 0) (SC.rngB sc62 0) 56 [28,27,2,5,8]) [D.func (Fn.func 100) [] [D.ptr 0 0],D.vec 6,D.ptr 7 0,D.vec 6,D.ptr 8 0]),(5,Ob.arr false 1 3 row),(6,Ob.arr true 1 22 es),(7,Ob.cells [D.str s]),(8,Ob.cells [D.map 9]),(9,Ob.gen (Gen.mapC ks vs) [])] }))
theorem CFl_eq (s:List UInt8) (es row xs row':List (List D)) (ks vs ks' vs':List D) (k:Int):goT Tryz.prog (ctr libT (asmA (D.bool true) (updO row' ks' vs')) (eOne [D.slice xs []])) 10 (finF false 10 rs101) 2000 [Fr.sc sc101] { tm:=envOf 0 ([]++[D.int .i64 k]++[D.ptr 0 0,D.ptr 1 0,D.ptr 2 0,D.ptr 3 0]),ob:=obF s es row ks vs }=CFl s es row xs row' ks vs ks' vs' k:=by kernel_rfl
def hdF (k m i:Int) (xs:List (List D)) (ob:Obs):St:=⟨[(0,.int .i64 k),(3,.ptr 2 0),(4,.ptr 3 0),(19,.slice xs []),(20,.int .i64 m),(21,.int .i64 i)],ob⟩
noncomputable def CFl2 (s:List UInt8) (es row xs row':List (List D)) (ks vs ks' vs':List D) (k m:Int) (i:Nat) (x:Int):Tr:=brT (decide ((↑i:Int)<m)) (Tr.owe ((0:Int)<=(↑i:Int)/\xs[Int.toNat (↑i:Int)]? = some [D.int .i64 x]) (Tr.owe ((0:Int)<=k/\k<(↑(List.length row):Int)) (Tr.owe (Int.toNat k<List.length row) (Tr.owe ((-9223372036854775808:Int)<=k+(1:Int)/\k+(1:Int)<=(9223372036854775807:Int)) (Tr.owe (CallL Tryz.prog (D.func (Fn.func 101) [] [D.ptr 0 0,D.ptr 1 0,D.ptr 2 0,D.ptr 3 0]) [D.int .i64 (k+(1:Int))] [(0,Ob.cells [D.slice es []]),(1,Ob.cells [D.yld 4]),(2,Ob.cells [D.vec 5]),(3,Ob.cells [D.func (Fn.func 101) [] [D.ptr 0 0,D.ptr 1 0,D.ptr 2 0,D.ptr 3 0]]),(4,Ob.gen (Gen.loop LoopState.ready none #[29] (SC.rngA sc62 0) (SC.rngB sc62 0) 56 [28,27,2,5,8]) [D.func (Fn.func 100) [] [D.ptr 0 0],D.vec 6,D.ptr 7 0,D.vec 6,D.ptr 8 0]),(5,Ob.arr false 1 3 (List.set row (Int.toNat k) [D.int .i64 x])),(6,Ob.arr true 1 22 es),(7,Ob.cells [D.str s]),(8,Ob.cells [D.map 9]),(9,Ob.gen (Gen.mapC ks vs) [])] fun r0 ob0=>r0=D.bool true/\ob0=[(0,Ob.cells [D.slice es []]),(1,Ob.cells [D.yld 4]),(2,Ob.cells [D.vec 5]),(3,Ob.cells [D.func (Fn.func 101) [] [D.ptr 0 0,D.ptr 1 0,D.ptr 2 0,D.ptr 3 0]]),(4,Ob.gen (Gen.loop LoopState.ready none #[29] (SC.rngA sc62 0) (SC.rngB sc62 0) 56 [28,27,2,5,8]) [D.func (Fn.func 100) [] [D.ptr 0 0],D.vec 6,D.ptr 7 0,D.vec 6,D.ptr 8 0]),(5,Ob.arr false 1 3 row'),(6,Ob.arr true 1 22 es),(7,Ob.cells [D.str s]),(8,Ob.cells [D.map 9]),(9,Ob.gen (Gen.mapC ks' vs') [])]) (Tr.owe ((-9223372036854775808:Int)<=(↑i:Int)+(1:Int)/\(↑i:Int)+(1:Int)<=(9223372036854775807:Int)) (Tr.jmp (cut sc101 0) { tm:=[(0,D.int .i64 k),(3,D.ptr 2 0),(4,D.ptr 3 0),(19,D.slice xs []),(20,D.int .i64 m),(21,D.int .i64 ((↑i:Int)+(1:Int)))],ob:=[(0,Ob.cells [D.slice es []]),(1,Ob.cells [D.yld 4]),(2,Ob.cells [D.vec 5]),(3,Ob.cells [D.func (Fn.func 101) [] [D.ptr 0 0,D.ptr 1 0,D.ptr 2 0,D.ptr 3 0]]),(4,Ob.gen (Gen.loop LoopState.ready none #[29] (SC.rngA sc62 0) (SC.rngB sc62 0) 56 [28,27,2,5,8]) [D.func (Fn.func 100) [] [D.ptr 0 0],D.vec 6,D.ptr 7 0,D.vec 6,D.ptr 8 0]),(5,Ob.arr false 1 3 row'),(6,Ob.arr true 1 22 es),(7,Ob.cells [D.str s]),(8,Ob.cells [D.map 9]),(9,Ob.gen (Gen.mapC ks' vs') [])] }))))))) (Tr.ret (D.bool true) [(0,Ob.cells [D.slice es []]),(1,Ob.cells [D.yld 4]),(2,Ob.cells [D.vec 5]),(3,Ob.cells [D.func (Fn.func 101) [] [D.ptr 0 0,D.ptr 1 0,D.ptr 2 0,D.ptr 3 0]]),(4,Ob.gen (Gen.loop LoopState.ready none #[29] (SC.rngA sc62 0) (SC.rngB sc62 0) 56 [28,27,2,5,8]) [D.func (Fn.func 100) [] [D.ptr 0 0],D.vec 6,D.ptr 7 0,D.vec 6,D.ptr 8 0]),(5,Ob.arr false 1 3 row),(6,Ob.arr true 1 22 es),(7,Ob.cells [D.str s]),(8,Ob.cells [D.map 9]),(9,Ob.gen (Gen.mapC ks vs) [])])
theorem CFl2_eq (s:List UInt8) (es row xs row':List (List D)) (ks vs ks' vs':List D) (k m:Int) (i:Nat) (x:Int):goT Tryz.prog (ctr libT (asmA (D.bool true) (updO row' ks' vs')) (eOne [D.int .i64 x])) 10 (finF false 10 rs101) 2000 (cut sc101 0) (hdF k m (↑i:Int) xs (obF s es row ks vs))=CFl2 s es row xs row' ks vs ks' vs' k m i x:=by kernel_rfl
noncomputable def CLim (n:Int):Tr:=brT (decide ((1000:Int)<n)) Tr.bad (Tr.ret (D.int .i64 n) [])
theorem CLim_eq (n:Int):goT Tryz.prog (ctr libT) 0 (finF true 0 rs81) 2000 [Fr.sc sc81] { tm:=envOf 0 [D.int .i64 n],ob:=[] }=CLim n:=by kernel_rfl
theorem lim_ok (n:Int) (h:n<=1000):FnOK Tryz.prog 81 [.int .i64 n] (.int .i64 n):=by
 refine FnOK.tree hdraw fp81 (ctr_ok libT_ok qnone_ok) (CLim_eq n) ?_
 unfold CLim
 rw[ok_br]
 refine⟨fun h=> ?_,fun _=>rfl⟩
 have:=of_decide_eq_true h
 omega
def limP:PT:=fun f xs=>match xs with
 | [.int .i64 n]=>if f=81 then some (.ok (n<=1000) (.int .i64 n) []) else none
 | _=>none
theorem limP_ok:limP.OK:=by
 intro f xs rt h
 unfold limP at h
 split at h
 ·split at h
  ·rename_i hf; subst hf; cases h; exact fun hp=>lim_ok _ hp
  ·cases h
 ·cases h
def obY (s:List UInt8) (es row:List (List D)) (ks vs:List D):Obs:=[(1,.arr false 1 3 row),(2,.cells [.slice es []]),(3,.arr true 1 22 es),(4,.cells [.str s]),(5,.cells [.map 6]),(6,.gen (.mapC ks vs) [])]
def eMap (ks vs:List D) (r:D):Nat->Int->List D:=fun _ n=>if n= -1 then [.agg ks,.agg vs] else [r]
noncomputable def TyO (s:List UInt8) (es row:List (List D)) (ks vs ks' vs':List D) (b:Bool) (n m:Int):Tr:=Tr.owe (CallL Tryz.prog (D.func (Fn.func 10) [] []) [D.str s,D.vec 0] [(0,Ob.arr false 1 3 row)] fun r0 ob0=>r0=D.tuple [D.int .i64 n,D.bool b]/\ob0=[(0,Ob.arr false 1 3 row)]) (brT b (Tr.owe (mput (D.int .i64 n) (D.int .i64 n) ks vs=some (ks',vs')) (Tr.owe (some (D.int .i64 (↑(List.length ks'):Int))=some (D.int .i64 m)) (Tr.owe (m<=(1000:Int)) (Tr.ret (D.bool true) [(0,Ob.gen (Gen.loop LoopState.ready none #[29] (SC.rngA sc62 0) (SC.rngB sc62 0) 56 [28,27,2,5,8]) [D.func (Fn.func 100) [] [D.ptr 2 0],D.vec 3,D.ptr 4 0,D.vec 3,D.ptr 5 0]),(1,Ob.arr false 1 3 row),(2,Ob.cells [D.slice es []]),(3,Ob.arr true 1 22 es),(4,Ob.cells [D.str s]),(5,Ob.cells [D.map 6]),(6,Ob.gen (Gen.mapC ks' vs') [])])))) (Tr.ret (D.bool true) [(0,Ob.gen (Gen.loop LoopState.ready none #[29] (SC.rngA sc62 0) (SC.rngB sc62 0) 56 [28,27,2,5,8]) [D.func (Fn.func 100) [] [D.ptr 2 0],D.vec 3,D.ptr 4 0,D.vec 3,D.ptr 5 0]),(1,Ob.arr false 1 3 row),(2,Ob.cells [D.slice es []]),(3,Ob.arr true 1 22 es),(4,Ob.cells [D.str s]),(5,Ob.cells [D.map 6]),(6,Ob.gen (Gen.mapC ks vs) [])]))
theorem TyO_eq (s:List UInt8) (es row:List (List D)) (ks vs ks' vs':List D) (b:Bool) (n m:Int):yldT Tryz.prog (ctr limP (asmA (D.tuple [D.int .i64 n,D.bool b]) id) (eMap ks' vs' (D.int .i64 m))) 7 0 56 #[29] (SC.rngA sc62 0) (SC.rngB sc62 0) keysOp (dsOp 2 3 4 5) 2000 { tm:=putP (List.zip [29] [D.vec 1]) (List.zip keysOp (dsOp 2 3 4 5)),ob:=obY s es row ks vs }=TyO s es row ks vs ks' vs' b n m:=by kernel_rfl
def lisD (L:List (List Int)):List (List D):=L.map fun l=>[.slice (intC .i64 l) []]
theorem lisD_get {L:List (List Int)} {i:Nat} (h:i<L.length):(lisD L)[i]? = some [.slice (intC .i64 L[i]) []]:=by simp[lisD,h]
theorem lisD_len (L:List (List Int)):(lisD L).length=L.length:=by simp[lisD]
theorem intC_set {k:IntKind} (l:List Int) (i:Nat) (x:Int):(intC k l).set i [.int k x]=intC k (l.set i x):=by simp[intC,List.map_set]
theorem intD_len (l:List Int):(intD l).length=l.length:=by simp[intD]
theorem yldO_ok (s:List UInt8) (L:List (List Int)) (row acc:List Int) (hr:row.length<=4611686018427387904) (h:(opB s row acc).length<=1000):CallL Tryz.prog (.yld 0) [.vec 1] ((0,recOp .ready none (dsOp 2 3 4 5))::obY s (lisD L) (intC .i64 row) (intD acc) (intD acc))
  fun r ob=>r= .bool true/\ob=(0,recOp .ready none (dsOp 2 3 4 5))::obY s (lisD L) (intC .i64 row) (intD (opB s row acc)) (intD (opB s row acc)):=by
 refine CallL.yldT hdraw (ctr_ok limP_ok (asmA_ok _ _)) rfl (TyO_eq s (lisD L) (intC .i64 row) (intD acc) (intD acc) (intD (opB s row acc)) (intD (opB s row acc)) (calcR s row).isSome ((calcR s row).getD 0) (opB s row acc).length) ?_
 unfold TyO
 simp only[SS,intD_len]
 refine⟨calV_ok s row hr,fun hb=> ?_,fun hb=> ?_⟩
 ·obtain⟨n,hn⟩:=Option.isSome_iff_exists.1 hb
  have e:opB s row acc=insI n acc:=by unfold opB; rw[hn]
  rw[e] at h ⊢
  rw[hn]
  refine⟨mput_int n acc,by omega,rfl⟩
 ·have e:opB s row acc=acc:=by
   unfold opB
   cases hq:calcR s row with
   | none=>rfl
   | some n=>rw[hq] at hb; cases hb
  rw[e]
  rfl
def FilC (s:List UInt8) (L:List (List Int)) (k:Nat) (row acc:List Int):Prop:=CallL Tryz.prog (.func (.func 101) [] [.ptr 0 0,.ptr 1 0,.ptr 2 0,.ptr 3 0]) [.int .i64 k] (obF s (lisD L) (intC .i64 row) (intD acc) (intD acc))
 fun r ob=>r= .bool true/\ob=obF s (lisD L) (intC .i64 (fillS (opB s) (L.drop k) k (row,acc)).1) (intD (fillS (opB s) (L.drop k) k (row,acc)).2) (intD (fillS (opB s) (L.drop k) k (row,acc)).2)
theorem fil_at (s:List UInt8) (L:List (List Int)) (k:Nat) (hk:k<L.length) (hL:L.length<=1073741824) (l:List Int) (hl:l.length<=1073741824)
  (HF: ∀ row acc,row.length=L.length->(fillS (opB s) (L.drop (k+1)) (k+1) (row,acc)).2.length<=1000->FilC s L (k+1) row acc): ∀ (m i:Nat) (row acc:List Int),l.length-i=m->i<=l.length->row.length=L.length →
  ((l.drop i).foldl (fun p x=>fillS (opB s) (L.drop (k+1)) (k+1) (p.1.set k x,p.2)) (row,acc)).2.length<=1000 →
  At Tryz.prog 10 (cut sc101 0) (hdF k l.length i (intC .i64 l) (obF s (lisD L) (intC .i64 row) (intD acc) (intD acc))) (FinQ false 10 rs101 fun r ob=>r= .bool true ∧
   ob=obF s (lisD L) (intC .i64 ((l.drop i).foldl (fun p x=>fillS (opB s) (L.drop (k+1)) (k+1) (p.1.set k x,p.2)) (row,acc)).1) (intD ((l.drop i).foldl (fun p x=>fillS (opB s) (L.drop (k+1)) (k+1) (p.1.set k x,p.2)) (row,acc)).2) (intD ((l.drop i).foldl (fun p x=>fillS (opB s) (L.drop (k+1)) (k+1) (p.1.set k x,p.2)) (row,acc)).2)):=by
 intro m
 induction m with
 | zero =>
  intro i row acc hm hi hrow hz
  refine At.tree (ctr_ok libT_ok (asmA_ok _ _)) (CFl2_eq s (lisD L) (intC .i64 row) (intC .i64 l) [] (intD acc) (intD acc) [] [] k l.length i 0) ?_
  unfold CFl2
  have e:l.drop i=[]:=List.drop_eq_nil_of_le (by omega)
  rw[e]
  simp only[SS]
  exact⟨fun h=>by omega,fun _=>rfl⟩
 | succ m ih =>
  intro i row acc hm hi hrow hz
  have h1:i<l.length:=by omega
  rw[drop_cons h1,List.foldl_cons] at hz ⊢
  have hlen:(fillS (opB s) (L.drop (k+1)) (k+1) (row.set k l[i],acc)).1.length=L.length:=by rw[fillS_len]; simpa using hrow
  have hmono:=fold_mono (z:=List.length) (opB_len s) (L.drop (k+1)) k (l.drop (i+1)) (fillS (opB s) (L.drop (k+1)) (k+1) (row.set k l[i],acc))
  have hC:=HF (row.set k l[i]) acc (by simpa using hrow) (Nat.le_trans hmono hz)
  unfold FilC at hC
  have hI:=ih (i+1) (fillS (opB s) (L.drop (k+1)) (k+1) (row.set k l[i],acc)).1 (fillS (opB s) (L.drop (k+1)) (k+1) (row.set k l[i],acc)).2 (by omega) (by omega) hlen hz
  refine At.tree (ctr_ok libT_ok (asmA_ok _ _)) (CFl2_eq s (lisD L) (intC .i64 row) (intC .i64 l) (intC .i64 (fillS (opB s) (L.drop (k+1)) (k+1) (row.set k l[i],acc)).1) (intD acc) (intD acc) (intD (fillS (opB s) (L.drop (k+1)) (k+1) (row.set k l[i],acc)).2) (intD (fillS (opB s) (L.drop (k+1)) (k+1) (row.set k l[i],acc)).2) k l.length i l[i]) ?_
  unfold CFl2
  simp only[SS,intC_len,intC_set]
  refine⟨fun _=>⟨⟨by omega,intC_get h1⟩,by omega,by omega,by omega,hC,by omega,hI⟩,fun h=>by omega⟩
theorem fil_ok (s:List UInt8) (L:List (List Int)) (hL:L.length<=1073741824) (hl: ∀ l∈L,l.length<=1073741824): ∀ (m k:Nat),L.length-k=m->k<=L.length-> ∀ row acc,row.length=L.length->(fillS (opB s) (L.drop k) k (row,acc)).2.length<=1000->FilC s L k row acc:=by
 intro m
 induction m with
 | zero =>
  intro k hm hk row acc hrow hz
  have e:L.drop k=[]:=List.drop_eq_nil_of_le (by omega)
  unfold FilC
  rw[e] at hz ⊢
  simp only[fillS] at hz ⊢
  refine CallL.tree hdraw fp101 (ctr_ok libT_ok (asmA_ok _ _)) (CFl_eq s (lisD L) (intC .i64 row) [] (intC .i64 row) (intD acc) (intD acc) (intD (opB s row acc)) (intD (opB s row acc)) k) ?_
  unfold CFl
  simp only[SS,lisD_len]
  exact⟨fun _=>⟨yldO_ok s L row acc (by omega) hz,rfl⟩,fun h=>by omega⟩
 | succ m ih =>
  intro k hm hk row acc hrow hz
  have h1:k<L.length:=by omega
  have hA:=fil_at s L k h1 hL L[k] (hl _ (List.getElem_mem h1)) (fun row acc hr hz=>ih (k+1) (by omega) (by omega) row acc hr hz) _ 0 row acc rfl (Nat.zero_le _) hrow
  unfold FilC
  rw[drop_cons h1] at hz ⊢
  simp only[fillS] at hz ⊢
  simp only[List.drop_zero] at hA
  refine CallL.tree hdraw fp101 (ctr_ok libT_ok (asmA_ok _ _)) (CFl_eq s (lisD L) (intC .i64 row) (intC .i64 L[k]) [] (intD acc) (intD acc) [] [] k) ?_
  unfold CFl
  simp only[SS,lisD_len,intC_len]
  exact⟨fun h=>by omega,fun _=>⟨⟨by omega,lisD_get h1⟩,hA hz⟩⟩
theorem rwsO_ok (s:List UInt8) (L:List (List Int)) (hL:L.length<=1073741824) (hl: ∀ l∈L,l.length<=1073741824) (hz:(fillS (opB s) L 0 (List.replicate L.length 0,[])).2.length<=1000) :
  CallL Tryz.prog (.func (.func 100) [] [.ptr 0 0]) [.yld 1] (obO s (lisD L) [] []) fun r ob=>r= .tuple []/\ob=obO s (lisD L) (intD (fillS (opB s) L 0 (List.replicate L.length 0,[])).2) (intD (fillS (opB s) L 0 (List.replicate L.length 0,[])).2):=by
 have hF:=fil_ok s L hL hl _ 0 rfl (Nat.zero_le _) (List.replicate L.length 0) [] (by simp) (by rw[List.drop_zero]; exact hz)
 unfold FilC at hF
 rw[List.drop_zero] at hF
 have e:intC .i64 (List.replicate L.length 0)=List.replicate L.length [.int .i64 0]:=by simp[intC]
 refine CallL.tree hdraw fp100 (ctr_ok libT_ok (asmA_ok _ _)) (CR1_eq s (lisD L) [] [] (intC .i64 (fillS (opB s) L 0 (List.replicate L.length 0,[])).1) (intD (fillS (opB s) L 0 (List.replicate L.length 0,[])).2) (intD (fillS (opB s) L 0 (List.replicate L.length 0,[])).2)) ?_
 unfold CR1
 simp only[SS,lisD_len]
 rw[<- e]
 exact⟨⟨by omega,by omega,by omega⟩,hF,rfl⟩
end Go.Proofs.YtfoklncmfoogcaaGreatDoor
