/- Too many: operation,functions,expand. -/
import Derived.Test.YtfoklncmfoogcaaGreatDoorArXpP
set_option linter.unusedSectionVars false
set_option linter.unusedVariables false
set_option linter.unusedSimpArgs false
set_option linter.deprecated false
set_option maxRecDepth 100000
namespace Go.Proofs.YtfoklncmfoogcaaGreatDoor
open Go.Sx
noncomputable def OpPA (s:List UInt8) (es ext:List (List D)):Tr:=Tr.jmp (frg scP62 0) { tm:=[(1,D.slice es ext),(2,D.ptr 0 0)],ob:=[(0,Ob.cells [D.str s])] }
theorem OpPA_eq (s:List UInt8) (es ext:List (List D)):goT Tryz.prog (ctr libT) 0 (finF false 0 rsP62) 2000 [Fr.sc scP62] { tm:=envOf 0 ([]++[D.str s,D.slice es ext]++[]),ob:=[] }=OpPA s es ext:=by kernel_rfl
noncomputable def OpP0 (s:List UInt8) (es ext:List (List D)):Tr:=Tr.jmp (frg scP62 1) { tm:=[(1,D.slice es ext),(2,D.ptr 0 0),(5,D.vec 1)],ob:=[(0,Ob.cells [D.str s]),(1,Ob.arr true 1 22 [])] }
theorem OpP0_eq (s:List UInt8) (es ext:List (List D)):goT Tryz.prog (ctr libT) 0 (finF false 0 rsP62) 2000 (frg scP62 0) { tm:=[(1,D.slice es ext),(2,D.ptr 0 0)],ob:=[(0,Ob.cells [D.str s])] }=OpP0 s es ext:=by kernel_rfl
noncomputable def OpP1 (s:List UInt8) (es ext:List (List D)):Tr:=Tr.jmp (cut scP62 0) { tm:=[(2,D.ptr 0 0),(5,D.vec 1),(14,D.slice es ext),(15,D.int .i64 (↑(List.length es):Int)),(16,D.int .i64 (0:Int))],ob:=[(0,Ob.cells [D.str s]),(1,Ob.arr true 1 22 [])] }
theorem OpP1_eq (s:List UInt8) (es ext:List (List D)):goT Tryz.prog (ctr libT) 0 (finF false 0 rsP62) 2000 (frg scP62 1) { tm:=[(1,D.slice es ext),(2,D.ptr 0 0),(5,D.vec 1)],ob:=[(0,Ob.cells [D.str s]),(1,Ob.arr true 1 22 [])] }=OpP1 s es ext:=by kernel_rfl
noncomputable def OpPL (s:List UInt8) (es ext row xs:List (List D)) (m:Int) (i:Nat) (q:List (List D)):Tr:=brT (decide ((↑i:Int)<m)) (Tr.owe ((0:Int)<=(↑i:Int)/\es[Int.toNat (↑i:Int)]? = some [D.slice xs []]) (Tr.owe (FnOK Tryz.prog 61 [D.slice xs []] (D.own 1 3 q)) (Tr.owe (allLen 1 [[D.slice q []]]/\List.length row+1<=1073741824) (Tr.owe ((-9223372036854775808:Int)<=(↑i:Int)+(1:Int)/\(↑i:Int)+(1:Int)<=(9223372036854775807:Int)) (Tr.jmp (cut scP62 0) { tm:=[(2,D.ptr 0 0),(5,D.vec 1),(14,D.slice es ext),(15,D.int .i64 m),(16,D.int .i64 ((↑i:Int)+(1:Int)))],ob:=[(0,Ob.cells [D.str s]),(1,Ob.arr true 1 22 (row++[[D.slice q []]]))] }))))) (Tr.jmp (frg scP62 2) { tm:=[(2,D.ptr 0 0),(5,D.vec 1)],ob:=[(0,Ob.cells [D.str s]),(1,Ob.arr true 1 22 row)] })
theorem OpPL_eq (s:List UInt8) (es ext row xs:List (List D)) (m:Int) (i:Nat) (q:List (List D)):goT Tryz.prog (ctr (asmP (D.own 1 3 q)) qnone (eOne [D.slice xs []])) 0 (finF false 0 rsP62) 2000 (cut scP62 0) (hdOp s es ext row m (↑i:Int))=OpPL s es ext row xs m i q:=by kernel_rfl
noncomputable def OpP2 (s:List UInt8) (row:List (List D)):Tr:=Tr.jmp (frg scP62 3) { tm:=[(2,D.ptr 0 0),(5,D.vec 1),(8,D.ptr 2 0)],ob:=[(0,Ob.cells [D.str s]),(1,Ob.arr true 1 22 row),(2,Ob.cells [D.map 3]),(3,Ob.gen (Gen.mapC [] []) [])] }
theorem OpP2_eq (s:List UInt8) (row:List (List D)):goT Tryz.prog (ctr libT) 0 (finF false 0 rsP62) 2000 (frg scP62 2) { tm:=[(2,D.ptr 0 0),(5,D.vec 1)],ob:=[(0,Ob.cells [D.str s]),(1,Ob.arr true 1 22 row)] }=OpP2 s row:=by kernel_rfl
noncomputable def OpPR (s:List UInt8) (row:List (List D)) (ks vs:List D):Tr:=Tr.owe True (Tr.owe (CallL Tryz.prog (D.func (Fn.func 100) [] [D.ptr 0 0]) [D.yld 1] [(0,Ob.cells [D.slice row []]),(1,Ob.gen (Gen.loop LoopState.ready none #[29] (SC.reg [so 9 AOp.mv [xt 29]]) (SC.block 3 (SC.seq (SC.reg [so 31 (AOp.load false 1) [xt 2],so 32 AOp.mv [xt 9],SOp.cd (some 33) none (xc (D.func (Fn.func 10) [] [])) [xt 31,xt 32],so 30 AOp.mv [xt 33],so 34 (AOp.extract 0) [xt 30],so 35 (AOp.extract 1) [xt 30],so 10 AOp.mv [xt 34],so 11 AOp.mv [xt 35]]) (SC.seq (SC.reg [so 36 AOp.mv [xt 11]]) (SC.cond (xt 36) (SC.seq (SC.reg [so 37 (AOp.load false 1) [xt 8],so 38 AOp.mv [xt 10],so 39 AOp.mv [xt 10],SOp.st none (SK.k (some IntKind.i64) (xt 38)) (xt 37) (xt 39)]) (SC.spec (Sp.pan [so 40 (AOp.load false 1) [xt 8],so 41 (AOp.ext Ext.lenm) [xt 40],SOp.cd (some 42) none (xc (D.func (Fn.func 81) [] [])) [xt 41]]))) SC.skip)))) 56 [28,27,2,5,8]) [D.func (Fn.func 100) [] [D.ptr 0 0],D.vec 2,D.ptr 3 0,D.vec 2,D.ptr 4 0]),(2,Ob.arr true 1 22 row),(3,Ob.cells [D.str s]),(4,Ob.cells [D.map 5]),(5,Ob.gen (Gen.mapC [] []) [])] fun r0 ob0=>r0=D.pan manyV/\ob0=[]) (Tr.ret (D.pan manyV) []))
theorem OpPR_eq (s:List UInt8) (row:List (List D)) (ks vs:List D):goT Tryz.prog (ctr libT (QT.or rowsQ asmPan)) 0 (finF false 0 rsP62) 2000 (frg scP62 3) { tm:=[(2,D.ptr 0 0),(5,D.vec 1),(8,D.ptr 2 0)],ob:=[(0,Ob.cells [D.str s]),(1,Ob.arr true 1 22 row),(2,Ob.cells [D.map 3]),(3,Ob.gen (Gen.mapC [] []) [])] }=OpPR s row ks vs:=by kernel_rfl
noncomputable def FnPA (s:List UInt8) (es ext:List (List D)):Tr:=Tr.jmp (frg scP63 0) { tm:=[(1,D.slice es ext),(2,D.ptr 0 0),(4,D.ptr 1 0)],ob:=[(0,Ob.cells [D.str s]),(1,Ob.cells [D.nils])] }
theorem FnPA_eq (s:List UInt8) (es ext:List (List D)):goT Tryz.prog (ctr libT) 0 (finF false 0 rsP63) 2000 [Fr.sc scP63] { tm:=envOf 0 ([]++[D.str s,D.slice es ext]++[]),ob:=[] }=FnPA s es ext:=by kernel_rfl
noncomputable def FnP0 (s:List UInt8) (es ext:List (List D)) (b:Bool):Tr:=Tr.owe (CallL Tryz.prog (D.func (Fn.func 85) [] []) [D.slice es ext,D.func (Fn.func 86) [] []] [] fun r0 ob0=>r0=D.bool b/\ob0=[]) (brT b (Tr.ret D.nils []) (Tr.jmp (frg scP63 1) { tm:=[(1,D.slice es ext),(2,D.ptr 0 0),(4,D.ptr 1 0)],ob:=[(0,Ob.cells [D.str s]),(1,Ob.cells [D.nils])] }))
theorem FnP0_eq (s:List UInt8) (es ext:List (List D)) (b:Bool):goT Tryz.prog (ctr libT (asmA (D.bool b) id)) 0 (finF false 0 rsP63) 2000 (frg scP63 0) { tm:=[(1,D.slice es ext),(2,D.ptr 0 0),(4,D.ptr 1 0)],ob:=[(0,Ob.cells [D.str s]),(1,Ob.cells [D.nils])] }=FnP0 s es ext b:=by kernel_rfl
noncomputable def FnP1 (s:List UInt8) (es ext:List (List D)):Tr:=Tr.jmp (frg scP63 2) { tm:=[(1,D.slice es ext),(2,D.ptr 0 0),(4,D.ptr 1 0),(5,D.int .i64 (1:Int))],ob:=[(0,Ob.cells [D.str s]),(1,Ob.cells [D.nils])] }
theorem FnP1_eq (s:List UInt8) (es ext:List (List D)):goT Tryz.prog (ctr libT) 0 (finF false 0 rsP63) 2000 (frg scP63 1) { tm:=[(1,D.slice es ext),(2,D.ptr 0 0),(4,D.ptr 1 0)],ob:=[(0,Ob.cells [D.str s]),(1,Ob.cells [D.nils])] }=FnP1 s es ext:=by kernel_rfl
noncomputable def FnP2 (s:List UInt8) (es ext:List (List D)):Tr:=Tr.jmp (cut scP63 0) { tm:=[(1,D.slice es ext),(2,D.ptr 0 0),(4,D.ptr 1 0),(5,D.int .i64 (1:Int)),(11,D.slice es ext),(12,D.int .i64 (↑(List.length es):Int)),(13,D.int .i64 (0:Int))],ob:=[(0,Ob.cells [D.str s]),(1,Ob.cells [D.nils])] }
theorem FnP2_eq (s:List UInt8) (es ext:List (List D)):goT Tryz.prog (ctr libT) 0 (finF false 0 rsP63) 2000 (frg scP63 2) { tm:=[(1,D.slice es ext),(2,D.ptr 0 0),(4,D.ptr 1 0),(5,D.int .i64 (1:Int))],ob:=[(0,Ob.cells [D.str s]),(1,Ob.cells [D.nils])] }=FnP2 s es ext:=by kernel_rfl
noncomputable def FnPL (s:List UInt8) (es ext:List (List D)) (p m:Int) (i:Nat) (xs:List (List D)):Tr:=brT (decide ((↑i:Int)<m)) (Tr.owe ((0:Int)<=(↑i:Int)/\es[Int.toNat (↑i:Int)]? = some [D.slice xs []]) (Tr.owe ((-9223372036854775808:Int)<=p*(↑(List.length xs):Int)/\p*(↑(List.length xs):Int)<=(9223372036854775807:Int)) (brT (decide ((1000:Int)<p*(↑(List.length xs):Int))) (Tr.owe ((1000:Int)<p*(↑(List.length xs):Int)) (Tr.ret (D.pan manyV) [])) (Tr.owe (p*(↑(List.length xs):Int)<=(1000:Int)) (Tr.owe ((-9223372036854775808:Int)<=(↑i:Int)+(1:Int)/\(↑i:Int)+(1:Int)<=(9223372036854775807:Int)) (Tr.jmp (cut scP63 0) { tm:=[(1,D.slice es ext),(2,D.ptr 0 0),(4,D.ptr 1 0),(5,D.int .i64 (p*(↑(List.length xs):Int))),(11,D.slice es ext),(12,D.int .i64 m),(13,D.int .i64 ((↑i:Int)+(1:Int)))],ob:=[(0,Ob.cells [D.str s]),(1,Ob.cells [D.nils])] })))))) (Tr.jmp (frg scP63 3) { tm:=[(1,D.slice es ext),(2,D.ptr 0 0),(4,D.ptr 1 0)],ob:=[(0,Ob.cells [D.str s]),(1,Ob.cells [D.nils])] })
theorem FnPL_eq (s:List UInt8) (es ext:List (List D)) (p m:Int) (i:Nat) (xs:List (List D)):goT Tryz.prog (ctr libT limQ (eOne [D.slice xs []])) 0 (finF false 0 rsP63) 2000 (cut scP63 0) (hdFn s es ext p m (↑i:Int))=FnPL s es ext p m i xs:=by kernel_rfl
noncomputable def XpPA (k n:Int) (s:List UInt8) (x:List D) (a:List (List D)):Tr:=Tr.jmp (cut scP40 0) { tm:=[(1,D.ptr 0 0),(3,D.vec 1),(14,D.slice (x::a) []),(15,D.int .i64 (↑(List.length (x::a)):Int)),(16,D.int .i64 (0:Int))],ob:=[(0,Ob.cells [D.int .u8 k,D.int .i64 n,D.str s,D.slice (x::a) []]),(1,Ob.arr true 1 31 [])] }
theorem XpPA_eq (k n:Int) (s:List UInt8) (x:List D) (a:List (List D)):goT Tryz.prog (ctr libT) 0 (finF false 0 rsP40) 2000 [Fr.sc scP40] { tm:=envOf 0 ([]++[D.agg (tC k n s (x::a))]++[]),ob:=[] }=XpPA k n s x a:=by kernel_rfl
def xpQ (b:Bool) (r:D):Nat->QT:=fun t=>if t=22 then asmJ b r id else asmPan
theorem xpQ_ok (l:List (Nat × D)) (b:Bool) (r:D) (E:Nat->Int->List D):(⟨(sCtr l).F,xpQ b r,E⟩:Ctr).OK Tryz.prog:=by
 refine⟨(sCtr_ok l).F,fun t=> ?_⟩
 show QT.OK (xpQ b r t)
 unfold xpQ
 split
 ·exact asmJ_ok _ _ _
 ·exact asmPan_ok
noncomputable def XpPL (k n:Int) (s:List UInt8) (a row:List (List D)) (m:Int) (i:Nat) (kx nx:Int) (sx:List UInt8) (ax es us vs is js:List (List D)) (b:Bool):Tr:=brT (decide ((↑i:Int)<m)) (Tr.owe ((0:Int)<=(↑i:Int)/\a[Int.toNat (↑i:Int)]? = some [D.int .u8 kx,D.int .i64 nx,D.str sx,D.slice ax []]) (brT b (Tr.owe (CallL Tryz.prog (D.func (Fn.func 40) [] []) [D.agg [D.int .u8 kx,D.int .i64 nx,D.str sx,D.slice ax []]] [] fun r0 ob0=>r0=D.slice es []/\ob0=[]) (Tr.owe (allLen 1 [[D.slice es []]]/\List.length row+1<=1073741824) (Tr.owe ((-9223372036854775808:Int)<=(↑i:Int)+(1:Int)/\(↑i:Int)+(1:Int)<=(9223372036854775807:Int)) (Tr.jmp (cut scP40 0) { tm:=[(1,D.ptr 0 0),(3,D.vec 1),(14,D.slice a []),(15,D.int .i64 m),(16,D.int .i64 ((↑i:Int)+(1:Int)))],ob:=[(0,Ob.cells [D.int .u8 k,D.int .i64 n,D.str s,D.slice a []]),(1,Ob.arr true 1 31 (row++[[D.slice es []]]))] })))) (Tr.owe (CallL Tryz.prog (D.func (Fn.func 40) [] []) [D.agg [D.int .u8 kx,D.int .i64 nx,D.str sx,D.slice ax []]] [] fun r0 ob0=>r0=D.pan manyV/\ob0=[]) (Tr.ret (D.pan manyV) [])))) (brT (decide (k=(6:Int))) (Tr.owe ((0:Int)<=(0:Int)/\row[0]? = some [D.slice us []]) (Tr.owe (FnOK Tryz.prog 61 [D.slice us []] (D.slice is [])) (Tr.owe ((0:Int)<=(1:Int)/\row[1]? = some [D.slice vs []]) (Tr.owe (FnOK Tryz.prog 61 [D.slice vs []] (D.slice js [])) (Tr.owe (CallL Tryz.prog (D.func (Fn.func 60) [] []) [D.slice is [],D.slice js []] [] fun r0 ob0=>r0=D.pan manyV/\ob0=[]) (Tr.ret (D.pan manyV) [])))))) (brT (decide (k=(5:Int))) (Tr.owe (CallL Tryz.prog (D.func (Fn.func 62) [] []) [D.str s,D.slice row []] [] fun r0 ob0=>r0=D.pan manyV/\ob0=[]) (Tr.ret (D.pan manyV) [])) (Tr.owe (CallL Tryz.prog (D.func (Fn.func 63) [] []) [D.str s,D.slice row []] [] fun r0 ob0=>r0=D.pan manyV/\ob0=[]) (Tr.ret (D.pan manyV) []))))
theorem XpPL_eq (k n:Int) (s:List UInt8) (a row:List (List D)) (m:Int) (i:Nat) (kx nx:Int) (sx:List UInt8) (ax es us vs is js:List (List D)) (b:Bool):goT Tryz.prog { F:=Ctr.F (sCtr [(33,D.slice is []),(37,D.slice js [])]),C:=xpQ b (D.slice es []),E:=xpE kx nx sx ax us vs } 0 (finF false 0 rsP40) 2000 (cut scP40 0) (hdEx k n s a row m (↑i:Int))=XpPL k n s a row m i kx nx sx ax es us vs is js b:=by kernel_rfl
abbrev RP:D->Obs->Prop:=fun r _=>r= .pan manyV
theorem opN_at (s:List UInt8) (L:List (List Tm)) (ext:List (List D)) (hL:L.length<=1000) (hl: ∀ l∈L,l.length<=1000) (hz:1000<(opF s (prodL (L.map intsT))).length): ∀ (m i:Nat),L.length-i=m->i<=L.length →
  At Tryz.prog 0 (cut scP62 0) (hdOp s (partD L) ext (lisD ((L.take i).map intsT)) L.length i) (FinQ false 0 rsP62 RP):=by
 intro m
 induction m with
 | zero =>
  intro i hm hi
  refine At.tree (ctr_ok (asmP_ok _) qnone_ok) (OpPL_eq s (partD L) ext (lisD ((L.take i).map intsT)) [] L.length i []) ?_
  unfold OpPL
  have e:L.take i=L:=List.take_of_length_le (by omega)
  rw[e]
  simp only[SS]
  refine⟨fun h=>by omega,fun _=> ?_⟩
  refine At.tree (ctr_ok libT_ok qnone_ok) (OpP2_eq s (lisD (L.map intsT))) ?_
  unfold OpP2
  rw[ok_jmp]
  refine At.tree (ctr_ok libT_ok (QT.or_ok rowsQ_ok asmPan_ok)) (OpPR_eq s (lisD (L.map intsT)) [] []) ?_
  unfold OpPR
  have hI: ∀ l∈L.map intsT,l.length<=1073741824:=by
   intro l h
   obtain⟨l',h',rfl⟩:=List.mem_map.1 h
   have:=hl l' h'
   have:=List.length_filterMap_le Tm.int? l'
   unfold intsT
   omega
  have hacc:(fillS (opB s) (L.map intsT) 0 (List.replicate (L.map intsT).length 0,[])).2=opF s (prodL (L.map intsT)):=by
   rw[(fillS_prod (opB s) _ 0 _ [] (by simp)).1]
   simp[opF]
  have hR:=rwsN_ok s (L.map intsT) (by simp; omega) hI (by rw[hacc]; exact hz)
  rw[ok_owe,ok_owe,ok_ret]
  exact⟨trivial,hR,rfl⟩
 | succ m ih =>
  intro i hm hi
  have h1:i<L.length:=by omega
  have e:lisD ((L.take i).map intsT)++[[.slice (intC .i64 (intsT L[i])) []]]=lisD ((L.take (i+1)).map intsT):=by
   rw[List.take_add_one,List.getElem?_eq_getElem h1]
   simp only[lisD,List.map_append,Option.toList_some,List.map_cons,List.map_nil]
  have hli:=hl _ (List.getElem_mem h1)
  refine At.tree (ctr_ok (asmP_ok _) qnone_ok) (OpPL_eq s (partD L) ext (lisD ((L.take i).map intsT)) (Tm.cellsL L[i]) L.length i (intC .i64 (intsT L[i]))) ?_
  unfold OpPL
  simp only[SS,lisD_len,List.length_map,List.length_take]
  rw[e]
  exact⟨fun _=>⟨⟨by omega,partD_get h1⟩,int_ok [] L[i] (by omega),⟨by simp[allLen],by omega⟩,by omega,ih (i+1) (by omega) (by omega)⟩,fun h=>by omega⟩
theorem opN_ok (s:List UInt8) (L:List (List Tm)) (hL:L.length<=1000) (hl: ∀ l∈L,l.length<=1000) (h:opX s L=none):CallL Tryz.prog (.func (.func 62) [] []) [.str s,.slice (partD L) []] [] fun r ob=>r= .pan manyV/\ob=[]:=by
 have hz:1000<(opF s (prodL (L.map intsT))).length:=by
  unfold opX at h
  split at h
  ·cases h
  ·omega
 refine CallL.pdrop (R:=RP) ?_ fun _ _ h=>h
 refine CallL.tree hdraw fpP62 (ctr_ok libT_ok qnone_ok) (OpPA_eq s (partD L) []) ?_
 unfold OpPA
 rw[ok_jmp]
 refine At.tree (ctr_ok libT_ok qnone_ok) (OpP0_eq s (partD L) []) ?_
 unfold OpP0
 rw[ok_jmp]
 refine At.tree (ctr_ok libT_ok qnone_ok) (OpP1_eq s (partD L) []) ?_
 unfold OpP1
 rw[ok_jmp,partD_len]
 exact opN_at s L [] hL hl hz _ 0 rfl (Nat.zero_le _)
theorem fnN_at (s:List UInt8) (L:List (List Tm)) (hL:L.length<=1000) (hl: ∀ l∈L,l≠[]/\l.length<=1000) (hz:1000<(prodL L).length): ∀ (m i:Nat),L.length-i=m->i<=L.length->prdL L i<=1000 →
  At Tryz.prog 0 (cut scP63 0) (hdFn s (partD L) [] (prdL L i) L.length i) (FinQ false 0 rsP63 RP):=by
 intro m
 induction m with
 | zero =>
  intro i hm hi hp
  have:prdL L i=(prodL L).length:=by
   unfold prdL
   rw[prodL_len,List.take_of_length_le (show L.length<=i by omega)]
  omega
 | succ m ih =>
  intro i hm hi hp
  have h1:i<L.length:=by omega
  have e:((prdL L (i+1):Nat):Int)=(prdL L i:Int)*(L[i].length:Int):=by rw[prdL_succ h1]; exact Int.natCast_mul _ _
  have hb:prdL L (i+1)<=1000*1000:=by
   rw[prdL_succ h1]
   exact Nat.mul_le_mul hp (hl _ (List.getElem_mem h1)).2
  refine At.tree (ctr_ok libT_ok limQ_ok) (FnPL_eq s (partD L) [] (prdL L i) L.length i (Tm.cellsL L[i])) ?_
  unfold FnPL
  rw[cellsL_length,<- e]
  simp only[SS]
  exact⟨fun _=>⟨⟨by omega,partD_get h1⟩,by omega,fun h=>by omega,fun h=>⟨by omega,by omega,ih (i+1) (by omega) (by omega) (by omega)⟩⟩,fun h=>by omega⟩
theorem fnN_ok (s:List UInt8) (L:List (List Tm)) (hL:L.length<=1000) (hl: ∀ l∈L,l.length<=1000) (h:fnX s L=none):CallL Tryz.prog (.func (.func 63) [] []) [.str s,.slice (partD L) []] [] fun r ob=>r= .pan manyV/\ob=[]:=by
 unfold fnX at h
 split at h
 ·cases h
 ·rename_i he
  split at h
  ·cases h
  ·rename_i hz
   have he:=Bool.eq_false_iff.2 he
   have hne: ∀ l∈L,l≠[]/\l.length<=1000:=fun l hx=>⟨fun e=>by
    have:=List.any_eq_false.1 he l hx
    rw[e] at this
    exact this rfl,hl l hx⟩
   refine CallL.pdrop (R:=RP) ?_ fun _ _ h=>h
   refine CallL.tree hdraw fpP63 (ctr_ok libT_ok qnone_ok) (FnPA_eq s (partD L) []) ?_
   unfold FnPA
   rw[ok_jmp]
   refine At.tree (ctr_ok libT_ok (asmA_ok _ _)) (FnP0_eq s (partD L) [] (L.any List.isEmpty)) ?_
   unfold FnP0
   rw[ok_owe,ok_br,ok_ret,ok_jmp]
   refine⟨ctE_ok [] L hL,fun h=>absurd h (by rw[he]; decide),fun _=> ?_⟩
   refine At.tree (ctr_ok libT_ok qnone_ok) (FnP1_eq s (partD L) []) ?_
   unfold FnP1
   rw[ok_jmp]
   refine At.tree (ctr_ok libT_ok qnone_ok) (FnP2_eq s (partD L) []) ?_
   unfold FnP2
   rw[ok_jmp,partD_len]
   exact fnN_at s L hL hne (by omega) _ 0 rfl (Nat.zero_le _) (by simp[prdL])
theorem xpL_app: ∀ {a b:List Tm} {p q:List (List Tm)},Tm.xpL a=some p->Tm.xpL b=some q->Tm.xpL (a++b)=some (p++q)
 | [],_,_,_,h,h'=>by cases h; exact h'
 | x::r,b,p,q,h,h'=>by
  rw[Tm.xpL] at h
  unfold consX at h
  split at h
  ·rename_i u v h1 h2
   cases h
   rw[List.cons_append,Tm.xpL,xpL_app h2 h',h1]
   rfl
  ·cases h
def ExpN (x:Tm):Prop:=CallL Tryz.prog (.func (.func 40) [] []) [.agg x.cells] [] fun r ob=>r= .pan manyV/\ob=[]
theorem pureE:pureF Tryz.prog 40=true:=by kernel_rfl
theorem xpN_at (k:Nat) (n:Int) (s:List UInt8) (l:List Tm) (hl:l.length<=1000) (hs0:(Tm.mk k n s l).all Tm.shape=true) (hg0:(Tm.mk k n s l).all Tm.gr=true) (hw:Tm.fewL 1000 l) (HN: ∀ x∈l,x.xp=none->ExpN x): ∀ (m i:Nat) (ps:List (List Tm)),l.length-i=m->i<=l.length →
  Tm.xpL (l.take i)=some ps->(Tm.xpL (l.drop i)=none\/ ∃ qs,Tm.xpL (l.drop i)=some qs/\xpK k s (some (ps++qs))=none) →
  At Tryz.prog 0 (cut scP40 0) (hdEx k n s (Tm.cellsL l) (partD ps) l.length i) (FinQ false 0 rsP40 RP):=by
 have e6:((k:Int)=6)=(k=6):=propext (by omega)
 have e5:((k:Int)=5)=(k=5):=propext (by omega)
 have hs:=all_split.1 hs0
 have hg:=all_split.1 hg0
 intro m
 induction m with
 | zero =>
  intro i ps hm hi hps hn
  rw[List.take_of_length_le (show l.length<=i by omega)] at hps
  rw[List.drop_eq_nil_of_le (by omega)] at hn
  have hx:xpK k s (some ps)=none:=by
   rcases hn with hn | ⟨qs,h1,h2⟩
   ·cases hn
   ·cases h1; rwa [List.append_nil] at h2
  have hlen:=xpL_len hps
  have hp: ∀ p∈ps,p.length<=1000:=fun p hp=>(xpL_mem hps hp).elim fun x hx=>xp_len hx.2
  have hfit: ∀ i, ∀ c∈intsT (ps.getD i []),fitsB c=true:=fun i c hc=>by
   obtain⟨x,hx,hxi⟩:=intsT_mem.1 hc
   rw[List.getD_eq_getElem?_getD] at hx
   cases hq:ps[i]? with
   | none=>rw[hq] at hx; cases hx
   | some p =>
    rw[hq] at hx
    obtain⟨y,hy,hye⟩:=xpL_mem hps (List.mem_of_getElem? hq)
    exact int_shape (xp_value y p x (hs.2 y hy) (hg.2 y hy) hye hx).2.1 hxi
  have gl: ∀ i,(ps.getD i []).length<=1000:=fun i=>by
   rw[List.getD_eq_getElem?_getD]
   cases hq:ps[i]? with
   | none=>simp
   | some p=>exact hp p (List.mem_of_getElem? hq)
  have hil: ∀ i,(intsT (ps.getD i [])).length<=1000:=fun i=>Nat.le_trans (intsT_le _) (gl i)
  refine At.tree (xpQ_ok _ _ _ _) (XpPL_eq k n s (Tm.cellsL l) (partD ps) l.length i 0 0 [] [] [] (Tm.cellsL (ps.getD 0 [])) (Tm.cellsL (ps.getD 1 [])) (intC .i64 (intsT (ps.getD 0 []))) (intC .i64 (intsT (ps.getD 1 []))) true) ?_
  unfold XpPL
  simp only[xpK] at hx
  simp only[SS,e6,e5]
  refine⟨fun h=>by omega,fun _=>⟨fun h6=> ?_,fun h6=>⟨fun h5=> ?_,fun h5=> ?_⟩⟩⟩
  ·subst h6
   rw[if_pos rfl] at hx
   have hv:ivl (intsT (ps.getD 0 [])) (intsT (ps.getD 1 []))=none:=by
    cases hv:ivl (intsT (ps.getD 0 [])) (intsT (ps.getD 1 [])) with
    | none=>rfl
    | some q=>rw[hv] at hx; cases hx
   have h2:=shape_six hs.1
   exact⟨partD_getD (by omega),ints_ok _ (gl 0),⟨by decide,partD_getD (by omega)⟩,ints_ok _ (gl 1),ivN_ok _ _ (hil 0) (hil 1) (hfit 0) (hfit 1) hv⟩
  ·subst h5
   rw[if_neg (by decide),if_pos rfl] at hx
   exact opN_ok s ps (by omega) hp hx
  ·rw[if_neg h6,if_neg h5] at hx
   exact fnN_ok s ps (by omega) hp hx
 | succ m ih =>
  intro i ps hm hi hps hn
  have h1:i<l.length:=by omega
  have hx:=cellsL_get h1
  have hm0:l[i]∈l:=List.getElem_mem h1
  have hlen:=xpL_len hps
  rw[List.length_take] at hlen
  rw[drop_cons h1,Tm.xpL] at hn
  cases hq:l[i].xp with
  | none =>
   have hC:=HN _ hm0 hq
   unfold ExpN at hC
   generalize l[i]=x at hx hC
   obtain⟨kx,nx,sx,ax⟩:=x
   refine At.tree (xpQ_ok _ _ _ _) (XpPL_eq k n s (Tm.cellsL l) (partD ps) l.length i kx nx sx (Tm.cellsL ax) [] [] [] [] [] false) ?_
   unfold XpPL
   simp only[SS]
   exact⟨fun _=>⟨⟨by omega,hx⟩,fun h=>(Bool.noConfusion h),hC⟩,fun h=>by omega⟩
  | some p =>
   have hC:=FnOK.callS pureE (expg_ok l[i] p (fewL_all.1 hw _ hm0) (hs.2 _ hm0) (hg.2 _ hm0) hq)
   have ht:Tm.xpL (l.take (i+1))=some (ps++[p]):=by
    rw[List.take_add_one,List.getElem?_eq_getElem h1,Option.toList_some]
    exact xpL_app hps (by rw[Tm.xpL,hq]; rfl)
   have hI:=ih (i+1) (ps++[p]) (by omega) (by omega) ht (by
    rw[hq] at hn
    cases hr:Tm.xpL (l.drop (i+1)) with
    | none=>exact .inl rfl
    | some qs =>
     rw[hr] at hn
     rcases hn with hn | ⟨q2,h2,h3⟩
     ·cases hn
     ·cases h2
      exact .inr ⟨qs,rfl,by rw[List.append_assoc]; exact h3⟩)
   have e:partD (ps++[p])=partD ps++[[.slice (Tm.cellsL p) []]]:=by simp[partD]
   rw[e] at hI
   generalize l[i]=x at hx hC
   obtain⟨kx,nx,sx,ax⟩:=x
   refine At.tree (xpQ_ok _ _ _ _) (XpPL_eq k n s (Tm.cellsL l) (partD ps) l.length i kx nx sx (Tm.cellsL ax) (Tm.cellsL p) [] [] [] [] true) ?_
   unfold XpPL
   simp only[SS,partD_len]
   exact⟨fun _=>⟨⟨by omega,hx⟩,⟨hC,⟨by simp[allLen],by omega⟩,by omega,hI⟩,fun h=>(Bool.noConfusion h)⟩,fun h=>by omega⟩
theorem expn_ok: ∀ (x:Tm),x.few 1000->x.all Tm.shape=true->x.all Tm.gr=true->x.xp=none->ExpN x
 | .mk k n s l,hx,hs0,hg0,h=>by
  have hs:=all_split.1 hs0
  have hg:=all_split.1 hg0
  simp only[Tm.few] at hx
  obtain⟨hl,hw⟩:=hx
  have HN: ∀ x∈l,x.xp=none->ExpN x:=fun x hm h=>expn_ok x (fewL_all.1 hw _ hm) (hs.2 _ hm) (hg.2 _ hm) h
  rw[Tm.xp] at h
  split at h
  ·cases h
  ·rename_i he
   have he:l≠[]:=fun e=>he (by rw[e]; rfl)
   have hA:=xpN_at k n s l hl hs0 hg0 hw HN _ 0 [] rfl (Nat.zero_le _) rfl (by
    rw[List.drop_zero]
    cases hq:Tm.xpL l with
    | none=>exact .inl rfl
    | some qs=>rw[hq] at h; exact .inr ⟨qs,rfl,h⟩)
   clear HN hs hg hs0 hg0 h hw
   unfold ExpN
   refine CallL.pdrop (R:=RP) ?_ fun _ _ h=>h
   cases l with
   | nil=>exact absurd rfl he
   | cons x r =>
    refine CallL.tree hdraw fpP40 (ctr_ok libT_ok qnone_ok) (XpPA_eq k n s x.cells (Tm.cellsL r)) ?_
    unfold XpPA
    rw[ok_jmp]
    have e:(x.cells::Tm.cellsL r).length=(x::r).length:=by simp[cellsL_length]
    rw[e]
    exact hA
termination_by x=>SizeOf.sizeOf x
decreasing_by
 have:=List.sizeOf_lt_of_mem hm
 simp only[Tm.mk.sizeOf_spec]
 omega
end Go.Proofs.YtfoklncmfoogcaaGreatDoor
