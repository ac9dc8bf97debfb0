/- arith.integers,arith.operation. -/
import Derived.Test.YtfoklncmfoogcaaGreatDoorArOp
set_option linter.unusedSectionVars false
set_option linter.unusedVariables false
set_option linter.unusedSimpArgs false
set_option linter.deprecated false
set_option maxRecDepth 100000
namespace Go.Proofs.YtfoklncmfoogcaaGreatDoor
open Go.Sx
noncomputable def PInt (es ext:List (List D)):Tr:=Tr.jmp (cut sc61 0) { tm:=[(2,D.vec 0),(5,D.slice es ext),(6,D.int .i64 (↑(List.length es):Int)),(7,D.int .i64 (0:Int))],ob:=[(0,Ob.arr true 1 3 [])] }
theorem PInt_eq (es ext:List (List D)):goT Tryz.prog (ctr libT) 0 (finF true 0 rs61) 2000 [Fr.sc sc61] { tm:=envOf 0 [D.slice es ext],ob:=[] }=PInt es ext:=by kernel_rfl
def hdInt (es ext:List (List D)) (row:List (List D)) (m i:Int):St:=⟨[(2,.vec 0),(5,.slice es ext),(6,.int .i64 m),(7,.int .i64 i)],[(0,.arr true 1 3 row)]⟩
noncomputable def PInt2 (es ext row:List (List D)) (m:Int) (i:Nat) (k n:Int) (s:List UInt8) (a:List (List D)):Tr:=brT (decide ((↑i:Int)<m)) (Tr.owe ((0:Int)<=(↑i:Int)/\es[Int.toNat (↑i:Int)]? = some [D.int .u8 k,D.int .i64 n,D.str s,D.slice a []]) (brT (decide (k=(1:Int))) (Tr.owe (allLen 1 [[D.int .i64 n]]/\List.length row+1<=1073741824) (Tr.owe ((-9223372036854775808:Int)<=(↑i:Int)+(1:Int)/\(↑i:Int)+(1:Int)<=(9223372036854775807:Int)) (Tr.jmp (cut sc61 0) { tm:=[(2,D.vec 0),(5,D.slice es ext),(6,D.int .i64 m),(7,D.int .i64 ((↑i:Int)+(1:Int)))],ob:=[(0,Ob.arr true 1 3 (row++[[D.int .i64 n]]))] }))) (Tr.owe ((-9223372036854775808:Int)<=(↑i:Int)+(1:Int)/\(↑i:Int)+(1:Int)<=(9223372036854775807:Int)) (Tr.jmp (cut sc61 0) { tm:=[(2,D.vec 0),(5,D.slice es ext),(6,D.int .i64 m),(7,D.int .i64 ((↑i:Int)+(1:Int)))],ob:=[(0,Ob.arr true 1 3 row)] })))) (Tr.ret (D.own 1 3 row) [])
theorem PInt2_eq (es ext row:List (List D)) (m:Int) (i:Nat) (k n:Int) (s:List UInt8) (a:List (List D)):goT Tryz.prog (ctr libT qnone (eOne [D.int .u8 k,D.int .i64 n,D.str s,D.slice a []])) 0 (finF true 0 rs61) 2000 (cut sc61 0) (hdInt es ext row m (↑i:Int))=PInt2 es ext row m i k n s a:=by kernel_rfl
noncomputable def POpA (s:List UInt8) (es ext:List (List D)):Tr:=Tr.jmp (frg sc62 0) { tm:=[(1,D.slice es ext),(2,D.ptr 0 0)],ob:=[(0,Ob.cells [D.str s])] }
theorem POpA_eq (s:List UInt8) (es ext:List (List D)):goT Tryz.prog (ctr libT) 0 (finF true 0 rs62) 2000 [Fr.sc sc62] { tm:=envOf 0 [D.str s,D.slice es ext],ob:=[] }=POpA s es ext:=by kernel_rfl
noncomputable def POp0 (s:List UInt8) (es ext:List (List D)):Tr:=Tr.jmp (frg sc62 1) { tm:=[(1,D.slice es ext),(2,D.ptr 0 0),(5,D.vec 1)],ob:=[(0,Ob.cells [D.str s]),(1,Ob.arr true 1 22 [])] }
theorem POp0_eq (s:List UInt8) (es ext:List (List D)):goT Tryz.prog (ctr libT) 0 (finF true 0 rs62) 2000 (frg sc62 0) { tm:=[(1,D.slice es ext),(2,D.ptr 0 0)],ob:=[(0,Ob.cells [D.str s])] }=POp0 s es ext:=by kernel_rfl
noncomputable def POp1 (s:List UInt8) (es ext:List (List D)):Tr:=Tr.jmp (cut sc62 0) { tm:=[(2,D.ptr 0 0),(5,D.vec 1),(14,D.slice es ext),(15,D.int .i64 (↑(List.length es):Int)),(16,D.int .i64 (0:Int))],ob:=[(0,Ob.cells [D.str s]),(1,Ob.arr true 1 22 [])] }
theorem POp1_eq (s:List UInt8) (es ext:List (List D)):goT Tryz.prog (ctr libT) 0 (finF true 0 rs62) 2000 (frg sc62 1) { tm:=[(1,D.slice es ext),(2,D.ptr 0 0),(5,D.vec 1)],ob:=[(0,Ob.cells [D.str s]),(1,Ob.arr true 1 22 [])] }=POp1 s es ext:=by kernel_rfl
def hdOp (s:List UInt8) (es ext row:List (List D)) (m i:Int):St:=⟨[(2,.ptr 0 0),(5,.vec 1),(14,.slice es ext),(15,.int .i64 m),(16,.int .i64 i)],[(0,.cells [.str s]),(1,.arr true 1 22 row)]⟩
noncomputable def POpL (s:List UInt8) (es ext row xs:List (List D)) (m:Int) (i:Nat) (q:List (List D)):Tr:=brT (decide ((↑i:Int)<m)) (Tr.owe ((0:Int)<=(↑i:Int)/\es[Int.toNat (↑i:Int)]? = some [D.slice xs []]) (Tr.owe (FnOK Tryz.prog 61 [D.slice xs []] (D.own 1 3 q)) (Tr.owe (allLen 1 [[D.slice q []]]/\List.length row+1<=1073741824) (Tr.owe ((-9223372036854775808:Int)<=(↑i:Int)+(1:Int)/\(↑i:Int)+(1:Int)<=(9223372036854775807:Int)) (Tr.jmp (cut sc62 0) { tm:=[(2,D.ptr 0 0),(5,D.vec 1),(14,D.slice es ext),(15,D.int .i64 m),(16,D.int .i64 ((↑i:Int)+(1:Int)))],ob:=[(0,Ob.cells [D.str s]),(1,Ob.arr true 1 22 (row++[[D.slice q []]]))] }))))) (Tr.jmp (frg sc62 2) { tm:=[(2,D.ptr 0 0),(5,D.vec 1)],ob:=[(0,Ob.cells [D.str s]),(1,Ob.arr true 1 22 row)] })
theorem POpL_eq (s:List UInt8) (es ext row xs:List (List D)) (m:Int) (i:Nat) (q:List (List D)):goT Tryz.prog (ctr (asmP (D.own 1 3 q)) qnone (eOne [D.slice xs []])) 0 (finF true 0 rs62) 2000 (cut sc62 0) (hdOp s es ext row m (↑i:Int))=POpL s es ext row xs m i q:=by kernel_rfl
noncomputable def POp2 (s:List UInt8) (row:List (List D)):Tr:=Tr.jmp (frg sc62 3) { tm:=[(2,D.ptr 0 0),(5,D.vec 1),(8,D.ptr 2 0)],ob:=[(0,Ob.cells [D.str s]),(1,Ob.arr true 1 22 row),(2,Ob.cells [D.map 3]),(3,Ob.gen (Gen.mapC [] []) [])] }
theorem POp2_eq (s:List UInt8) (row:List (List D)):goT Tryz.prog (ctr libT) 0 (finF true 0 rs62) 2000 (frg sc62 2) { tm:=[(2,D.ptr 0 0),(5,D.vec 1)],ob:=[(0,Ob.cells [D.str s]),(1,Ob.arr true 1 22 row)] }=POp2 s row:=by kernel_rfl
noncomputable def POpR (s:List UInt8) (row:List (List D)) (ks vs:List D):Tr:=Tr.owe True (Tr.owe (CallL Tryz.prog (D.func (Fn.func 100) [] [D.ptr 0 0]) [D.yld 1] [(0,Ob.cells [D.slice row []]),(1,Ob.gen (Gen.loop LoopState.ready none #[29] (SC.reg [so 9 AOp.mv [xt 29]]) (SC.block 3 (SC.seq (SC.reg [so 31 (AOp.load false 1) [xt 2],so 32 AOp.mv [xt 9],SOp.cd (some 33) none (xc (D.func (Fn.func 10) [] [])) [xt 31,xt 32],so 30 AOp.mv [xt 33],so 34 (AOp.extract 0) [xt 30],so 35 (AOp.extract 1) [xt 30],so 10 AOp.mv [xt 34],so 11 AOp.mv [xt 35]]) (SC.seq (SC.reg [so 36 AOp.mv [xt 11]]) (SC.cond (xt 36) (SC.seq (SC.reg [so 37 (AOp.load false 1) [xt 8],so 38 AOp.mv [xt 10],so 39 AOp.mv [xt 10],SOp.st none (SK.k (some IntKind.i64) (xt 38)) (xt 37) (xt 39)]) (SC.reg [so 40 (AOp.load false 1) [xt 8],so 41 (AOp.ext Ext.lenm) [xt 40],so 42 (AOp.call 81) [xt 41]])) SC.skip)))) 56 [28,27,2,5,8]) [D.func (Fn.func 100) [] [D.ptr 0 0],D.vec 2,D.ptr 3 0,D.vec 2,D.ptr 4 0]),(2,Ob.arr true 1 22 row),(3,Ob.cells [D.str s]),(4,Ob.cells [D.map 5]),(5,Ob.gen (Gen.mapC [] []) [])] fun r0 ob0=>r0=D.tuple []/\ob0=[(0,Ob.cells [D.slice row []]),(1,Ob.gen (Gen.loop LoopState.ready none #[29] (SC.reg [so 9 AOp.mv [xt 29]]) (SC.block 3 (SC.seq (SC.reg [so 31 (AOp.load false 1) [xt 2],so 32 AOp.mv [xt 9],SOp.cd (some 33) none (xc (D.func (Fn.func 10) [] [])) [xt 31,xt 32],so 30 AOp.mv [xt 33],so 34 (AOp.extract 0) [xt 30],so 35 (AOp.extract 1) [xt 30],so 10 AOp.mv [xt 34],so 11 AOp.mv [xt 35]]) (SC.seq (SC.reg [so 36 AOp.mv [xt 11]]) (SC.cond (xt 36) (SC.seq (SC.reg [so 37 (AOp.load false 1) [xt 8],so 38 AOp.mv [xt 10],so 39 AOp.mv [xt 10],SOp.st none (SK.k (some IntKind.i64) (xt 38)) (xt 37) (xt 39)]) (SC.reg [so 40 (AOp.load false 1) [xt 8],so 41 (AOp.ext Ext.lenm) [xt 40],so 42 (AOp.call 81) [xt 41]])) SC.skip)))) 56 [28,27,2,5,8]) [D.func (Fn.func 100) [] [D.ptr 0 0],D.vec 2,D.ptr 3 0,D.vec 2,D.ptr 4 0]),(2,Ob.arr true 1 22 row),(3,Ob.cells [D.str s]),(4,Ob.cells [D.map 5]),(5,Ob.gen (Gen.mapC ks vs) [])]) (Tr.jmp (frg sc62 4) { tm:=[(8,D.ptr 0 0)],ob:=[(0,Ob.cells [D.map 1]),(1,Ob.gen (Gen.mapC ks vs) [])] }))
theorem POpR_eq (s:List UInt8) (row:List (List D)) (ks vs:List D):goT Tryz.prog (ctr libT (QT.or rowsQ (asmA (D.tuple []) (updO [] ks vs)))) 0 (finF true 0 rs62) 2000 (frg sc62 3) { tm:=[(2,D.ptr 0 0),(5,D.vec 1),(8,D.ptr 2 0)],ob:=[(0,Ob.cells [D.str s]),(1,Ob.arr true 1 22 row),(2,Ob.cells [D.map 3]),(3,Ob.gen (Gen.mapC [] []) [])] }=POpR s row ks vs:=by kernel_rfl
noncomputable def POp4 (ks vs:List D):Tr:=Tr.jmp (frg sc62 5) { tm:=[(8,D.ptr 0 0),(12,D.vec 1)],ob:=[(0,Ob.cells [D.map 2]),(1,Ob.arr false 4 33 []),(2,Ob.gen (Gen.mapC ks vs) [])] }
theorem POp4_eq (ks vs:List D):goT Tryz.prog (ctr libT) 0 (finF true 0 rs62) 2000 (frg sc62 4) { tm:=[(8,D.ptr 0 0)],ob:=[(0,Ob.cells [D.map 1]),(1,Ob.gen (Gen.mapC ks vs) [])] }=POp4 ks vs:=by kernel_rfl
noncomputable def POp5 (ks vs:List D):Tr:=Tr.jmp (spc sc62 6) { tm:=[(8,D.ptr 0 0),(12,D.vec 1)],ob:=[(0,Ob.cells [D.map 2]),(1,Ob.arr false 4 33 []),(2,Ob.gen (Gen.mapC ks vs) [])] }
theorem POp5_eq (ks vs:List D):goT Tryz.prog (ctr libT) 0 (finF true 0 rs62) 2000 (frg sc62 5) { tm:=[(8,D.ptr 0 0),(12,D.vec 1)],ob:=[(0,Ob.cells [D.map 2]),(1,Ob.arr false 4 33 []),(2,Ob.gen (Gen.mapC ks vs) [])] }=POp5 ks vs:=by kernel_rfl
noncomputable def POp6 (ks vs:List D) (l:List Nat) (cl:Nat):Tr:=Tr.jmp (cut sc62 1) { tm:=[(12,D.vec 0),(44,D.ptr 1 0)],ob:=[(0,Ob.arr false 4 33 []),(1,Ob.gen (Gen.iter l [] cl) [D.map 2]),(2,Ob.gen (Gen.mapB ks vs l cl) [])] }
theorem POp6_eq (ks vs:List D) (l:List Nat) (cl:Nat):goT Tryz.prog (ctr libT) 0 (finF true 0 rs62) 2000 (aft sc62 6) { tm:=[(44,D.ptr 47 0),(43,D.map 2),(8,D.ptr 0 0),(12,D.vec 1)],ob:=[(47,Ob.gen (Gen.iter l [] cl) [D.map 2]),(2,Ob.gen (Gen.mapB ks vs l cl) []),(0,Ob.cells [D.map 2]),(1,Ob.arr false 4 33 [])] }=POp6 ks vs l cl:=by kernel_rfl
noncomputable def POpM (ks vs:List D) (l ix:List Nat) (cl:Nat) (out:List (List D)):Tr:=Tr.jmp (spc sc62 7) { tm:=[(12,D.vec 0),(44,D.ptr 1 0)],ob:=[(0,Ob.arr false 4 33 out),(1,Ob.gen (Gen.iter l ix cl) [D.map 2]),(2,Ob.gen (Gen.mapB ks vs l cl) [])] }
theorem POpM_eq (ks vs:List D) (l ix:List Nat) (cl:Nat) (out:List (List D)):goT Tryz.prog (ctr libT) 0 (finF true 0 rs62) 2000 (cut sc62 1) { tm:=[(12,D.vec 0),(44,D.ptr 1 0)],ob:=[(0,Ob.arr false 4 33 out),(1,Ob.gen (Gen.iter l ix cl) [D.map 2]),(2,Ob.gen (Gen.mapB ks vs l cl) [])] }=POpM ks vs l ix cl out:=by kernel_rfl
noncomputable def POpF (ks vs:List D) (l ix:List Nat) (cl:Nat) (out:List (List D)):Tr:=Tr.jmp (frg sc62 6) { tm:=[(12,D.vec 0)],ob:=[(0,Ob.arr false 4 33 out)] }
theorem POpF_eq (ks vs:List D) (l ix:List Nat) (cl:Nat) (out:List (List D)):goT Tryz.prog (ctr libT) 0 (finF true 0 rs62) 2000 (aft sc62 7) { tm:=[(46,D.bool false),(45,D.undef),(12,D.vec 0),(44,D.ptr 1 0)],ob:=[(2,Ob.gen (Gen.mapC ks vs) []),(0,Ob.arr false 4 33 out),(1,Ob.gen (Gen.iter l ix cl) [D.map 2])] }=POpF ks vs l ix cl out:=by kernel_rfl
noncomputable def POpT (ks vs:List D) (l ix:List Nat) (cl:Nat) (out:List (List D)) (n:Int):Tr:=Tr.owe (extD Ext.entry [D.ptr 1 0] (lk (St.ob { tm:=[(46,D.bool true),(45,D.undef),(12,D.vec 0),(44,D.ptr 1 0)],ob:=[(1,Ob.gen (Gen.iter l ix cl) [D.map 2]),(0,Ob.arr false 4 33 out),(2,Ob.gen (Gen.mapB ks vs l cl) [])] }))=some (D.tuple [D.int .i64 n,D.int .i64 n])) (Tr.owe (FnOK Tryz.prog 82 [D.int .i64 n] (D.agg [D.int .u8 (1:Int),D.int .i64 n,D.str [],D.slice [] []])) (Tr.owe (allLen 4 [[D.int .u8 (1:Int),D.int .i64 n,D.str [],D.slice [] []]]/\List.length out+1<=1073741824) (Tr.jmp (cut sc62 1) { tm:=[(12,D.vec 0),(44,D.ptr 1 0)],ob:=[(0,Ob.arr false 4 33 (out++[[D.int .u8 (1:Int),D.int .i64 n,D.str [],D.slice [] []]])),(1,Ob.gen (Gen.iter l ix cl) [D.map 2]),(2,Ob.gen (Gen.mapB ks vs l cl) [])] })))
theorem POpT_eq (ks vs:List D) (l ix:List Nat) (cl:Nat) (out:List (List D)) (n:Int):goT Tryz.prog (ctr (asmP (D.agg [D.int .u8 (1:Int),D.int .i64 n,D.str [],D.slice [] []])) qnone (eOne [D.tuple [D.int .i64 n,D.int .i64 n]])) 0 (finF true 0 rs62) 2000 (aft sc62 7) { tm:=[(46,D.bool true),(45,D.undef),(12,D.vec 0),(44,D.ptr 1 0)],ob:=[(1,Ob.gen (Gen.iter l ix cl) [D.map 2]),(0,Ob.arr false 4 33 out),(2,Ob.gen (Gen.mapB ks vs l cl) [])] }=POpT ks vs l ix cl out n:=by kernel_rfl
noncomputable def POpE (out res:List (List D)):Tr:=Tr.owe (CallL Tryz.prog (D.func (Fn.func 84) [] []) [D.vec 0] [(0,Ob.arr false 4 33 out)] fun r0 ob0=>r0=D.vec 0/\ob0=[(0,Ob.arr true 4 33 res)]) (Tr.ret (D.own 4 33 res) [])
theorem POpE_eq (out res:List (List D)):goT Tryz.prog (ctr libT (asmO (D.vec 0) [(0,Ob.arr true 4 33 res)])) 0 (finF true 0 rs62) 2000 (frg sc62 6) { tm:=[(12,D.vec 0)],ob:=[(0,Ob.arr false 4 33 out)] }=POpE out res:=by kernel_rfl
noncomputable def PNum (n:Int):Tr:=Tr.ret (D.agg [D.int .u8 (1:Int),D.int .i64 n,D.str [],D.slice [] []]) []
theorem PNum_eq (n:Int):goT Tryz.prog (ctr libT) 0 (finF true 0 rs82) 2000 [Fr.sc sc82] { tm:=envOf 0 [D.int .i64 n],ob:=[] }=PNum n:=by kernel_rfl
theorem num_ok (n:Int):FnOK Tryz.prog 82 [.int .i64 n] (.agg [.int .u8 1,.int .i64 n,.str [],.slice [] []]):=by
 refine FnOK.tree hdraw fp82 (ctr_ok libT_ok qnone_ok) (PNum_eq n) ?_
 unfold PNum
 simp only[SS]
theorem int_at (ext:List (List D)) (l:List Tm) (hl:l.length<=1073741823): ∀ (m i:Nat) (row:List Int),l.length-i=m->i<=l.length->row.length<=i →
  At Tryz.prog 0 (cut sc61 0) (hdInt (Tm.cellsL l) ext (intC .i64 row) l.length i) (FinQ true 0 rs61 fun r _=>r= .own 1 3 (intC .i64 (row++intsT (l.drop i)))):=by
 intro m
 induction m with
 | zero =>
  intro i row hm hi hr
  refine At.tree (ctr_ok libT_ok qnone_ok) (PInt2_eq (Tm.cellsL l) ext (intC .i64 row) l.length i 0 0 [] []) ?_
  unfold PInt2
  have e:l.drop i=[]:=List.drop_eq_nil_of_le (by omega)
  rw[e]
  simp only[SS,intsT,List.filterMap_nil,List.append_nil]
  exact⟨fun h=>by omega,fun _=>trivial⟩
 | succ m ih =>
  intro i row hm hi hr
  have h1:i<l.length:=by omega
  have hx:(Tm.cellsL l)[i]? = some l[i].cells:=by rw[cellsL_map]; simp[h1]
  rw[drop_cons h1]
  generalize l[i]=x at hx
  obtain⟨k,n,s,a⟩:=x
  refine At.tree (ctr_ok libT_ok qnone_ok) (PInt2_eq (Tm.cellsL l) ext (intC .i64 row) l.length i k n s (Tm.cellsL a)) ?_
  unfold PInt2
  have al: ∀ n:Int,allLen 1 [[D.int .i64 n]]:=fun n=>by simp[allLen]
  simp only[SS,intC_len]
  refine⟨fun _=>⟨⟨by omega,hx⟩,fun hk=>⟨⟨al n,by omega⟩,by omega, ?_⟩,fun hk=>⟨by omega, ?_⟩⟩,fun h=>by omega⟩
  ·have:=ih (i+1) (row++[n]) (by omega) (by omega) (by simp; omega)
   have e:intsT (Tm.mk k n s a::l.drop (i+1))=n::intsT (l.drop (i+1)):=by rw[intsT_cons,if_pos (by omega)]
   have e2:intC .i64 (row++[n])=intC .i64 row++[[.int .i64 n]]:=by simp[intC]
   rw[e]
   rw[e2,List.append_assoc] at this
   exact this
  ·have:=ih (i+1) row (by omega) (by omega) (by omega)
   have e:intsT (Tm.mk k n s a::l.drop (i+1))=intsT (l.drop (i+1)):=by rw[intsT_cons,if_neg (by omega)]
   rw[e]
   exact this
theorem int_ok (ext:List (List D)) (l:List Tm) (hl:l.length<=1073741823):FnOK Tryz.prog 61 [.slice (Tm.cellsL l) ext] (.own 1 3 (intC .i64 (intsT l))):=by
 refine FnOK.tree hdraw fp61 (ctr_ok libT_ok qnone_ok) (PInt_eq (Tm.cellsL l) ext) ?_
 unfold PInt
 simp only[SS,cellsL_length]
 exact int_at ext l hl _ 0 [] rfl (Nat.zero_le _) (Nat.zero_le _)
def SetC (q res:List Int):Prop:=CallL Tryz.prog (.func (.func 84) [] []) [.vec 0] [(0,.arr false 4 33 (numC q))] fun r ob=>r= .vec 0/\ob=[(0,.arr true 4 33 (numC res))]
theorem spc7:spc sc62 7= .sc (.spec (.nxt (xt 44) 45 46))::aft sc62 7:=rfl
theorem spc6:spc sc62 6= .sc (.spec (.rng [so 43 (.load false 1) [xt 8]] 44 (xt 43)))::aft sc62 6:=rfl
theorem numC_len (l:List Int):(numC l).length=l.length:=by simp[numC]
theorem map_at (acc res:List Int) (hset: ∀ q:List Int,q.Perm acc->SetC q res) (hacc:acc.length<=1000) (l:List Nat) (hl:l.length=acc.length) (cl:Nat): ∀ (m:Nat) (ix:List Nat),ix.Nodup->(∀ i∈ix,i<acc.length)->acc.length-ix.length=m →
  swF Tryz.prog (6001+4001*m) 0 (cut sc62 1) ⟨[(12,.vec 0),(44,.ptr 1 0)],[(0,.arr false 4 33 (numC (ix.map fun i=>acc.getD i 0))),(1,.gen (.iter l ix cl) [.map 2]),(2,.gen (.mapB (intD acc) (intD acc) l cl) [])]⟩
   (FinQ true 0 rs62 fun r _=>r= .own 4 33 (numC res)):=by
 intro m
 induction m with
 | zero =>
  intro ix hnd hlt hm
  have hlen:ix.length<=acc.length:=by
   have:=List.Nodup.length_le_of_subset hnd (l₂:=List.range acc.length) (fun i hi=>List.mem_range.2 (hlt i hi))
   simpa using this
  refine swF.tree (n0:=4001) (n:=2000) (ctr_ok libT_ok qnone_ok) (POpM_eq (intD acc) (intD acc) l ix cl (numC (ix.map fun i=>acc.getD i 0))) ?_
  unfold POpM
  rw[ok_jmp,spc7]
  refine swF_spec ⟨1,l,ix,cl,2,intD acc,intD acc,rfl,rfl,rfl,by decide,fun hall=>⟨rfl, ?_⟩,fun i hi hn=>⟨rfl, ?_⟩⟩
  ·refine swF.tree (n0:=2000) (n:=2000) (ctr_ok libT_ok qnone_ok) (POpF_eq (intD acc) (intD acc) l ix cl (numC (ix.map fun i=>acc.getD i 0))) ?_
   unfold POpF
   rw[ok_jmp]
   refine swF.tree (n0:=0) (n:=2000) (ctr_ok libT_ok (asmO_ok _ _)) (POpE_eq (numC (ix.map fun i=>acc.getD i 0)) (numC res)) ?_
   unfold POpE
   simp only[SS]
   exact hset _ (perm_ix hnd hlt fun i hi=>hall i (by omega))
  ·exact absurd (full_ix hnd hlt (by omega) i (by omega)) hn
 | succ m ih =>
  intro ix hnd hlt hm
  rw[show 6001+4001*(m+1)=(4000+4001*(m+1)+1)+2000 by omega]
  refine swF.tree (n0:=4000+4001*(m+1)+1) (n:=2000) (ctr_ok libT_ok qnone_ok) (POpM_eq (intD acc) (intD acc) l ix cl (numC (ix.map fun i=>acc.getD i 0))) ?_
  unfold POpM
  rw[ok_jmp,spc7]
  refine swF_spec ⟨1,l,ix,cl,2,intD acc,intD acc,rfl,rfl,rfl,by decide,fun hall=>⟨rfl, ?_⟩,fun i hi hn=>⟨rfl, ?_⟩⟩
  ·have hp:=perm_ix hnd hlt fun i hi=>hall i (by omega)
   have:=hp.length_eq
   simp only[List.length_map] at this
   omega
  ·have hi':i<acc.length:=by omega
   have hI:=ih (ix++[i]) (by rw[List.nodup_append]; exact⟨hnd,by simp,fun a ha b hb e=>by simp at hb; subst hb; subst e; exact hn ha⟩) (fun j hj=>by
    rcases List.mem_append.1 hj with hj | hj
    ·exact hlt j hj
    ·simp at hj; omega) (by simp; omega)
   rw[show 4000+4001*(m+1)=(6001+4001*m)+2000 by omega]
   refine swF.tree (n0:=6001+4001*m) (n:=2000) (ctr_ok (asmP_ok _) qnone_ok) (POpT_eq (intD acc) (intD acc) l (ix++[i]) cl (numC (ix.map fun i=>acc.getD i 0)) (acc.getD i 0)) ?_
   unfold POpT
   have hlen:ix.length<=acc.length:=by
    have:=List.Nodup.length_le_of_subset hnd (l₂:=List.range acc.length) (fun i hi=>List.mem_range.2 (hlt i hi))
    simpa using this
   have e:numC (ix.map fun i=>acc.getD i 0)++[[D.int .u8 1,D.int .i64 (acc.getD i 0),D.str [],D.slice [] []]]=numC ((ix++[i]).map fun i=>acc.getD i 0):=by simp[numC]
   have hg:(intD acc)[i]? = some (.int .i64 (acc.getD i 0)):=by simp[intD,hi']
   simp only[SS,numC_len,List.length_map]
   rw[e]
   refine⟨?_,num_ok _,⟨by simp[allLen],by omega⟩,hI⟩
   simp[extD,lk,hg,kOK]
def partD (L:List (List Tm)):List (List D):=L.map fun l=>[.slice (Tm.cellsL l) []]
theorem partD_len (L:List (List Tm)):(partD L).length=L.length:=by simp[partD]
theorem partD_get {L:List (List Tm)} {i:Nat} (h:i<L.length):(partD L)[i]? = some [.slice (Tm.cellsL L[i]) []]:=by simp[partD,h]
section
variable (s:List UInt8) (L:List (List Tm)) (ext:List (List D)) (acc res:List Int) (hL:L.length<=1073741823) (hl: ∀ l∈L,l.length<=1073741823) (hacc:(fillS (opB s) (L.map intsT) 0 (List.replicate L.length 0,[])).2=acc) (hz:acc.length<=1000) (hset: ∀ q:List Int,q.Perm acc->SetC q res)
abbrev QOp (res:List Int):Exit->St->Prop:=FinQ true 0 rs62 fun r _=>r= .own 4 33 (numC res)
include hL hl hacc hz hset
theorem op3_at:At Tryz.prog 0 (frg sc62 2) ⟨[(2,.ptr 0 0),(5,.vec 1)],[(0,.cells [.str s]),(1,.arr true 1 22 (lisD (L.map intsT)))]⟩ (QOp res):=by
 refine At.tree (ctr_ok libT_ok qnone_ok) (POp2_eq s (lisD (L.map intsT))) ?_
 unfold POp2
 rw[ok_jmp]
 refine At.tree (ctr_ok libT_ok (QT.or_ok rowsQ_ok (asmA_ok _ _))) (POpR_eq s (lisD (L.map intsT)) (intD acc) (intD acc)) ?_
 unfold POpR
 have hI: ∀ l∈L.map intsT,l.length<=1073741824:=by
  intro l h
  obtain⟨l',h',rfl⟩:=List.mem_map.1 h
  have:=hl l' h'
  have:=List.length_filterMap_le Tm.int? l'
  unfold intsT
  omega
 have hR:=rwsO_ok s (L.map intsT) (by simp; omega) hI (by rw[List.length_map,hacc]; exact hz)
 rw[List.length_map,hacc] at hR
 simp only[SS]
 refine⟨hR, ?_⟩
 refine At.tree (ctr_ok libT_ok qnone_ok) (POp4_eq (intD acc) (intD acc)) ?_
 unfold POp4
 rw[ok_jmp]
 refine At.tree (ctr_ok libT_ok qnone_ok) (POp5_eq (intD acc) (intD acc)) ?_
 unfold POp5
 rw[ok_jmp,spc6]
 refine⟨_,swF_spec (n:=6001+4001*acc.length+2000) ⟨2,intD acc,intD acc,rfl,rfl,rfl,(by show (2:Nat)≠47; decide),fun l cl h1 h2 h3=>⟨rfl, ?_⟩⟩⟩
 refine swF.tree (n0:=6001+4001*acc.length) (n:=2000) (ctr_ok libT_ok qnone_ok) (POp6_eq (intD acc) (intD acc) l cl) ?_
 unfold POp6
 rw[ok_jmp]
 exact map_at acc res hset hz l (by rw[h1,intD_len]) cl _ [] List.nodup_nil (fun i hi=>by simp at hi) rfl
theorem opl_at: ∀ (m i:Nat),L.length-i=m->i<=L.length →
  At Tryz.prog 0 (cut sc62 0) (hdOp s (partD L) ext (lisD ((L.take i).map intsT)) L.length i) (QOp res):=by
 intro m
 induction m with
 | zero =>
  intro i hm hi
  refine At.tree (ctr_ok (asmP_ok _) qnone_ok) (POpL_eq s (partD L) ext (lisD ((L.take i).map intsT)) [] L.length i []) ?_
  unfold POpL
  have e:L.take i=L:=List.take_of_length_le (by omega)
  rw[e]
  simp only[SS]
  exact⟨fun h=>by omega,fun _=>op3_at s L acc res hL hl hacc hz hset⟩
 | succ m ih =>
  intro i hm hi
  have h1:i<L.length:=by omega
  have e:lisD ((L.take i).map intsT)++[[.slice (intC .i64 (intsT L[i])) []]]=lisD ((L.take (i+1)).map intsT):=by
   rw[List.take_add_one,List.getElem?_eq_getElem h1]
   simp only[lisD,List.map_append,Option.toList_some,List.map_cons,List.map_nil]
  refine At.tree (ctr_ok (asmP_ok _) qnone_ok) (POpL_eq s (partD L) ext (lisD ((L.take i).map intsT)) (Tm.cellsL L[i]) L.length i (intC .i64 (intsT L[i]))) ?_
  unfold POpL
  simp only[SS,lisD_len,List.length_map,List.length_take]
  rw[e]
  refine⟨fun _=>⟨⟨by omega,partD_get h1⟩,int_ok [] L[i] (hl _ (List.getElem_mem h1)),⟨by simp[allLen],by omega⟩,by omega,ih (i+1) (by omega) (by omega)⟩,fun h=>by omega⟩
theorem op_ok:FnOK Tryz.prog 62 [.str s,.slice (partD L) ext] (.own 4 33 (numC res)):=by
 refine FnOK.tree hdraw fp62 (ctr_ok libT_ok qnone_ok) (POpA_eq s (partD L) ext) ?_
 unfold POpA
 rw[ok_jmp]
 refine At.tree (ctr_ok libT_ok qnone_ok) (POp0_eq s (partD L) ext) ?_
 unfold POp0
 rw[ok_jmp]
 refine At.tree (ctr_ok libT_ok qnone_ok) (POp1_eq s (partD L) ext) ?_
 unfold POp1
 rw[ok_jmp,partD_len]
 exact opl_at s L ext acc res hL hl hacc hz hset _ 0 rfl (Nat.zero_le _)
end
end Go.Proofs.YtfoklncmfoogcaaGreatDoor
