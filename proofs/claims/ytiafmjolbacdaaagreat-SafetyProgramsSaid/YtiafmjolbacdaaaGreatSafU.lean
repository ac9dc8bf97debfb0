/- Own work: a layer over the kit: plain data,a walk over it,its soundness. -/
import Derived.Test.YtiafmjolbacdaaaGreatSafO
set_option linter.unusedSectionVars false
set_option linter.unusedVariables false
set_option linter.unusedSimpArgs false
set_option linter.deprecated false
set_option maxRecDepth 100000
/- unsafe: trees. -/
namespace Go.Proofs.YtiafmjolbacdaaaGreat
open Go.Sx Go.RowKit
noncomputable def CUn (k : Int) (hs bs ts : List (List D)) (a1 a2 : Int) (a3 : List UInt8) (a4 : List (List D)) (b1 b2 : Int) (b3 : List UInt8) (b4 : List (List D)) (c1 c2 : Int) (c3 : List UInt8) (c4 : List (List D)) (d1 d2 : Int) (d3 : List UInt8) (d4 : List (List D)) (gk gc : List D) : Tr := Tr.owe (CallL Tryz.prog (D.func (Fn.func 30) [] []) [D.agg (rC k hs bs ts a1 a2 a3 a4 b1 b2 b3 b4 c1 c2 c3 c4 d1 d2 d3 d4)] [] fun r0 ob0 => r0 = D.map 0 /\ ob0 = [(0,Ob.gen (Gen.mapC gk gc) [])]) (Tr.jmp (cut sc29 0) { tm := [(1,D.ptr 0 0),(3,D.ptr 1 0),(4,D.vec 2),(16,D.slice bs []),(17,D.int .i64 (↑(List.length bs) : Int)),(18,D.int .i64 (0 : Int))],ob := [(0,Ob.cells (rC k hs bs ts a1 a2 a3 a4 b1 b2 b3 b4 c1 c2 c3 c4 d1 d2 d3 d4)),(1,Ob.cells [D.map 3,D.map 4]),(2,Ob.arr true 13 34 []),(3,Ob.gen (Gen.mapC gk gc) []),(4,Ob.gen (Gen.mapC [] []) [])] })
theorem CUn_eq (k : Int) (hs bs ts : List (List D)) (a1 a2 : Int) (a3 : List UInt8) (a4 : List (List D)) (b1 b2 : Int) (b3 : List UInt8) (b4 : List (List D)) (c1 c2 : Int) (c3 : List UInt8) (c4 : List (List D)) (d1 d2 : Int) (d3 : List UInt8) (d4 : List (List D)) (gk gc : List D) : goT Tryz.prog (ctrS libT (byT [(12,asmO (D.map 0) [(0,mO gk gc)])])) 0 (finF false 0 rs29) 2000 [Fr.sc sc29] { tm := envOf 0 ([] ++ [D.agg (rC k hs bs ts a1 a2 a3 a4 b1 b2 b3 b4 c1 c2 c3 c4 d1 d2 d3 d4)] ++ []),ob := [] } = CUn k hs bs ts a1 a2 a3 a4 b1 b2 b3 b4 c1 c2 c3 c4 d1 d2 d3 d4 gk gc := by kernel_rfl
def obU (R : List D) (gk gc uk uc : List D) (body : List (List D)) : Obs := [(0,.cells R),(1,.cells [.map 3,.map 4]),(2,.arr true 13 34 body),(3,mO gk gc),(4,mO uk uc)]
def tmU : Env := [(1,.ptr 0 0),(3,.ptr 1 0),(4,.vec 2)]
def tmUb (bs : List (List D)) (m i : Int) : Env := tmU ++ [(16,.slice bs []),(17,.int .i64 m),(18,.int .i64 i)]
noncomputable def CUb (k : Int) (hs bs ts : List (List D)) (a1 a2 : Int) (a3 : List UInt8) (a4 : List (List D)) (b1 b2 : Int) (b3 : List UInt8) (b4 : List (List D)) (c1 c2 : Int) (c3 : List UInt8) (c4 : List (List D)) (d1 d2 : Int) (d3 : List UInt8) (d4 : List (List D)) (gk gc uk uc vk vc : List D) (body : List (List D)) (m i bk l1 : Int) (l2 : Bool) (l3 : List UInt8) (l4 : List (List D)) (l5 l6 l7 : Int) (l8 : List UInt8) (l9 : List (List D)) (l10 l11 : Int) (l12 : List UInt8) (l13 bcn : List (List D)) (bno : Bool) (bf : Int) (be : List (List D)) (bop t1 t2 : Int) (t3 : List UInt8) (t4 w : List (List D)) : Tr := brT (decide (i < m)) (Tr.owe ((0 : Int) <= i /\ bs[Int.toNat i]? = some (bC bk l1 l2 l3 l4 l5 l6 l7 l8 l9 l10 l11 l12 l13 bcn bno bf be bop t1 t2 t3 t4)) (brT (decide (bk = (1 : Int))) (Tr.owe (allLen 13 [[D.int .u8 l1,D.bool l2,D.str l3,D.slice l4 [],D.int .u8 l5,D.int .u8 l6,D.int .i64 l7,D.str l8,D.slice l9 [],D.int .u8 l10,D.int .i64 l11,D.str l12,D.slice l13 []]] /\ List.length body + 1 <= 1073741824) (Tr.owe ((-9223372036854775808 : Int) <= i + (1 : Int) /\ i + (1 : Int) <= (9223372036854775807 : Int)) (Tr.jmp (cut sc29 0) { tm := [(1,D.ptr 0 0),(3,D.ptr 1 0),(4,D.vec 2),(16,D.slice bs []),(17,D.int .i64 m),(18,D.int .i64 (i + (1 : Int)))],ob := [(0,Ob.cells (rC k hs bs ts a1 a2 a3 a4 b1 b2 b3 b4 c1 c2 c3 c4 d1 d2 d3 d4)),(1,Ob.cells [D.map 3,D.map 4]),(2,Ob.arr true 13 34 (body ++ [[D.int .u8 l1,D.bool l2,D.str l3,D.slice l4 [],D.int .u8 l5,D.int .u8 l6,D.int .i64 l7,D.str l8,D.slice l9 [],D.int .u8 l10,D.int .i64 l11,D.str l12,D.slice l13 []]])),(3,Ob.gen (Gen.mapC gk gc) []),(4,Ob.gen (Gen.mapC uk uc) [])] }))) (brT (decide (bk = (2 : Int))) (Tr.owe (CallL Tryz.prog (D.func (Fn.func 41) [] []) [D.slice [[D.int .u8 l1,D.bool l2,D.str l3,D.slice l4 [],D.int .u8 l5,D.int .u8 l6,D.int .i64 l7,D.str l8,D.slice l9 [],D.int .u8 l10,D.int .i64 l11,D.str l12,D.slice l13 []]] []] [] fun r0 ob0 => r0 = D.func (Fn.func 59) [] [D.ptr 0 0] /\ ob0 = [(0,Ob.cells [D.slice w []])]) (Tr.owe (CallL Tryz.prog (D.func (Fn.func 40) [] []) [D.agg [D.map 0,D.map 1],D.slice bcn [],D.func (Fn.func 59) [] [D.ptr 2 0]] [(0,Ob.gen (Gen.mapC gk gc) []),(1,Ob.gen (Gen.mapC uk uc) []),(2,Ob.cells [D.slice w []])] fun r0 ob0 => r0 = D.tuple [] /\ ob0 = [(0,Ob.gen (Gen.mapC gk gc) []),(1,Ob.gen (Gen.mapC vk vc) []),(2,Ob.cells [D.slice w []])]) (Tr.owe ((-9223372036854775808 : Int) <= i + (1 : Int) /\ i + (1 : Int) <= (9223372036854775807 : Int)) (Tr.jmp (cut sc29 0) { tm := [(1,D.ptr 0 0),(3,D.ptr 1 0),(4,D.vec 2),(16,D.slice bs []),(17,D.int .i64 m),(18,D.int .i64 (i + (1 : Int)))],ob := [(0,Ob.cells (rC k hs bs ts a1 a2 a3 a4 b1 b2 b3 b4 c1 c2 c3 c4 d1 d2 d3 d4)),(1,Ob.cells [D.map 3,D.map 4]),(2,Ob.arr true 13 34 body),(3,Ob.gen (Gen.mapC gk gc) []),(4,Ob.gen (Gen.mapC vk vc) [])] })))) (brT (decide (bk = (3 : Int))) (Tr.jmp (cut sc29 1) { tm := [(1,D.ptr 0 0),(3,D.ptr 1 0),(4,D.vec 2),(16,D.slice bs []),(17,D.int .i64 m),(18,D.int .i64 i),(44,D.slice be []),(45,D.int .i64 (↑(List.length be) : Int)),(46,D.int .i64 (0 : Int))],ob := [(0,Ob.cells (rC k hs bs ts a1 a2 a3 a4 b1 b2 b3 b4 c1 c2 c3 c4 d1 d2 d3 d4)),(1,Ob.cells [D.map 3,D.map 4]),(2,Ob.arr true 13 34 body),(3,Ob.gen (Gen.mapC gk gc) []),(4,Ob.gen (Gen.mapC uk uc) [])] }) (Tr.owe ((-9223372036854775808 : Int) <= i + (1 : Int) /\ i + (1 : Int) <= (9223372036854775807 : Int)) (Tr.jmp (cut sc29 0) { tm := [(1,D.ptr 0 0),(3,D.ptr 1 0),(4,D.vec 2),(16,D.slice bs []),(17,D.int .i64 m),(18,D.int .i64 (i + (1 : Int)))],ob := [(0,Ob.cells (rC k hs bs ts a1 a2 a3 a4 b1 b2 b3 b4 c1 c2 c3 c4 d1 d2 d3 d4)),(1,Ob.cells [D.map 3,D.map 4]),(2,Ob.arr true 13 34 body),(3,Ob.gen (Gen.mapC gk gc) []),(4,Ob.gen (Gen.mapC uk uc) [])] })))))) (Tr.jmp (cut sc29 2) { tm := [(1,D.ptr 0 0),(3,D.ptr 1 0),(4,D.vec 2),(60,D.slice hs []),(61,D.int .i64 (↑(List.length hs) : Int)),(62,D.int .i64 (0 : Int))],ob := [(0,Ob.cells (rC k hs bs ts a1 a2 a3 a4 b1 b2 b3 b4 c1 c2 c3 c4 d1 d2 d3 d4)),(1,Ob.cells [D.map 3,D.map 4]),(2,Ob.arr true 13 34 body),(3,Ob.gen (Gen.mapC gk gc) []),(4,Ob.gen (Gen.mapC uk uc) [])] })
theorem CUb_eq (k : Int) (hs bs ts : List (List D)) (a1 a2 : Int) (a3 : List UInt8) (a4 : List (List D)) (b1 b2 : Int) (b3 : List UInt8) (b4 : List (List D)) (c1 c2 : Int) (c3 : List UInt8) (c4 : List (List D)) (d1 d2 : Int) (d3 : List UInt8) (d4 : List (List D)) (gk gc uk uc vk vc : List D) (body : List (List D)) (m i bk l1 : Int) (l2 : Bool) (l3 : List UInt8) (l4 : List (List D)) (l5 l6 l7 : Int) (l8 : List UInt8) (l9 : List (List D)) (l10 l11 : Int) (l12 : List UInt8) (l13 bcn : List (List D)) (bno : Bool) (bf : Int) (be : List (List D)) (bop t1 t2 : Int) (t3 : List UInt8) (t4 w : List (List D)) : goT Tryz.prog (ctrS libT (byT [(39,asmW w),(40,asmA (D.tuple []) (updK 1 (mO vk vc)))]) (eOne (bC bk l1 l2 l3 l4 l5 l6 l7 l8 l9 l10 l11 l12 l13 bcn bno bf be bop t1 t2 t3 t4))) 0 (finF false 0 rs29) 2000 (cut sc29 0) { tm := tmUb bs m i,ob := obU (rC k hs bs ts a1 a2 a3 a4 b1 b2 b3 b4 c1 c2 c3 c4 d1 d2 d3 d4) gk gc uk uc body } = CUb k hs bs ts a1 a2 a3 a4 b1 b2 b3 b4 c1 c2 c3 c4 d1 d2 d3 d4 gk gc uk uc vk vc body m i bk l1 l2 l3 l4 l5 l6 l7 l8 l9 l10 l11 l12 l13 bcn bno bf be bop t1 t2 t3 t4 w := by kernel_rfl
noncomputable def CUe (k : Int) (hs bs ts : List (List D)) (a1 a2 : Int) (a3 : List UInt8) (a4 : List (List D)) (b1 b2 : Int) (b3 : List UInt8) (b4 : List (List D)) (c1 c2 : Int) (c3 : List UInt8) (c4 : List (List D)) (d1 d2 : Int) (d3 : List UInt8) (d4 : List (List D)) (gk gc uk uc vk vc : List D) (body : List (List D)) (m i : Int) (es : List (List D)) (me ie : Int) (et ec : List (List D)) : Tr := brT (decide (ie < me)) (Tr.owe ((0 : Int) <= ie /\ es[Int.toNat ie]? = some [D.slice et [],D.slice ec []]) (Tr.owe True (Tr.owe (CallL Tryz.prog (D.func (Fn.func 40) [] []) [D.agg [D.map 0,D.map 1],D.slice ec [],D.func (Fn.func 59) [] [D.ptr 2 0]] [(0,Ob.gen (Gen.mapC gk gc) []),(1,Ob.gen (Gen.mapC uk uc) []),(2,Ob.cells [D.slice et []])] fun r0 ob0 => r0 = D.tuple [] /\ ob0 = [(0,Ob.gen (Gen.mapC gk gc) []),(1,Ob.gen (Gen.mapC vk vc) []),(2,Ob.cells [D.slice et []])]) (Tr.owe ((-9223372036854775808 : Int) <= ie + (1 : Int) /\ ie + (1 : Int) <= (9223372036854775807 : Int)) (Tr.jmp (cut sc29 1) { tm := [(1,D.ptr 0 0),(3,D.ptr 1 0),(4,D.vec 2),(16,D.slice bs []),(17,D.int .i64 m),(18,D.int .i64 i),(44,D.slice es []),(45,D.int .i64 me),(46,D.int .i64 (ie + (1 : Int)))],ob := [(0,Ob.cells (rC k hs bs ts a1 a2 a3 a4 b1 b2 b3 b4 c1 c2 c3 c4 d1 d2 d3 d4)),(1,Ob.cells [D.map 3,D.map 4]),(2,Ob.arr true 13 34 body),(3,Ob.gen (Gen.mapC gk gc) []),(4,Ob.gen (Gen.mapC vk vc) [])] }))))) (Tr.owe ((-9223372036854775808 : Int) <= i + (1 : Int) /\ i + (1 : Int) <= (9223372036854775807 : Int)) (Tr.jmp (cut sc29 0) { tm := [(1,D.ptr 0 0),(3,D.ptr 1 0),(4,D.vec 2),(16,D.slice bs []),(17,D.int .i64 m),(18,D.int .i64 (i + (1 : Int)))],ob := [(0,Ob.cells (rC k hs bs ts a1 a2 a3 a4 b1 b2 b3 b4 c1 c2 c3 c4 d1 d2 d3 d4)),(1,Ob.cells [D.map 3,D.map 4]),(2,Ob.arr true 13 34 body),(3,Ob.gen (Gen.mapC gk gc) []),(4,Ob.gen (Gen.mapC uk uc) [])] }))
theorem CUe_eq (k : Int) (hs bs ts : List (List D)) (a1 a2 : Int) (a3 : List UInt8) (a4 : List (List D)) (b1 b2 : Int) (b3 : List UInt8) (b4 : List (List D)) (c1 c2 : Int) (c3 : List UInt8) (c4 : List (List D)) (d1 d2 : Int) (d3 : List UInt8) (d4 : List (List D)) (gk gc uk uc vk vc : List D) (body : List (List D)) (m i : Int) (es : List (List D)) (me ie : Int) (et ec : List (List D)) : goT Tryz.prog (ctrS libT (byT [(55,varQ),(56,asmA (D.tuple []) (updK 1 (mO vk vc)))]) (eOne [D.slice et [],D.slice ec []])) 0 (finF false 0 rs29) 2000 (cut sc29 1) { tm := tmUb bs m i ++ [(44,D.slice es []),(45,D.int .i64 me),(46,D.int .i64 ie)],ob := obU (rC k hs bs ts a1 a2 a3 a4 b1 b2 b3 b4 c1 c2 c3 c4 d1 d2 d3 d4) gk gc uk uc body } = CUe k hs bs ts a1 a2 a3 a4 b1 b2 b3 b4 c1 c2 c3 c4 d1 d2 d3 d4 gk gc uk uc vk vc body m i es me ie et ec := by kernel_rfl
noncomputable def CUh (k : Int) (hs bs ts : List (List D)) (a1 a2 : Int) (a3 : List UInt8) (a4 : List (List D)) (b1 b2 : Int) (b3 : List UInt8) (b4 : List (List D)) (c1 c2 : Int) (c3 : List UInt8) (c4 : List (List D)) (d1 d2 : Int) (d3 : List UInt8) (d4 : List (List D)) (gk gc uk uc vk vc qk qc zk : List D) (body : List (List D)) (m i : Int) (p : List UInt8) (ha hc : List (List D)) : Tr := brT (decide (i < m)) (Tr.owe ((0 : Int) <= i /\ hs[Int.toNat i]? = some [D.str p,D.slice ha [],D.slice hc []]) (brT (decide (k = (2 : Int))) (Tr.owe True (Tr.owe (CallL Tryz.prog (D.func (Fn.func 40) [] []) [D.agg [D.map 0,D.map 1],D.slice hc [],D.func (Fn.func 59) [] [D.ptr 2 0]] [(0,Ob.gen (Gen.mapC gk gc) []),(1,Ob.gen (Gen.mapC uk uc) []),(2,Ob.cells [D.slice ha []])] fun r0 ob0 => r0 = D.tuple [] /\ ob0 = [(0,Ob.gen (Gen.mapC gk gc) []),(1,Ob.gen (Gen.mapC vk vc) []),(2,Ob.cells [D.slice ha []])]) (Tr.owe ((-9223372036854775808 : Int) <= i + (1 : Int) /\ i + (1 : Int) <= (9223372036854775807 : Int)) (Tr.jmp (cut sc29 2) { tm := [(1,D.ptr 0 0),(3,D.ptr 1 0),(4,D.vec 2),(60,D.slice hs []),(61,D.int .i64 m),(62,D.int .i64 (i + (1 : Int)))],ob := [(0,Ob.cells (rC k hs bs ts a1 a2 a3 a4 b1 b2 b3 b4 c1 c2 c3 c4 d1 d2 d3 d4)),(1,Ob.cells [D.map 3,D.map 4]),(2,Ob.arr true 13 34 body),(3,Ob.gen (Gen.mapC gk gc) []),(4,Ob.gen (Gen.mapC vk vc) [])] })))) (Tr.owe ((-9223372036854775808 : Int) <= i + (1 : Int) /\ i + (1 : Int) <= (9223372036854775807 : Int)) (Tr.jmp (cut sc29 2) { tm := [(1,D.ptr 0 0),(3,D.ptr 1 0),(4,D.vec 2),(60,D.slice hs []),(61,D.int .i64 m),(62,D.int .i64 (i + (1 : Int)))],ob := [(0,Ob.cells (rC k hs bs ts a1 a2 a3 a4 b1 b2 b3 b4 c1 c2 c3 c4 d1 d2 d3 d4)),(1,Ob.cells [D.map 3,D.map 4]),(2,Ob.arr true 13 34 body),(3,Ob.gen (Gen.mapC gk gc) []),(4,Ob.gen (Gen.mapC uk uc) [])] })))) (Tr.owe True (Tr.owe (CallL Tryz.prog (D.func (Fn.func 26) [] []) [D.map 0,D.slice body []] [(0,Ob.gen (Gen.mapC [] []) [])] fun r0 ob0 => r0 = D.map 1 /\ ob0 = [(0,Ob.gen (Gen.mapC [] []) []),(1,Ob.gen (Gen.mapC qk qc) [])]) (Tr.owe (CallL Tryz.prog (D.func (Fn.func 43) [] []) [D.agg [D.map 0,D.map 1],D.func (Fn.func 58) [] [D.ptr 2 0],D.map 3] [(0,Ob.gen (Gen.mapC gk gc) []),(1,Ob.gen (Gen.mapC uk uc) []),(2,Ob.cells [D.map 0]),(3,Ob.gen (Gen.mapC qk qc) [])] fun r0 ob0 => r0 = D.tuple [] /\ ob0 = [(0,Ob.gen (Gen.mapC gk gc) []),(1,Ob.gen (Gen.mapS zk (D.agg [])) []),(2,Ob.cells [D.map 0]),(3,Ob.gen (Gen.mapC qk qc) [])]) (Tr.ret (D.map 0) [(0,Ob.gen (Gen.mapS zk (D.agg [])) [])]))))
theorem CUh_eq (k : Int) (hs bs ts : List (List D)) (a1 a2 : Int) (a3 : List UInt8) (a4 : List (List D)) (b1 b2 : Int) (b3 : List UInt8) (b4 : List (List D)) (c1 c2 : Int) (c3 : List UInt8) (c4 : List (List D)) (d1 d2 : Int) (d3 : List UInt8) (d4 : List (List D)) (gk gc uk uc vk vc qk qc zk : List D) (body : List (List D)) (m i : Int) (p : List UInt8) (ha hc : List (List D)) : goT Tryz.prog (ctrS libT (byT [(75,varQ),(76,asmA (D.tuple []) (updK 1 (mO vk vc))),(81,keyQ),(84,asmO (D.map 1) [(0,mO [] []),(1,mO qk qc)]),(85,asmA (D.tuple []) (updK 1 (Ob.gen (Gen.mapS zk (D.agg [])) [])))]) (eOne [D.str p,D.slice ha [],D.slice hc []])) 0 (finF false 0 rs29) 2000 (cut sc29 2) { tm := tmU ++ [(60,D.slice hs []),(61,D.int .i64 m),(62,D.int .i64 i)],ob := obU (rC k hs bs ts a1 a2 a3 a4 b1 b2 b3 b4 c1 c2 c3 c4 d1 d2 d3 d4) gk gc uk uc body } = CUh k hs bs ts a1 a2 a3 a4 b1 b2 b3 b4 c1 c2 c3 c4 d1 d2 d3 d4 gk gc uk uc vk vc qk qc zk body m i p ha hc := by kernel_rfl
end Go.Proofs.YtiafmjolbacdaaaGreat

/- within,element,global,proved. -/
namespace Go.Proofs.YtiafmjolbacdaaaGreat
open Go.Sx Go.RowKit
theorem withinT_app (a b : List Lt) : withinT (a ++ b) = withinT a ++ withinT b := by simp [withinT]
theorem al4 (l : List Tm) : allLen 4 (Tm.cellsL l) := by
 intro q hq
 rw [cellsL_map] at hq
 obtain ⟨t,_,rfl⟩ := List.mem_map.1 hq
 exact cells_length t
theorem cellsL_app (a b : List Tm) : Tm.cellsL (a ++ b) = Tm.cellsL a ++ Tm.cellsL b := by simp [cellsL_map]
theorem within_at (l : List Lt) (hl : l.length <= 281474976710656) (hz : (withinT l).length <= 1073741824) : ∀ (m i : Nat),l.length - i = m -> i <= l.length →
  At Tryz.prog 0 (cut sc41 0) (hdWi (ltL l) [] (Tm.cellsL (withinT (l.take i))) l.length i) (FinQ false 0 rs41 fun r ob => r = .func (.func fT) [] [.ptr 0 0] /\ ob = [(0,.cells [.slice (Tm.cellsL (withinT l)) []])]) := by
 intro m
 induction m with
 | zero =>
  intro i hm hi
  refine At.tree (ctr_ok libT_ok varQ_ok) (CWi2_eq (ltL l) [] (Tm.cellsL (withinT (l.take i))) l.length i 0 true [] [] 0 0 0 [] [] 0 0 [] []) ?_
  unfold CWi2
  rw [List.take_of_length_le (by omega : l.length <= i),ok_br]
  refine ⟨fun h => ?_,fun _ => ?_⟩
  ·have := of_decide_eq_true h
   omega
  ·rw [ok_owe,ok_ret]
   exact ⟨trivial,rfl,rfl⟩
 | succ m ih =>
  intro i hm hi
  have h1 : i < l.length := by omega
  have hI := ih (i + 1) (by omega) (by omega)
  have hg := ltL_get h1
  have hw : withinT (l.take (i + 1)) = withinT (l.take i) ++ (l[i].a ++ [l[i].l,l[i].r]) := by
   rw [List.take_add_one,List.getElem?_eq_getElem h1,withinT_app]
   simp [withinT]
  have hlen : (withinT (l.take (i + 1))).length <= 1073741824 := by
   have e : withinT l = withinT (l.take (i + 1)) ++ withinT (l.drop (i + 1)) := by rw [<- withinT_app,List.take_append_drop]
   rw [e,List.length_append] at hz
   omega
  rw [hw] at hI hlen
  generalize withinT (l.take i) = R at hI hlen ⊢
  generalize l[i] = x at hg hI hlen
  obtain ⟨k,no,p,a,op,⟨kx,nx,sx,ax⟩,⟨ky,ny,sy,ay⟩⟩ := x
  simp only [List.length_append,List.length_cons,List.length_nil] at hlen
  rw [<- List.append_assoc,cellsL_app,cellsL_app] at hI
  refine At.tree (ctr_ok libT_ok varQ_ok) (CWi2_eq (ltL l) [] (Tm.cellsL R) l.length i k no p (Tm.cellsL a) op kx nx sx (Tm.cellsL ax) ky ny sy (Tm.cellsL ay)) ?_
  unfold CWi2
  rw [ok_br]
  refine ⟨fun _ => ?_,fun h => ?_⟩
  ·rw [ok_owe,Int.toNat_natCast,ok_owe,ok_owe,ok_owe,ok_jmp,List.length_append,cellsL_length,cellsL_length]
   exact ⟨⟨by omega,hg⟩,⟨al4 a,by omega⟩,⟨al4 [.mk kx nx sx ax,.mk ky ny sy ay],by omega⟩,by omega,hI⟩
  ·have := of_decide_eq_false h; omega
def okC (l : List Lt) : Prop := l.length <= 1000000 /\ (∀ x ∈ l,okL x) /\ (withinT l).length <= 1073741824
theorem okC_T {l : List Lt} (h : okC l) : okT (withinT l) := by
 refine ⟨by have := h.2.2; omega,fun t ht => ?_⟩
 obtain ⟨x,hx,ht⟩ := List.mem_flatMap.1 ht
 obtain ⟨h1,h2,h3,h4,h5⟩ := h.2.1 x hx
 rcases List.mem_append.1 ht with ht | ht
 ·exact ⟨wfL_all.1 h2 t ht,Nat.le_trans (vsL_mem ht) h3⟩
 ·rcases List.mem_cons.1 ht with rfl | ht
  ·exact h4
  ·rw [List.mem_singleton] at ht
   exact ht ▸ h5
theorem within_ok (l : List Lt) (hc : okC l) : CallL Tryz.prog (.func (.func 41) [] []) [.slice (ltL l) []] [] fun r ob => r = .func (.func fT) [] [.ptr 0 0] /\ ob = [(0,.cells [.slice (Tm.cellsL (withinT l)) []])] := by
 have h1 := hc.1
 refine CallL.tree hdraw fp41 (ctr_ok libT_ok qnone_ok) (CWi_eq (ltL l) []) ?_
 unfold CWi
 rw [ok_jmp,ltL_len]
 exact within_at l (by omega) hc.2.2 _ 0 rfl (Nat.zero_le _)
theorem element_ok (G U : List Nm) (c : List Lt) (names : List Tm) (hc : okC c) (hn : okT names) (hG : G.Nodup) : CallL Tryz.prog (.func (.func 40) [] []) [.agg [.map 0,.map 1],.slice (ltL c) [],.func (.func fT) [] [.ptr 2 0]] [(0,setO G),(1,setO U),(2,.cells [.slice (Tm.cellsL names) []])] fun r ob => r = .tuple [] /\ ob = [(0,setO G),(1,setO (elemS G U c (varsL names))),(2,.cells [.slice (Tm.cellsL names) []])] := by
 have hb := bound_ok c (by have := hc.1; omega) hc.2.1 G hG
 have h1 := checkT_ok names hn G U (closeS G c)
 have hw := within_ok c hc
 have h2 := checkT_ok (withinT c) (okC_T hc) G (ckS U (varsL names) (closeS G c)) (closeS G c)
 show CallL _ _ _ _ fun r ob => r = .tuple [] /\ ob = [(0,setO G),(1,setO (ckS (ckS U (varsL names) (closeS G c)) (varsL (withinT c)) (closeS G c))),(2,.cells [.slice (Tm.cellsL names) []])]
 generalize closeS G c = B at hb h1 h2 ⊢
 generalize ckS U (varsL names) B = U1 at h1 h2 ⊢
 generalize ckS U1 (varsL (withinT c)) B = U2 at h2 ⊢
 refine CallL.tree hdraw fp40 (ctrS_ok libT_ok (byT_ok ?_)) (CEl_eq (kS G) (uS G) (kS U) (uS U) (kS B) (uS B) (kS U1) (uS U1) (kS U2) (uS U2) (ltL c) (Tm.cellsL names) (Tm.cellsL (withinT c))) ?_
 ·intro x hx
  simp only [List.mem_cons,List.not_mem_nil,or_false] at hx
  rcases hx with rfl | rfl | rfl | rfl
  ·exact asmO_ok _ _
  ·exact asmA_ok _ _
  ·exact asmW_ok _
  ·exact asmA_ok _ _
 ·unfold CEl
  rw [ok_owe,ok_owe,ok_owe,ok_owe,ok_ret]
  exact ⟨hb,h1,hw,h2,rfl,rfl⟩
structure okR (r : Ru) : Prop where
 t4 : okT [r.lo,r.up,r.w,r.lv]
 tt : okT r.t
 hl : r.h.length <= 281474976710656
 h : ∀ x ∈ r.h,okT x.a /\ okC x.c
 bl : r.b.length <= 1000000
 b : ∀ x ∈ r.b,okC [x.l] /\ okT [x.b] /\ okC x.c /\ x.e.length <= 281474976710656 /\ ∀ y ∈ x.e,okT y.t /\ okC y.c
theorem global_b (bs : List Bo) (hl : bs.length <= 1000000) (hb : ∀ x ∈ bs,okC [x.l] /\ okT [x.b]) : ∀ (m i : Nat) (S : List Nm),bs.length - i = m -> i <= bs.length →
  At Tryz.prog 0 (cut sc30 1) (hdGb (boL bs) bs.length i (kS S) (uS S)) (FinQ false 0 rs30 fun r ob => r = .map 0 /\ ob = [(0,setO ((bs.drop i).foldl gBody S))]) := by
 have hby : ∀ (vk vc : List D) (w : List (List D)), ∀ x ∈ [((63 : Nat),asmW w),(64,asmA (.tuple []) (updM vk vc)),(71,varQ),(72,asmA (.tuple []) (updM vk vc))],x.2.OK := fun vk vc w x hx => by
  simp only [List.mem_cons,List.not_mem_nil,or_false] at hx
  rcases hx with rfl | rfl | rfl | rfl
  ·exact asmW_ok _
  ·exact asmA_ok _ _
  ·exact varQ_ok
  ·exact asmA_ok _ _
 intro m
 induction m with
 | zero =>
  intro i S hm hi
  refine At.tree (ctrS_ok libT_ok (byT_ok (hby _ _ _))) (CGb_eq (boL bs) (kS S) (uS S) [] [] bs.length i 0 0 true [] [] 0 0 0 [] [] 0 0 [] [] [] true 0 [] 0 0 0 [] [] []) ?_
  unfold CGb
  rw [List.drop_eq_nil_of_le (by omega : bs.length <= i),ok_br]
  refine ⟨fun h => ?_,fun _ => ⟨rfl,rfl⟩⟩
  have := of_decide_eq_true h
  omega
 | succ m ih =>
  intro i S hm hi
  have h1 : i < bs.length := by omega
  have hg := boL_get h1
  obtain ⟨o1,o2⟩ := hb _ (List.getElem_mem h1)
  rw [drop_cons h1,List.foldl_cons]
  have hI := ih (i + 1) (gBody S bs[i]) (by omega) (by omega)
  have hw := within_ok [bs[i].l] o1
  have ha1 := addT_ok (withinT [bs[i].l]) (okC_T o1) S
  have ha3 := addT_ok [bs[i].b] o2 S
  have he : gBody S bs[i] = if bs[i].k = 1 then addS S (varsL (withinT [bs[i].l])) else if bs[i].k = 3 then addS S (varsL [bs[i].b]) else S := rfl
  generalize gBody S bs[i] = S2 at hI he ⊢
  generalize bs[i] = x at hg he hw ha1 ha3
  obtain ⟨k,⟨lk,ln,lp,la,lo,⟨x1,x2,x3,x4⟩,⟨y1,y2,y3,y4⟩⟩,c,no,f,e,op,⟨t1,t2,t3,t4⟩⟩ := x
  simp only at he
  by_cases hk : k = 1
  ·rw [if_pos hk] at he
   subst he
   refine At.tree (ctrS_ok libT_ok (byT_ok (hby _ _ _))) (CGb_eq (boL bs) (kS S) (uS S) (kS (addS S (varsL (withinT [⟨lk,ln,lp,la,lo,.mk x1 x2 x3 x4,.mk y1 y2 y3 y4⟩])))) (uS (addS S (varsL (withinT [⟨lk,ln,lp,la,lo,.mk x1 x2 x3 x4,.mk y1 y2 y3 y4⟩])))) bs.length i k lk ln lp (Tm.cellsL la) lo x1 x2 x3 (Tm.cellsL x4) y1 y2 y3 (Tm.cellsL y4) (ltL c) no f (elL e) op t1 t2 t3 (Tm.cellsL t4) (Tm.cellsL (withinT [⟨lk,ln,lp,la,lo,.mk x1 x2 x3 x4,.mk y1 y2 y3 y4⟩]))) ?_
   unfold CGb
   simp only [SS]
   exact ⟨fun _ => ⟨⟨by omega,hg⟩,fun _ => ⟨hw,ha1,by omega,hI⟩,fun h => absurd (by omega) h⟩,fun h => by omega⟩
  ·rw [if_neg hk] at he
   refine At.tree (ctrS_ok libT_ok (byT_ok (hby _ _ _))) (CGb_eq (boL bs) (kS S) (uS S) (kS (addS S (varsL [.mk t1 t2 t3 t4]))) (uS (addS S (varsL [.mk t1 t2 t3 t4]))) bs.length i k lk ln lp (Tm.cellsL la) lo x1 x2 x3 (Tm.cellsL x4) y1 y2 y3 (Tm.cellsL y4) (ltL c) no f (elL e) op t1 t2 t3 (Tm.cellsL t4) []) ?_
   unfold CGb
   simp only [SS]
   refine ⟨fun _ => ⟨⟨by omega,hg⟩,fun h => absurd (by omega) hk,fun _ => ⟨fun h3 => ?_,fun h3 => ?_⟩⟩,fun h => by omega⟩
   ·rw [if_pos (by omega)] at he
    subst he
    exact ⟨ha3,by omega,hI⟩
   ·rw [if_neg (by omega)] at he
    subst he
    exact ⟨by omega,hI⟩
end Go.Proofs.YtiafmjolbacdaaaGreat

/- global,unsafe,proved. -/
namespace Go.Proofs.YtiafmjolbacdaaaGreat
open Go.Sx Go.RowKit
section
variable (k : Nat) (hs : List He) (a1 : Nat) (a2 : Int) (a3 : Nm) (a4 : List Tm) (b1 : Nat) (b2 : Int) (b3 : Nm) (b4 : List Tm) (bs : List Bo) (c1 : Nat) (c2 : Int) (c3 : Nm) (c4 : List Tm) (d1 : Nat) (d2 : Int) (d3 : Nm) (d4 : List Tm) (ts : List Tm)
theorem global_h (hr : okR ⟨k,hs,.mk a1 a2 a3 a4,.mk b1 b2 b3 b4,bs,.mk c1 c2 c3 c4,.mk d1 d2 d3 d4,ts⟩) : ∀ (m i : Nat) (S : List Nm),hs.length - i = m -> i <= hs.length →
  At Tryz.prog 0 (cut sc30 0) (hdGh (rC k (heL hs) (boL bs) (Tm.cellsL ts) a1 a2 a3 (Tm.cellsL a4) b1 b2 b3 (Tm.cellsL b4) c1 c2 c3 (Tm.cellsL c4) d1 d2 d3 (Tm.cellsL d4)) (heL hs) hs.length i (kS S) (uS S)) (FinQ false 0 rs30 fun r ob => r = .map 0 /\ ob = [(0,setO (bs.foldl gBody ((hs.drop i).foldl (gHead k) S)))]) := by
 have hby : ∀ (vk vc wk wc : List D) (w : List (List D)), ∀ x ∈ [((40 : Nat),varQ),(41,asmA (.tuple []) (updM vk vc)),(45,asmW w),(46,asmA (.tuple []) (updM wk wc))],x.2.OK := fun vk vc wk wc w x hx => by
  simp only [List.mem_cons,List.not_mem_nil,or_false] at hx
  rcases hx with rfl | rfl | rfl | rfl
  ·exact varQ_ok
  ·exact asmA_ok _ _
  ·exact asmW_ok _
  ·exact asmA_ok _ _
 have hbl := hr.bl
 have hhl := hr.hl
 have hhx := hr.h
 simp only at hbl hhl hhx
 intro m
 induction m with
 | zero =>
  intro i S hm hi
  have hB := global_b bs hbl (fun x hx => ⟨(hr.b x hx).1,(hr.b x hx).2.1⟩) _ 0 S rfl (Nat.zero_le _)
  refine At.tree (ctrS_ok libT_ok (byT_ok (hby _ _ _ _ _))) (CGh_eq k (heL hs) (boL bs) (Tm.cellsL ts) a1 a2 a3 (Tm.cellsL a4) b1 b2 b3 (Tm.cellsL b4) c1 c2 c3 (Tm.cellsL c4) d1 d2 d3 (Tm.cellsL d4) (kS S) (uS S) [] [] [] [] hs.length i [] [] [] []) ?_
  unfold CGh
  rw [List.drop_eq_nil_of_le (by omega : hs.length <= i)]
  simp only [SS,boL_len]
  exact ⟨fun h => by omega,fun _ => hB⟩
 | succ m ih =>
  intro i S hm hi
  have h1 : i < hs.length := by omega
  have hg := heL_get h1
  obtain ⟨o1,o2⟩ := hhx _ (List.getElem_mem h1)
  rw [drop_cons h1,List.foldl_cons]
  have hI := ih (i + 1) (gHead k S hs[i]) (by omega) (by omega)
  have hw := within_ok hs[i].c o2
  have ha1 := addT_ok hs[i].a o1 S
  have ha2 := addT_ok (withinT hs[i].c) (okC_T o2) (addS S (varsL hs[i].a))
  have he : gHead k S hs[i] = if k = 2 then S else addS (addS S (varsL hs[i].a)) (varsL (withinT hs[i].c)) := rfl
  generalize gHead k S hs[i] = S2 at hI he ⊢
  generalize hs[i] = x at hg he hw ha1 ha2
  obtain ⟨p,ha,hc⟩ := x
  simp only at he hw ha1 ha2
  refine At.tree (ctrS_ok libT_ok (byT_ok (hby _ _ _ _ _))) (CGh_eq k (heL hs) (boL bs) (Tm.cellsL ts) a1 a2 a3 (Tm.cellsL a4) b1 b2 b3 (Tm.cellsL b4) c1 c2 c3 (Tm.cellsL c4) d1 d2 d3 (Tm.cellsL d4) (kS S) (uS S) (kS (addS S (varsL ha))) (uS (addS S (varsL ha))) (kS (addS (addS S (varsL ha)) (varsL (withinT hc)))) (uS (addS (addS S (varsL ha)) (varsL (withinT hc)))) hs.length i p (Tm.cellsL ha) (ltL hc) (Tm.cellsL (withinT hc))) ?_
  unfold CGh
  simp only [SS]
  refine ⟨fun _ => ⟨⟨by omega,hg⟩,fun h => ?_,fun h => ?_⟩,fun h => by omega⟩
  ·rw [if_neg (by omega)] at he
   subst he
   exact ⟨ha1,hw,ha2,by omega,hI⟩
  ·rw [if_pos (by omega)] at he
   subst he
   exact ⟨by omega,hI⟩
theorem global_ok (hr : okR ⟨k,hs,.mk a1 a2 a3 a4,.mk b1 b2 b3 b4,bs,.mk c1 c2 c3 c4,.mk d1 d2 d3 d4,ts⟩) : CallL Tryz.prog (.func (.func 30) [] []) [.agg (rC k (heL hs) (boL bs) (Tm.cellsL ts) a1 a2 a3 (Tm.cellsL a4) b1 b2 b3 (Tm.cellsL b4) c1 c2 c3 (Tm.cellsL c4) d1 d2 d3 (Tm.cellsL d4))] [] fun r ob => r = .map 0 /\ ob = [(0,setO (globalS ⟨k,hs,.mk a1 a2 a3 a4,.mk b1 b2 b3 b4,bs,.mk c1 c2 c3 c4,.mk d1 d2 d3 d4,ts⟩))] := by
 have h1 := addT_ok [.mk a1 a2 a3 a4,.mk b1 b2 b3 b4,.mk c1 c2 c3 c4,.mk d1 d2 d3 d4] hr.t4 []
 have h2 := addT_ok ts hr.tt (addS [] (varsL [.mk a1 a2 a3 a4,.mk b1 b2 b3 b4,.mk c1 c2 c3 c4,.mk d1 d2 d3 d4]))
 have hH := global_h k hs a1 a2 a3 a4 b1 b2 b3 b4 bs c1 c2 c3 c4 d1 d2 d3 d4 ts hr _ 0 (addS (addS [] (varsL [.mk a1 a2 a3 a4,.mk b1 b2 b3 b4,.mk c1 c2 c3 c4,.mk d1 d2 d3 d4])) (varsL ts)) rfl (Nat.zero_le _)
 unfold globalS
 simp only
 generalize addS [] (varsL [.mk a1 a2 a3 a4,.mk b1 b2 b3 b4,.mk c1 c2 c3 c4,.mk d1 d2 d3 d4]) = S1 at h1 h2 hH ⊢
 generalize addS S1 (varsL ts) = S2 at h2 hH ⊢
 refine CallL.tree hdraw fp30 (ctrS_ok libT_ok (byT_ok ?_)) (CGl_eq k (heL hs) (boL bs) (Tm.cellsL ts) a1 a2 a3 (Tm.cellsL a4) b1 b2 b3 (Tm.cellsL b4) c1 c2 c3 (Tm.cellsL c4) d1 d2 d3 (Tm.cellsL d4) (kS S1) (uS S1) (kS S2) (uS S2)) ?_
 ·intro x hx
  simp only [List.mem_cons,List.not_mem_nil,or_false] at hx
  rcases hx with rfl | rfl | rfl | rfl
  ·exact varQ_ok
  ·exact varQ_ok
  ·exact asmA_ok _ _
  ·exact asmA_ok _ _
 ·unfold CGl
  simp only [SS,heL_len]
  exact ⟨h1,h2,hH⟩
abbrev endO (F : List Nm) : Ob := .gen (.mapS (kS F) (.agg [])) []
abbrev QU (F : List Nm) : Exit -> St -> Prop := FinQ false 0 rs29 fun r ob => r = .map 0 /\ ob = [(0,endO F)]
variable (hr : okR ⟨k,hs,.mk a1 a2 a3 a4,.mk b1 b2 b3 b4,bs,.mk c1 c2 c3 c4,.mk d1 d2 d3 d4,ts⟩) (G : List Nm) (hG : G.Nodup)
include hr hG
theorem uh_at (body : List Lt) (hbl : body.length <= 281474976710656) (hbo : ∀ x ∈ body,okL x) : ∀ (m i : Nat) (U : List Nm),U.Nodup -> hs.length - i = m -> i <= hs.length →
  At Tryz.prog 0 (cut sc29 2) ⟨tmU ++ [(60,.slice (heL hs) []),(61,.int .i64 hs.length),(62,.int .i64 i)],obU (rC k (heL hs) (boL bs) (Tm.cellsL ts) a1 a2 a3 (Tm.cellsL a4) b1 b2 b3 (Tm.cellsL b4) c1 c2 c3 (Tm.cellsL c4) d1 d2 d3 (Tm.cellsL d4)) (kS G) (uS G) (kS U) (uS U) (ltL body)⟩ (QU (ckS ((hs.drop i).foldl (uHead k G) U) G (closeS [] body))) := by
 have hby : ∀ (vk vc qk qc zk : List D), ∀ x ∈ [((75 : Nat),varQ),(76,asmA (.tuple []) (updK 1 (mO vk vc))),(81,keyQ),(84,asmO (.map 1) [(0,mO [] []),(1,mO qk qc)]),(85,asmA (.tuple []) (updK 1 (.gen (.mapS zk (.agg [])) [])))],x.2.OK := fun vk vc qk qc zk x hx => by
  simp only [List.mem_cons,List.not_mem_nil,or_false] at hx
  rcases hx with rfl | rfl | rfl | rfl | rfl
  ·exact varQ_ok
  ·exact asmA_ok _ _
  ·exact keyQ_ok
  ·exact asmO_ok _ _
  ·exact asmA_ok _ _
 have hhx := hr.h
 have hhl := hr.hl
 simp only at hhx hhl
 have hb := bound_ok body hbl hbo [] List.nodup_nil
 generalize closeS [] body = B at hb ⊢
 intro m
 induction m with
 | zero =>
  intro i U hU hm hi
  have hc := checkY_ok G U B hU
  refine At.tree (ctrS_ok libT_ok (byT_ok (hby _ _ _ _ _))) (CUh_eq k (heL hs) (boL bs) (Tm.cellsL ts) a1 a2 a3 (Tm.cellsL a4) b1 b2 b3 (Tm.cellsL b4) c1 c2 c3 (Tm.cellsL c4) d1 d2 d3 (Tm.cellsL d4) (kS G) (uS G) (kS U) (uS U) [] [] (kS B) (uS B) (kS (ckS U G B)) (ltL body) hs.length i [] [] []) ?_
  unfold CUh
  rw [List.drop_eq_nil_of_le (by omega : hs.length <= i)]
  simp only [SS]
  exact ⟨fun h => by omega,fun _ => ⟨hb,hc,rfl⟩⟩
 | succ m ih =>
  intro i U hU hm hi
  have h1 : i < hs.length := by omega
  have hg := heL_get h1
  obtain ⟨o1,o2⟩ := hhx _ (List.getElem_mem h1)
  rw [drop_cons h1,List.foldl_cons]
  have hU2 : (uHead k G U hs[i]).Nodup := uHead_nd k G [hs[i]] hU
  have hI := ih (i + 1) (uHead k G U hs[i]) hU2 (by omega) (by omega)
  have hel := element_ok G U hs[i].c hs[i].a o2 o1 hG
  have he : uHead k G U hs[i] = if k = 2 then elemS G U hs[i].c (varsL hs[i].a) else U := rfl
  generalize uHead k G U hs[i] = U2 at hI he ⊢
  generalize hs[i] = x at hg he hel
  obtain ⟨p,ha,hc⟩ := x
  simp only at he hel
  generalize elemS G U hc (varsL ha) = U3 at he hel
  refine At.tree (ctrS_ok libT_ok (byT_ok (hby _ _ _ _ _))) (CUh_eq k (heL hs) (boL bs) (Tm.cellsL ts) a1 a2 a3 (Tm.cellsL a4) b1 b2 b3 (Tm.cellsL b4) c1 c2 c3 (Tm.cellsL c4) d1 d2 d3 (Tm.cellsL d4) (kS G) (uS G) (kS U) (uS U) (kS U3) (uS U3) (kS B) (uS B) (kS (ckS U G B)) (ltL body) hs.length i p (Tm.cellsL ha) (ltL hc)) ?_
  unfold CUh
  simp only [SS]
  refine ⟨fun _ => ⟨⟨by omega,hg⟩,fun h => ?_,fun h => ?_⟩,fun h => by omega⟩
  ·rw [if_pos (by omega)] at he
   subst he
   exact ⟨hel,by omega,hI⟩
  ·rw [if_neg (by omega)] at he
   subst he
   exact ⟨by omega,hI⟩
theorem ue_at (body : List Lt) (i : Nat) (hi : (i : Int) + 1 <= 9223372036854775807) (es : List El) (hel : es.length <= 281474976710656) (heo : ∀ y ∈ es,okT y.t /\ okC y.c) (F T : List Nm) (K : At Tryz.prog 0 (cut sc29 0) ⟨tmUb (boL bs) bs.length (i + 1),obU (rC k (heL hs) (boL bs) (Tm.cellsL ts) a1 a2 a3 (Tm.cellsL a4) b1 b2 b3 (Tm.cellsL b4) c1 c2 c3 (Tm.cellsL c4) d1 d2 d3 (Tm.cellsL d4)) (kS G) (uS G) (kS T) (uS T) (ltL body)⟩ (QU F)) : ∀ (m j : Nat) (U : List Nm),es.length - j = m -> j <= es.length -> (es.drop j).foldl (uElem G) U = T →
  At Tryz.prog 0 (cut sc29 1) ⟨tmUb (boL bs) bs.length i ++ [(44,.slice (elL es) []),(45,.int .i64 es.length),(46,.int .i64 j)],obU (rC k (heL hs) (boL bs) (Tm.cellsL ts) a1 a2 a3 (Tm.cellsL a4) b1 b2 b3 (Tm.cellsL b4) c1 c2 c3 (Tm.cellsL c4) d1 d2 d3 (Tm.cellsL d4)) (kS G) (uS G) (kS U) (uS U) (ltL body)⟩ (QU F) := by
 have hby : ∀ (vk vc : List D), ∀ x ∈ [((55 : Nat),varQ),(56,asmA (.tuple []) (updK 1 (mO vk vc)))],x.2.OK := fun vk vc x hx => by
  simp only [List.mem_cons,List.not_mem_nil,or_false] at hx
  rcases hx with rfl | rfl
  ·exact varQ_ok
  ·exact asmA_ok _ _
 intro m
 induction m with
 | zero =>
  intro j U hm hj hT
  rw [List.drop_eq_nil_of_le (by omega : es.length <= j)] at hT
  have hT : U = T := hT
  subst hT
  refine At.tree (ctrS_ok libT_ok (byT_ok (hby _ _))) (CUe_eq k (heL hs) (boL bs) (Tm.cellsL ts) a1 a2 a3 (Tm.cellsL a4) b1 b2 b3 (Tm.cellsL b4) c1 c2 c3 (Tm.cellsL c4) d1 d2 d3 (Tm.cellsL d4) (kS G) (uS G) (kS U) (uS U) [] [] (ltL body) bs.length i (elL es) es.length j [] []) ?_
  unfold CUe
  simp only [SS]
  exact ⟨fun h => by omega,fun _ => ⟨by omega,K⟩⟩
 | succ m ih =>
  intro j U hm hj hT
  have h1 : j < es.length := by omega
  have hg := elL_get h1
  obtain ⟨o1,o2⟩ := heo _ (List.getElem_mem h1)
  rw [drop_cons h1,List.foldl_cons] at hT
  have hI := ih (j + 1) (uElem G U es[j]) (by omega) (by omega) hT
  have hE := element_ok G U es[j].c es[j].t o2 o1 hG
  have he : uElem G U es[j] = elemS G U es[j].c (varsL es[j].t) := rfl
  rw [he] at hI
  generalize es[j] = x at hg hI hE
  obtain ⟨et,ec⟩ := x
  simp only at hI hE
  generalize elemS G U ec (varsL et) = U3 at hI hE
  refine At.tree (ctrS_ok libT_ok (byT_ok (hby _ _))) (CUe_eq k (heL hs) (boL bs) (Tm.cellsL ts) a1 a2 a3 (Tm.cellsL a4) b1 b2 b3 (Tm.cellsL b4) c1 c2 c3 (Tm.cellsL c4) d1 d2 d3 (Tm.cellsL d4) (kS G) (uS G) (kS U) (uS U) (kS U3) (uS U3) (ltL body) bs.length i (elL es) es.length j (Tm.cellsL et) (ltL ec)) ?_
  unfold CUe
  simp only [SS]
  exact ⟨fun _ => ⟨⟨by omega,hg⟩,hE,by omega,hI⟩,fun h => by omega⟩
theorem ub_at : ∀ (m i : Nat) (U : List Nm) (body : List Lt),U.Nodup -> body.length <= i -> (∀ x ∈ body,okL x) -> bs.length - i = m -> i <= bs.length →
  At Tryz.prog 0 (cut sc29 0) ⟨tmUb (boL bs) bs.length i,obU (rC k (heL hs) (boL bs) (Tm.cellsL ts) a1 a2 a3 (Tm.cellsL a4) b1 b2 b3 (Tm.cellsL b4) c1 c2 c3 (Tm.cellsL c4) d1 d2 d3 (Tm.cellsL d4)) (kS G) (uS G) (kS U) (uS U) (ltL body)⟩ (QU (ckS (hs.foldl (uHead k G) ((bs.drop i).foldl (uBody G) (U,body)).1) G (closeS [] ((bs.drop i).foldl (uBody G) (U,body)).2))) := by
 have hby : ∀ (vk vc : List D) (w : List (List D)), ∀ x ∈ [((39 : Nat),asmW w),(40,asmA (.tuple []) (updK 1 (mO vk vc)))],x.2.OK := fun vk vc w x hx => by
  simp only [List.mem_cons,List.not_mem_nil,or_false] at hx
  rcases hx with rfl | rfl
  ·exact asmW_ok _
  ·exact asmA_ok _ _
 have hbx := hr.b
 have hbl := hr.bl
 have hhl := hr.hl
 simp only at hbx hbl hhl
 intro m
 induction m with
 | zero =>
  intro i U body hU hbd hbo hm hi
  have hH := uh_at k hs a1 a2 a3 a4 b1 b2 b3 b4 bs c1 c2 c3 c4 d1 d2 d3 d4 ts hr G hG body (by omega) hbo _ 0 U hU rfl (Nat.zero_le _)
  refine At.tree (ctrS_ok libT_ok (byT_ok (hby _ _ _))) (CUb_eq k (heL hs) (boL bs) (Tm.cellsL ts) a1 a2 a3 (Tm.cellsL a4) b1 b2 b3 (Tm.cellsL b4) c1 c2 c3 (Tm.cellsL c4) d1 d2 d3 (Tm.cellsL d4) (kS G) (uS G) (kS U) (uS U) [] [] (ltL body) bs.length i 0 0 true [] [] 0 0 0 [] [] 0 0 [] [] [] true 0 [] 0 0 0 [] [] []) ?_
  unfold CUb
  rw [List.drop_eq_nil_of_le (by omega : bs.length <= i)]
  simp only [SS,heL_len]
  exact ⟨fun h => by omega,fun _ => hH⟩
 | succ m ih =>
  intro i U body hU hbd hbo hm hi
  have h1 : i < bs.length := by omega
  have hg := boL_get h1
  obtain ⟨o1,o2,o3,o4,o5⟩ := hbx _ (List.getElem_mem h1)
  rw [drop_cons h1,List.foldl_cons]
  have hU2 : (uBody G (U,body) bs[i]).1.Nodup := uBody_nd G [bs[i]] hU
  have hw := within_ok [bs[i].l] o1
  have hE := element_ok G U bs[i].c (withinT [bs[i].l]) o3 (okC_T o1) hG
  have he : uBody G (U,body) bs[i] = if bs[i].k = 1 then (U,body ++ [bs[i].l]) else if bs[i].k = 2 then (elemS G U bs[i].c (varsL (withinT [bs[i].l])),body) else if bs[i].k = 3 then (bs[i].e.foldl (uElem G) U,body) else (U,body) := rfl
  have hbd2 : (uBody G (U,body) bs[i]).2.length <= i + 1 /\ ∀ x ∈ (uBody G (U,body) bs[i]).2,okL x := by
   rw [he]
   split
   ·refine ⟨by simp only [List.length_append,List.length_cons,List.length_nil]; omega,fun x hx => ?_⟩
    rcases List.mem_append.1 hx with hx | hx
    ·exact hbo x hx
    ·rw [List.mem_singleton] at hx
     exact hx ▸ o1.2.1 _ (List.mem_cons_self ..)
   ·split
    ·exact ⟨by simp only; omega,hbo⟩
    ·split
     ·exact ⟨by simp only; omega,hbo⟩
     ·exact ⟨by simp only; omega,hbo⟩
  have hI := ih (i + 1) (uBody G (U,body) bs[i]).1 (uBody G (U,body) bs[i]).2 hU2 hbd2.1 hbd2.2 (by omega) (by omega)
  have hEl : ∀ (F T : List Nm) (K : At Tryz.prog 0 (cut sc29 0) ⟨tmUb (boL bs) bs.length (i + 1),obU (rC k (heL hs) (boL bs) (Tm.cellsL ts) a1 a2 a3 (Tm.cellsL a4) b1 b2 b3 (Tm.cellsL b4) c1 c2 c3 (Tm.cellsL c4) d1 d2 d3 (Tm.cellsL d4)) (kS G) (uS G) (kS T) (uS T) (ltL body)⟩ (QU F)),bs[i].e.foldl (uElem G) U = T -> _ := fun F T K hT => ue_at k hs a1 a2 a3 a4 b1 b2 b3 b4 bs c1 c2 c3 c4 d1 d2 d3 d4 ts hr G hG body i (by omega) bs[i].e o4 o5 F T K _ 0 U rfl (Nat.zero_le _) hT
  generalize uBody G (U,body) bs[i] = p at hI he ⊢
  generalize bs[i] = x at hg he hw hE hEl
  obtain ⟨bk,⟨lk,ln,lp,la,lo,⟨x1,x2,x3,x4⟩,⟨y1,y2,y3,y4⟩⟩,bc,bno,bf,be,bop,⟨t1,t2,t3,t4⟩⟩ := x
  simp only at he hw hE hEl
  generalize hU3 : elemS G U bc (varsL (withinT [⟨lk,ln,lp,la,lo,.mk x1 x2 x3 x4,.mk y1 y2 y3 y4⟩])) = U3 at he hE
  refine At.tree (ctrS_ok libT_ok (byT_ok (hby _ _ _))) (CUb_eq k (heL hs) (boL bs) (Tm.cellsL ts) a1 a2 a3 (Tm.cellsL a4) b1 b2 b3 (Tm.cellsL b4) c1 c2 c3 (Tm.cellsL c4) d1 d2 d3 (Tm.cellsL d4) (kS G) (uS G) (kS U) (uS U) (kS U3) (uS U3) (ltL body) bs.length i bk lk ln lp (Tm.cellsL la) lo x1 x2 x3 (Tm.cellsL x4) y1 y2 y3 (Tm.cellsL y4) (ltL bc) bno bf (elL be) bop t1 t2 t3 (Tm.cellsL t4) (Tm.cellsL (withinT [⟨lk,ln,lp,la,lo,.mk x1 x2 x3 x4,.mk y1 y2 y3 y4⟩]))) ?_
  unfold CUb
  simp only [SS,elL_len,ltL_len]
  refine ⟨fun _ => ⟨⟨by omega,hg⟩,fun h => ?_,fun h => ⟨fun h2 => ?_,fun h2 => ⟨fun h3 => ?_,fun h3 => ?_⟩⟩⟩,fun h => by omega⟩
  ·rw [if_pos (by omega)] at he
   subst he
   have e : ltL (body ++ [⟨lk,ln,lp,la,lo,.mk x1 x2 x3 x4,.mk y1 y2 y3 y4⟩]) = ltL body ++ ltL [⟨lk,ln,lp,la,lo,.mk x1 x2 x3 x4,.mk y1 y2 y3 y4⟩] := by simp [ltL]
   simp only at hI
   rw [e] at hI
   have al : allLen 13 (ltL [⟨lk,ln,lp,la,lo,.mk x1 x2 x3 x4,.mk y1 y2 y3 y4⟩]) := fun q hq => by
    obtain ⟨t,_,rfl⟩ := List.mem_map.1 hq
    exact ltc_len t
   exact ⟨⟨al,by omega⟩,by omega,hI⟩
  ·rw [if_neg (by omega),if_pos (by omega)] at he
   subst he
   exact ⟨hw,hE,by omega,hI⟩
  ·rw [if_neg (by omega),if_neg (by omega),if_pos (by omega)] at he
   subst he
   exact hEl _ _ hI rfl
  ·rw [if_neg (by omega),if_neg (by omega),if_neg (by omega)] at he
   subst he
   exact ⟨by omega,hI⟩
omit hG in
theorem unsafe_ok : CallL Tryz.prog (.func (.func 29) [] []) [.agg (rC k (heL hs) (boL bs) (Tm.cellsL ts) a1 a2 a3 (Tm.cellsL a4) b1 b2 b3 (Tm.cellsL b4) c1 c2 c3 (Tm.cellsL c4) d1 d2 d3 (Tm.cellsL d4))] [] fun r ob => r = .map 0 /\ ob = [(0,endO (unsafeS ⟨k,hs,.mk a1 a2 a3 a4,.mk b1 b2 b3 b4,bs,.mk c1 c2 c3 c4,.mk d1 d2 d3 d4,ts⟩))] := by
 have hg := global_ok k hs a1 a2 a3 a4 b1 b2 b3 b4 bs c1 c2 c3 c4 d1 d2 d3 d4 ts hr
 have hnd := globalS_nd ⟨k,hs,.mk a1 a2 a3 a4,.mk b1 b2 b3 b4,bs,.mk c1 c2 c3 c4,.mk d1 d2 d3 d4,ts⟩
 unfold unsafeS
 generalize globalS ⟨k,hs,.mk a1 a2 a3 a4,.mk b1 b2 b3 b4,bs,.mk c1 c2 c3 c4,.mk d1 d2 d3 d4,ts⟩ = G at hg hnd ⊢
 have hB := ub_at k hs a1 a2 a3 a4 b1 b2 b3 b4 bs c1 c2 c3 c4 d1 d2 d3 d4 ts hr G hnd _ 0 [] [] List.nodup_nil (Nat.le_refl _) (fun x hx => by cases hx) rfl (Nat.zero_le _)
 refine CallL.tree hdraw fp29 (ctrS_ok libT_ok (byT_ok ?_)) (CUn_eq k (heL hs) (boL bs) (Tm.cellsL ts) a1 a2 a3 (Tm.cellsL a4) b1 b2 b3 (Tm.cellsL b4) c1 c2 c3 (Tm.cellsL c4) d1 d2 d3 (Tm.cellsL d4) (kS G) (uS G)) ?_
 ·intro x hx
  simp only [List.mem_cons,List.not_mem_nil,or_false] at hx
  subst hx
  exact asmO_ok _ _
 ·unfold CUn
  simp only [SS,boL_len]
  exact ⟨hg,hB⟩
end
end Go.Proofs.YtiafmjolbacdaaaGreat

/- Unsafe,proved; closed rules are of a modest size. -/
namespace Go.Proofs.YtiafmjolbacdaaaGreat
open Go.Sx Go.RowKit
noncomputable def PUnN (k : Int) (hs bs ts : List (List D)) (a1 a2 : Int) (a3 : List UInt8) (a4 : List (List D)) (b1 b2 : Int) (b3 : List UInt8) (b4 : List (List D)) (c1 c2 : Int) (c3 : List UInt8) (c4 : List (List D)) (d1 d2 : Int) (d3 : List UInt8) (d4 : List (List D)) (zk : List D) : Tr := Tr.owe (CallL Tryz.prog (D.func (Fn.func 29) [] []) [D.agg (rC k hs bs ts a1 a2 a3 a4 b1 b2 b3 b4 c1 c2 c3 c4 d1 d2 d3 d4)] [] fun r0 ob0 => r0 = D.map 0 /\ ob0 = [(0,Ob.gen (Gen.mapS zk (D.agg [])) [])]) (Tr.owe (CallL Tryz.prog (D.func (Fn.func 27) [] []) [D.map 0] [(0,Ob.gen (Gen.mapS zk (D.agg [])) [])] fun r0 ob0 => r0 = D.nils /\ ob0 = [(0,Ob.gen (Gen.mapS zk (D.agg [])) [])]) (Tr.ret (D.slice [] []) []))
theorem PUnN_eq (k : Int) (hs bs ts : List (List D)) (a1 a2 : Int) (a3 : List UInt8) (a4 : List (List D)) (b1 b2 : Int) (b3 : List UInt8) (b4 : List (List D)) (c1 c2 : Int) (c3 : List UInt8) (c4 : List (List D)) (d1 d2 : Int) (d3 : List UInt8) (d4 : List (List D)) (zk : List D) : goT Tryz.prog (ctr libT (QT.or (onF 29 (asmO (D.map 0) [(0,Ob.gen (Gen.mapS zk (D.agg [])) [])])) (asmO D.nils [(0,Ob.gen (Gen.mapS zk (D.agg [])) [])]))) 0 (finF true 0 rs15) 2000 [Fr.sc sc15] { tm := envOf 0 [D.agg (rC k hs bs ts a1 a2 a3 a4 b1 b2 b3 b4 c1 c2 c3 c4 d1 d2 d3 d4)],ob := [] } = PUnN k hs bs ts a1 a2 a3 a4 b1 b2 b3 b4 c1 c2 c3 c4 d1 d2 d3 d4 zk := by kernel_rfl
noncomputable def PUnA (k : Int) (hs bs ts : List (List D)) (a1 a2 : Int) (a3 : List UInt8) (a4 : List (List D)) (b1 b2 : Int) (b3 : List UInt8) (b4 : List (List D)) (c1 c2 : Int) (c3 : List UInt8) (c4 : List (List D)) (d1 d2 : Int) (d3 : List UInt8) (d4 : List (List D)) (zk : List D) (q : List (List D)) : Tr := Tr.owe (CallL Tryz.prog (D.func (Fn.func 29) [] []) [D.agg (rC k hs bs ts a1 a2 a3 a4 b1 b2 b3 b4 c1 c2 c3 c4 d1 d2 d3 d4)] [] fun r0 ob0 => r0 = D.map 0 /\ ob0 = [(0,Ob.gen (Gen.mapS zk (D.agg [])) [])]) (Tr.owe (CallL Tryz.prog (D.func (Fn.func 27) [] []) [D.map 0] [(0,Ob.gen (Gen.mapS zk (D.agg [])) [])] fun r0 ob0 => r0 = D.vec 1 /\ ob0 = [(0,Ob.gen (Gen.mapS zk (D.agg [])) []),(1,Ob.arr false 1 9 q)]) (Tr.ret (D.own 1 9 q) []))
theorem PUnA_eq (k : Int) (hs bs ts : List (List D)) (a1 a2 : Int) (a3 : List UInt8) (a4 : List (List D)) (b1 b2 : Int) (b3 : List UInt8) (b4 : List (List D)) (c1 c2 : Int) (c3 : List UInt8) (c4 : List (List D)) (d1 d2 : Int) (d3 : List UInt8) (d4 : List (List D)) (zk : List D) (q : List (List D)) : goT Tryz.prog (ctr libT (QT.or (onF 29 (asmO (D.map 0) [(0,Ob.gen (Gen.mapS zk (D.agg [])) [])])) (asmO (D.vec 1) [(0,Ob.gen (Gen.mapS zk (D.agg [])) []),(1,Ob.arr false 1 9 q)]))) 0 (finF true 0 rs15) 2000 [Fr.sc sc15] { tm := envOf 0 [D.agg (rC k hs bs ts a1 a2 a3 a4 b1 b2 b3 b4 c1 c2 c3 c4 d1 d2 d3 d4)],ob := [] } = PUnA k hs bs ts a1 a2 a3 a4 b1 b2 b3 b4 c1 c2 c3 c4 d1 d2 d3 d4 zk q := by kernel_rfl
def deK : D -> Nm
 | .str s => s
 | _ => []
theorem kS_perm {F : List Nm} {ks : List D} (h : ks.Perm (kS F)) : ∃ S : List Nm,S.Perm F /\ ks = kS S := by
 refine ⟨ks.map deK, ?_, ?_⟩
 ·have := h.map deK
  have e : (kS F).map deK = F := by
   unfold kS
   rw [List.map_map]
   exact (List.map_congr_left fun x _ => rfl).trans (List.map_id F)
  rwa [e] at this
 ·unfold kS
  rw [List.map_map]
  refine (List.map_id ks).symm.trans (List.map_congr_left fun x hx => ?_)
  have hx := h.mem_iff.1 hx
  obtain ⟨s,_,rfl⟩ := List.mem_map.1 hx
  rfl
theorem uS_map (S : List Nm) : uS S = (kS S).map fun _ => D.agg [] := by simp [uS,kS]
def outE (F : List Nm) : List Nm -> D × Obs
 | [] => (.nils,[(0,endO F)])
 | c :: r => (.vec 1,[(0,endO F),(1,.arr false 1 9 (strC (c :: r)))])
theorem sortedS_ok (F : List Nm) (hF : F.length <= 1073741823) (hnd : F.Nodup) : CallL Tryz.prog (.func (.func 27) [] []) [.map 0] [(0,endO F)] fun r ob => r = (outE F (srt F)).1 /\ ob = (outE F (srt F)).2 := by
 refine CallL.ofS fun ks hp => ?_
 obtain ⟨S,hS,rfl⟩ := kS_perm hp
 have hSn := hS.nodup_iff.2 hnd
 have h := sorted_ok S (by rw [hS.length_eq]; exact hF) hSn
 have e : srt S = srt F := srt_same hSn hnd fun x => hS.mem_iff
 rw [e] at h
 unfold setO at h
 rw [uS_map] at h
 refine h.wk fun r o ⟨hr,ho⟩ => ?_
 have hw : (Ob.gen (.mapC (kS S) ((kS S).map fun _ => D.agg [])) []).wk (endO F) := wk_set (hS.map _)
 generalize srt F = z at hr ho ⊢
 cases z with
 | nil =>
  refine ⟨[(0,endO F)],⟨hr,rfl⟩, ?_⟩
  subst ho
  unfold outO setO
  rw [uS_map]
  exact Obs.wk_cons hw (Obs.wk_refl _)
 | cons c r' =>
  refine ⟨[(0,endO F),(1,.arr false 1 9 (strC (c :: r')))],⟨hr,rfl⟩, ?_⟩
  subst ho
  unfold outO setO
  rw [uS_map]
  exact Obs.wk_cons hw (Obs.wk_cons (Ob.wk_refl _) (Obs.wk_refl _))
theorem Unsafe_ok (r : Ru) (hr : okR r) (hz : (unsafeS r).length <= 1073741823) : FnOK Tryz.prog 15 [.agg r.cs] (.slice (strC (srt (unsafeS r))) []) := by
 obtain ⟨k,hs,⟨a1,a2,a3,a4⟩,⟨b1,b2,b3,b4⟩,bs,⟨c1,c2,c3,c4⟩,⟨d1,d2,d3,d4⟩,ts⟩ := r
 have hu := unsafe_ok k hs a1 a2 a3 a4 b1 b2 b3 b4 bs c1 c2 c3 c4 d1 d2 d3 d4 ts hr
 have hs' := sortedS_ok _ hz (unsafeS_nd _)
 generalize unsafeS ⟨k,hs,.mk a1 a2 a3 a4,.mk b1 b2 b3 b4,bs,.mk c1 c2 c3 c4,.mk d1 d2 d3 d4,ts⟩ = F at hu hs' ⊢
 generalize srt F = z at hs' ⊢
 cases z with
 | nil =>
  refine FnOK.tree hdraw fp15 (ctr_ok libT_ok (QT.or_ok (onF_ok (asmO_ok _ _)) (asmO_ok _ _))) (PUnN_eq k (heL hs) (boL bs) (Tm.cellsL ts) a1 a2 a3 (Tm.cellsL a4) b1 b2 b3 (Tm.cellsL b4) c1 c2 c3 (Tm.cellsL c4) d1 d2 d3 (Tm.cellsL d4) (kS F)) ?_
  unfold PUnN
  rw [ok_owe,ok_owe,ok_ret]
  exact ⟨hu,hs',rfl⟩
 | cons c r' =>
  refine FnOK.freezeT (ty := 9) (FnOK.tree hdraw fp15 (ctr_ok libT_ok (QT.or_ok (onF_ok (asmO_ok _ _)) (asmO_ok _ _))) (PUnA_eq k (heL hs) (boL bs) (Tm.cellsL ts) a1 a2 a3 (Tm.cellsL a4) b1 b2 b3 (Tm.cellsL b4) c1 c2 c3 (Tm.cellsL c4) d1 d2 d3 (Tm.cellsL d4) (kS F) (strC (c :: r'))) ?_)
  unfold PUnA
  rw [ok_owe,ok_owe,ok_ret]
  exact ⟨hu,hs',rfl⟩
mutual
def smB : Tm -> Bool
 | .mk k n s l => decide (k <= 255) && (decide (-1000000 <= n) && (decide (n <= 1000000) && (decide (s.length <= 1000) && (decide (l.length <= 1000) && smBL l))))
def smBL : List Tm -> Bool
 | [] => true
 | a :: r => smB a && smBL r
end
mutual
theorem smB_wf : ∀ t : Tm,smB t = true -> t.wf 281474976710656
 | .mk k n s l,h => by
  simp only [smB,Bool.and_eq_true,decide_eq_true_eq] at h
  obtain ⟨h1,h2,h3,h4,h5,h6⟩ := h
  exact ⟨h1,by omega,by omega,by omega,by omega,smBL_wf l h6⟩
theorem smBL_wf : ∀ l : List Tm,smBL l = true -> Tm.wfL 281474976710656 l
 | [],_ => trivial
 | a :: r,h => by
  simp only [smBL,Bool.and_eq_true] at h
  exact ⟨smB_wf a h.1,smBL_wf r h.2⟩
end
def tmB (t : Tm) : Bool := smB t && decide (t.vs.length <= 1000)
theorem tmB_ok {t : Tm} (h : tmB t = true) : okt t := by
 simp only [tmB,Bool.and_eq_true,decide_eq_true_eq] at h
 exact ⟨smB_wf t h.1,by omega⟩
def tsB (l : List Tm) : Bool := decide (l.length <= 1000) && l.all tmB
theorem tsB_ok {l : List Tm} (h : tsB l = true) : okT l := by
 simp only [tsB,Bool.and_eq_true,decide_eq_true_eq,List.all_eq_true] at h
 exact ⟨by omega,fun x hx => tmB_ok (h.2 x hx)⟩
def ltB (x : Lt) : Bool := decide (x.a.length <= 1000) && (smBL x.a && (decide ((Tm.vsL x.a).length <= 1000) && (tmB x.l && tmB x.r)))
theorem ltB_ok {x : Lt} (h : ltB x = true) : okL x := by
 simp only [ltB,Bool.and_eq_true,decide_eq_true_eq] at h
 obtain ⟨h1,h2,h3,h4,h5⟩ := h
 exact ⟨by omega,smBL_wf _ h2,by omega,tmB_ok h4,tmB_ok h5⟩
def lsB (l : List Lt) : Bool := decide (l.length <= 1000) && (l.all ltB && decide ((withinT l).length <= 1000))
theorem lsB_ok {l : List Lt} (h : lsB l = true) : okC l := by
 simp only [lsB,Bool.and_eq_true,decide_eq_true_eq,List.all_eq_true] at h
 exact ⟨by omega,fun x hx => ltB_ok (h.2.1 x hx),by omega⟩
def boB (x : Bo) : Bool := lsB [x.l] && (tsB [x.b] && (lsB x.c && (decide (x.e.length <= 1000) && x.e.all fun y => tsB y.t && lsB y.c)))
def ruB (r : Ru) : Bool := tsB [r.lo,r.up,r.w,r.lv] && (tsB r.t && (decide (r.h.length <= 1000) && ((r.h.all fun x => tsB x.a && lsB x.c) && (decide (r.b.length <= 1000) && r.b.all boB))))
theorem ruB_ok {r : Ru} (h : ruB r = true) : okR r := by
 simp only [ruB,Bool.and_eq_true,decide_eq_true_eq,List.all_eq_true] at h
 obtain ⟨h1,h2,h3,h4,h5,h6⟩ := h
 refine ⟨tsB_ok h1,tsB_ok h2,by omega,fun x hx => ⟨tsB_ok (h4 x hx).1,lsB_ok (h4 x hx).2⟩,by omega,fun x hx => ?_⟩
 have := h6 x hx
 simp only [boB,Bool.and_eq_true,decide_eq_true_eq,List.all_eq_true] at this
 obtain ⟨g1,g2,g3,g4,g5⟩ := this
 exact ⟨lsB_ok g1,tsB_ok g2,lsB_ok g3,by omega,fun y hy => ⟨tsB_ok (g5 y hy).1,lsB_ok (g5 y hy).2⟩⟩
end Go.Proofs.YtiafmjolbacdaaaGreat
