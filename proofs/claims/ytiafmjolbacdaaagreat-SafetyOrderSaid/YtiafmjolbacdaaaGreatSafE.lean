/- close, bound, sorted: trees. -/
import Derived.Test.YtiafmjolbacdaaaGreatSafD
set_option linter.unusedSectionVars false
set_option linter.unusedVariables false
set_option linter.unusedSimpArgs false
set_option linter.deprecated false
set_option maxRecDepth 100000
namespace Go.Proofs.YtiafmjolbacdaaaGreat
open Go.Sx
noncomputable def CCl (ks : List D) (cs : List D) (es : List (List D)) : Tr := Tr.jmp (cut sc37 0) { tm := [(1, D.slice es []), (2, D.ptr 1 0), (4, D.int .i64 (-1 : Int))], ob := [(0, Ob.gen (Gen.mapC ks cs) []), (1, Ob.cells [D.map 0])] }
theorem CCl_eq (ks : List D) (cs : List D) (es : List (List D)) : goT Tryz.prog (ctr libT) 1 (finF false 1 rs37) 2000 [Fr.sc sc37] { tm := envOf 0 ([] ++ [D.agg [D.map 0], D.slice es []] ++ []), ob := [(0, Ob.gen (Gen.mapC ks cs) [])] } = CCl ks cs es := by kernel_rfl
def hdCl (es : List (List D)) (n : Int) (ks cs : List D) : St := ⟨[(1, .slice es []), (2, .ptr 1 0), (4, .int .i64 n)], [(0, .gen (.mapC ks cs) []), (1, .cells [.map 0])]⟩
noncomputable def CCl2 (ks : List D) (cs : List D) (es : List (List D)) (n : Int) : Tr := brT (!decide (n = (↑(List.length ks) : Int))) (Tr.jmp (cut sc37 1) { tm := [(1, D.slice es []), (2, D.ptr 1 0), (4, D.int .i64 (↑(List.length ks) : Int)), (15, D.slice es []), (16, D.int .i64 (↑(List.length es) : Int)), (17, D.int .i64 (0 : Int))], ob := [(0, Ob.gen (Gen.mapC ks cs) []), (1, Ob.cells [D.map 0])] }) (Tr.ret (D.tuple []) [(0, Ob.gen (Gen.mapC ks cs) [])])
theorem CCl2_eq (ks : List D) (cs : List D) (es : List (List D)) (n : Int) : goT Tryz.prog (ctr libT) 1 (finF false 1 rs37) 2000 (cut sc37 0) (hdCl es n ks cs) = CCl2 ks cs es n := by kernel_rfl
def hdCi (es : List (List D)) (n m i : Int) (ks cs : List D) : St := ⟨[(1, .slice es []), (2, .ptr 1 0), (4, .int .i64 n), (15, .slice es []), (16, .int .i64 m), (17, .int .i64 i)], [(0, .gen (.mapC ks cs) []), (1, .cells [.map 0])]⟩
noncomputable def CCl3 (ks : List D) (cs : List D) (ks' : List D) (cs' : List D) (es : List (List D)) (n : Int) (m : Int) (i : Int) (k : Int) (no : Bool) (p : List UInt8) (a : List (List D)) (op : Int) (kx : Int) (nx : Int) (sx : List UInt8) (ax : List (List D)) (ky : Int) (ny : Int) (sy : List UInt8) (ay : List (List D)) : Tr := brT (decide (i < m)) (Tr.owe ((0 : Int) ≤ i ∧ es[Int.toNat i]? = some [D.int .u8 k, D.bool no, D.str p, D.slice a [], D.int .u8 op, D.int .u8 kx, D.int .i64 nx, D.str sx, D.slice ax [], D.int .u8 ky, D.int .i64 ny, D.str sy, D.slice ay []]) (Tr.owe (CallL Tryz.prog (D.func (Fn.func 55) [] []) [D.agg [D.map 0], D.agg [D.int .u8 k, D.bool no, D.str p, D.slice a [], D.int .u8 op, D.int .u8 kx, D.int .i64 nx, D.str sx, D.slice ax [], D.int .u8 ky, D.int .i64 ny, D.str sy, D.slice ay []]] [(0, Ob.gen (Gen.mapC ks cs) [])] fun r0 ob0 => r0 = D.tuple [] ∧ ob0 = [(0, Ob.gen (Gen.mapC ks' cs') [])]) (Tr.owe ((-9223372036854775808 : Int) ≤ i + (1 : Int) ∧ i + (1 : Int) ≤ (9223372036854775807 : Int)) (Tr.jmp (cut sc37 1) { tm := [(1, D.slice es []), (2, D.ptr 1 0), (4, D.int .i64 n), (15, D.slice es []), (16, D.int .i64 m), (17, D.int .i64 (i + (1 : Int)))], ob := [(0, Ob.gen (Gen.mapC ks' cs') []), (1, Ob.cells [D.map 0])] })))) (Tr.jmp (cut sc37 0) { tm := [(1, D.slice es []), (2, D.ptr 1 0), (4, D.int .i64 n)], ob := [(0, Ob.gen (Gen.mapC ks cs) []), (1, Ob.cells [D.map 0])] })
theorem CCl3_eq (ks : List D) (cs : List D) (ks' : List D) (cs' : List D) (es : List (List D)) (n : Int) (m : Int) (i : Int) (k : Int) (no : Bool) (p : List UInt8) (a : List (List D)) (op : Int) (kx : Int) (nx : Int) (sx : List UInt8) (ax : List (List D)) (ky : Int) (ny : Int) (sy : List UInt8) (ay : List (List D)) : goT Tryz.prog (ctr libT (asmA (D.tuple []) (updM ks' cs')) (eOne (lC k no p a op kx nx sx ax ky ny sy ay))) 1 (finF false 1 rs37) 2000 (cut sc37 1) (hdCi es n m i ks cs) = CCl3 ks cs ks' cs' es n m i k no p a op kx nx sx ax ky ny sy ay := by kernel_rfl
def asmO (r : D) (ob' : Obs) : QT := fun d xs ob => some (.ok (CallL Tryz.prog d xs ob fun r0 ob0 => r0 = r ∧ ob0 = ob') r ob')
theorem asmO_ok (r : D) (ob' : Obs) : (asmO r ob').OK := by intro d xs ob rt h; cases h; exact fun hp => hp
noncomputable def CBd (ks : List D) (cs : List D) (ks' : List D) (cs' : List D) (es : List (List D)) : Tr := Tr.owe (CallL Tryz.prog (D.func (Fn.func 36) [] []) [D.map 0] [(0, Ob.gen (Gen.mapC ks cs) [])] fun r0 ob0 => r0 = D.map 1 ∧ ob0 = [(0, Ob.gen (Gen.mapC ks cs) []), (1, Ob.gen (Gen.mapC ks cs) [])]) (Tr.owe (CallL Tryz.prog (D.func (Fn.func 37) [] []) [D.agg [D.map 0], D.slice es []] [(0, Ob.gen (Gen.mapC ks cs) [])] fun r0 ob0 => r0 = D.tuple [] ∧ ob0 = [(0, Ob.gen (Gen.mapC ks' cs') [])]) (Tr.ret (D.map 1) [(0, Ob.gen (Gen.mapC ks cs) []), (1, Ob.gen (Gen.mapC ks' cs') [])]))
theorem CBd_eq (ks : List D) (cs : List D) (ks' : List D) (cs' : List D) (es : List (List D)) : goT Tryz.prog (ctr libT (QT.or (onF 36 (asmO (D.map 1) [(0, Ob.gen (Gen.mapC ks cs) []), (1, Ob.gen (Gen.mapC ks cs) [])])) (asmA (D.tuple []) (updM ks' cs')))) 1 (finF false 1 rs26) 2000 [Fr.sc sc26] { tm := envOf 0 ([] ++ [D.map 0, D.slice es []] ++ []), ob := [(0, Ob.gen (Gen.mapC ks cs) [])] } = CBd ks cs ks' cs' es := by kernel_rfl
abbrev fY : FuncId := 58
def keyQ : QT := fun d xs ob => match d, xs, ob with
  | .func (.func f) [] [], [.map 0], [(0, .gen (.mapC ks cs) [])] => if f = 39 then some (.ok True (.func (.func fY) [] [.ptr 1 0]) [(0, .gen (.mapC ks cs) []), (1, .cells [.map 0])]) else none
  | _, _, _ => none
theorem keyQ_ok : keyQ.OK := by
  intro d xs ob rt h
  unfold keyQ at h
  split at h
  · split at h
    · rename_i hf
      subst hf
      cases h
      intro _
      exact CallL.tree hdraw fp39 (ctr_ok libT_ok qnone_ok) (CKey_eq _ _) ⟨rfl, rfl⟩
    · cases h
  · cases h
noncomputable def CSo (ks : List D) (cs : List D) (r : List (List D)) : Tr := Tr.owe True (Tr.owe (CallL Tryz.prog (D.func (Fn.func 38) [] []) [D.func (Fn.func 58) [] [D.ptr 0 0]] [(0, Ob.cells [D.map 1]), (1, Ob.gen (Gen.mapC ks cs) [])] fun r0 ob0 => r0 = D.vec 2 ∧ ob0 = [(0, Ob.cells [D.map 1]), (1, Ob.gen (Gen.mapC ks cs) []), (2, Ob.arr false 1 9 r)]) (Tr.ret (D.vec 1) [(0, Ob.gen (Gen.mapC ks cs) []), (1, Ob.arr false 1 9 r)]))
theorem CSo_eq (ks : List D) (cs : List D) (r : List (List D)) : goT Tryz.prog (ctr libT (QT.or keyQ (asmO (D.vec 2) [(0, Ob.cells [D.map 1]), (1, Ob.gen (Gen.mapC ks cs) []), (2, Ob.arr false 1 9 r)]))) 1 (finF false 1 rs27) 2000 [Fr.sc sc27] { tm := envOf 0 ([] ++ [D.map 0] ++ []), ob := [(0, Ob.gen (Gen.mapC ks cs) [])] } = CSo ks cs r := by kernel_rfl
noncomputable def CSoN (ks : List D) (cs : List D) : Tr := Tr.owe True (Tr.owe (CallL Tryz.prog (D.func (Fn.func 38) [] []) [D.func (Fn.func 58) [] [D.ptr 0 0]] [(0, Ob.cells [D.map 1]), (1, Ob.gen (Gen.mapC ks cs) [])] fun r0 ob0 => r0 = D.nils ∧ ob0 = [(0, Ob.cells [D.map 1]), (1, Ob.gen (Gen.mapC ks cs) [])]) (Tr.ret D.nils [(0, Ob.gen (Gen.mapC ks cs) [])]))
theorem CSoN_eq (ks : List D) (cs : List D) : goT Tryz.prog (ctr libT (QT.or keyQ (asmO D.nils [(0, Ob.cells [D.map 1]), (1, Ob.gen (Gen.mapC ks cs) [])]))) 1 (finF false 1 rs27) 2000 [Fr.sc sc27] { tm := envOf 0 ([] ++ [D.map 0] ++ []), ob := [(0, Ob.gen (Gen.mapC ks cs) [])] } = CSoN ks cs := by kernel_rfl
end Go.Proofs.YtiafmjolbacdaaaGreat
