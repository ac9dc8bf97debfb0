/- next: one token. -/
import Derived.Test.YtdkbjkccpnhjgaaGreatDoorSign
import Derived.Test.YtdkbjkccpnhjgaaGreatDoorSkip
import Derived.Test.YtdkbjkccpnhjgaaGreatDoorNumber
set_option linter.unusedSectionVars false
set_option linter.unusedVariables false
set_option linter.unusedSimpArgs false
set_option linter.deprecated false
set_option maxRecDepth 100000
namespace Go.Proofs.YtdkbjkccpnhjgaaGreatDoor
open Go.Sx
def symP : PT := fun f xs => match xs with
  | [.str s] => if f = 10 then some (.ok (s.length ≤ 4611686018427387904) (.bool (Lx.symbolB s)) []) else if f = 11 then some (.ok (s.length ≤ 4611686018427387904) (.bool (Lx.variableB s)) []) else none
  | _ => none
theorem symP_ok : symP.OK := by
  intro f xs rt h
  unfold symP at h
  split at h
  · split at h
    · rename_i hf; subst hf; cases h; exact fun hp => symbol_ok _ hp
    split at h
    · rename_i hf; subst hf; cases h; exact fun hp => variable_ok _ hp
    · cases h
  · cases h
noncomputable def Pword (s : List UInt8) : Go.Sx.Tr := brT (decide (s = [(110 : UInt8), (111 : UInt8), (116 : UInt8)])) (Tr.ret (D.tuple [D.int IntKind.u8 (4 : Int), D.int IntKind.i64 (0 : Int)]) []) (Tr.owe (List.length s ≤ (4611686018427387904 : Nat)) (brT (Lx.symbolB s) (Tr.ret (D.tuple [D.int IntKind.u8 (1 : Int), D.int IntKind.i64 (0 : Int)]) []) (Tr.owe (List.length s ≤ (4611686018427387904 : Nat)) (brT (Lx.variableB s) (Tr.ret (D.tuple [D.int IntKind.u8 (2 : Int), D.int IntKind.i64 (0 : Int)]) []) (Tr.ret (D.tuple [D.int IntKind.u8 (0 : Int), D.int IntKind.i64 (31 : Int)]) [])))))
theorem Pword_eq (s : List UInt8) : goT Tryz.prog (ctr symP) (0 : Nat) (finF true (0 : Nat) rs64) (2000 : Nat) [Fr.sc sc64] { tm := envOf (0 : Nat) [D.str s], ob := [] } = Pword s := by kernel_rfl
theorem word_ok (s : List UInt8) (hl : s.length ≤ 4611686018427387904) : FnOK Tryz.prog 64 [.str s] (.tuple [.int .u8 (Lx.wordK s).1, .int .i64 (Lx.wordK s).2]) := by
  refine FnOK.tree hdraw fp64 (ctr_ok symP_ok qnone_ok) (Pword_eq s) ?_
  unfold Pword Lx.wordK Lx.notS
  simp only [ok_br, ok_owe, ok_ret, ok_jmp, decide_eq_true_eq, decide_eq_false_iff_not, Int.toNat_natCast, true_and, and_true, Bool.not_eq_true', Bool.not_eq_false', List.drop_zero, List.take_length, D.bool.injEq, D.int.injEq, D.str.injEq, true_implies, Int.le_refl]
  refine ⟨fun h => by rw [if_pos h], fun h => ⟨hl, fun h2 => by rw [if_neg h, if_pos h2], fun h2 => ⟨hl, fun h3 => by rw [if_neg h, if_neg (by simp [h2]), if_pos h3], fun h3 => by rw [if_neg h, if_neg (by simp [h2]), if_neg (by simp [h3])]⟩⟩⟩
theorem numE_eq (s : List UInt8) : numE s = Lx.numE s := rfl
def nxP : PT := fun f xs => match xs with
  | [.str s] => if f = 64 then some (.ok (s.length ≤ 4611686018427387904) (.tuple [.int .u8 (Lx.wordK s).1, .int .i64 (Lx.wordK s).2]) []) else if f = 65 then some (.ok (s.length ≤ 281474976710656) (.int .i64 (Lx.numE s)) []) else none
  | [.int .u8 b] => clsP f [.int .u8 b]
  | [.slice es ext, .str t] => if f = 66 then some (.ok (es = strC (es.map deS) ∧ es.length ≤ 4611686018427387904) (.bool (decide (t ∈ es.map deS))) []) else none
  | _ => none
theorem nxP_ok : nxP.OK := by
  intro f xs rt h
  unfold nxP at h
  split at h
  · split at h
    · rename_i hf; subst hf; cases h; exact fun hp => word_ok _ hp
    split at h
    · rename_i hf; subst hf; cases h; exact fun hp => number_ok _ hp
    · cases h
  · exact clsP_ok _ _ _ h
  · rename_i es ext t
    split at h
    · rename_i hf
      subst hf
      cases h
      rintro ⟨he, hl⟩
      have := con_ok (es.map deS) ext t (by simpa using hl)
      rwa [← he] at this
    · cases h
  · cases h
def sgQ : QT := fun d xs ob => match d, xs, ob with
  | .func (.func f) [] [], [.ptr 0 0], [(0, .cells [.str src, .int .i64 a])] => if f = 67 then some (.ok (0 ≤ a ∧ a ≤ src.length ∧ src.length ≤ 4611686018427387904) (.str (Lx.signOf (src.drop a.toNat))) [(0, .cells [.str src, .int .i64 ((a.toNat + (Lx.signOf (src.drop a.toNat)).length : Nat) : Int)])])
    else if f = 39 then some (.ok (0 ≤ a ∧ a ≤ src.length ∧ src.length ≤ 4611686018427387904) (.tuple []) [(0, .cells [.str src, .int .i64 (Lx.skipTo src a.toNat : Nat)])]) else none
  | _, _, _ => none
theorem sgQ_ok : sgQ.OK := by
  intro d xs ob rt h
  unfold sgQ at h
  split at h
  · rename_i f src a
    split at h
    · rename_i hf
      subst hf
      cases h
      rintro ⟨h0, h1, h2⟩
      have := sign_ok src a.toNat (by omega) h2
      rwa [Int.toNat_of_nonneg h0] at this
    split at h
    · rename_i hf
      subst hf
      cases h
      rintro ⟨h0, h1, h2⟩
      have := skip_ok src a.toNat (by omega) h2
      rwa [Int.toNat_of_nonneg h0] at this
    · cases h
  · cases h
def nxQ : QT := skQ.or sgQ
theorem nxQ_ok : nxQ.OK := QT.or_ok skQ_ok sgQ_ok
noncomputable def Cnext (src : List UInt8) (a : Int) : Go.Sx.Tr := Tr.owe ((0 : Int) ≤ a ∧ a < (↑(List.length src) : Int)) (Tr.owe ((0 : Int) ≤ (↑(UInt8.toNat (List.getD src (Int.toNat a) (0 : UInt8))) : Int) ∧ (↑(UInt8.toNat (List.getD src (Int.toNat a) (0 : UInt8))) : Int) < (256 : Int)) (brT (decide (cls (Int.toNat (↑(UInt8.toNat (List.getD src (Int.toNat a) (0 : UInt8))) : Int)) = (1 : Int))) (brT (decide (cls (Int.toNat (↑(UInt8.toNat (List.getD src (Int.toNat a) (0 : UInt8))) : Int)) = (1 : Int))) (Tr.owe True (Tr.owe ((0 : Int) ≤ a ∧ a ≤ (↑(List.length src) : Int) ∧ List.length src ≤ (4611686018427387904 : Nat)) (Tr.owe (List.length (List.drop (Int.toNat a) (List.take (runTo (fun b => inC (7 : Int) (UInt8.toNat b)) src (Int.toNat a)) src)) ≤ (4611686018427387904 : Nat)) (Tr.ret (D.tuple [D.agg [D.int IntKind.u8 (Prod.fst (Lx.wordK (List.drop (Int.toNat a) (List.take (runTo (fun b => inC (7 : Int) (UInt8.toNat b)) src (Int.toNat a)) src)))), D.str (List.drop (Int.toNat a) (List.take (runTo (fun b => inC (7 : Int) (UInt8.toNat b)) src (Int.toNat a)) src)), D.int IntKind.i64 a], D.int IntKind.i64 (Prod.snd (Lx.wordK (List.drop (Int.toNat a) (List.take (runTo (fun b => inC (7 : Int) (UInt8.toNat b)) src (Int.toNat a)) src))))]) [((0 : Nat), Ob.cells [D.str src, D.int IntKind.i64 (↑(runTo (fun b => inC (7 : Int) (UInt8.toNat b)) src (Int.toNat a)) : Int)])])))) (brT (decide (cls (Int.toNat (↑(UInt8.toNat (List.getD src (Int.toNat a) (0 : UInt8))) : Int)) = (2 : Int))) (Tr.owe True (Tr.owe ((0 : Int) ≤ a ∧ a ≤ (↑(List.length src) : Int) ∧ List.length src ≤ (4611686018427387904 : Nat)) (Tr.owe (List.length (List.drop (Int.toNat a) (List.take (runTo (fun b => inC (2 : Int) (UInt8.toNat b)) src (Int.toNat a)) src)) ≤ (281474976710656 : Nat)) (Tr.ret (D.tuple [D.agg [D.int IntKind.u8 (3 : Int), D.str (List.drop (Int.toNat a) (List.take (runTo (fun b => inC (2 : Int) (UInt8.toNat b)) src (Int.toNat a)) src)), D.int IntKind.i64 a], D.int IntKind.i64 (Lx.numE (List.drop (Int.toNat a) (List.take (runTo (fun b => inC (2 : Int) (UInt8.toNat b)) src (Int.toNat a)) src)))]) [((0 : Nat), Ob.cells [D.str src, D.int IntKind.i64 (↑(runTo (fun b => inC (2 : Int) (UInt8.toNat b)) src (Int.toNat a)) : Int)])])))) (brT (decide (cls (Int.toNat (↑(UInt8.toNat (List.getD src (Int.toNat a) (0 : UInt8))) : Int)) = (16 : Int))) (Tr.owe ((-9223372036854775808 : Int) ≤ a + (1 : Int) ∧ a + (1 : Int) ≤ (9223372036854775807 : Int)) (Tr.owe True (Tr.owe ((0 : Int) ≤ a + (1 : Int) ∧ a + (1 : Int) ≤ (↑(List.length src) : Int) ∧ List.length src ≤ (4611686018427387904 : Nat)) (Tr.owe ((1 : Nat) + List.length (List.drop (Int.toNat (a + (1 : Int))) (List.take (runTo (fun b => inC (1 : Int) (UInt8.toNat b)) src (Int.toNat (a + (1 : Int)))) src)) ≤ (4611686018427387904 : Nat)) (Tr.owe ([[D.str [(35 : UInt8), (99 : UInt8), (111 : UInt8), (110 : UInt8), (115 : UInt8), (116 : UInt8)]], [D.str [(35 : UInt8), (115 : UInt8), (104 : UInt8), (111 : UInt8), (119 : UInt8)]], [D.str [(35 : UInt8), (109 : UInt8), (105 : UInt8), (110 : UInt8), (105 : UInt8), (109 : UInt8), (105 : UInt8), (122 : UInt8), (101 : UInt8)]], [D.str [(35 : UInt8), (99 : UInt8), (111 : UInt8), (117 : UInt8), (110 : UInt8), (116 : UInt8)]], [D.str [(35 : UInt8), (115 : UInt8), (117 : UInt8), (109 : UInt8)]]] = [[D.str (deS [D.str [(35 : UInt8), (99 : UInt8), (111 : UInt8), (110 : UInt8), (115 : UInt8), (116 : UInt8)]])], [D.str (deS [D.str [(35 : UInt8), (115 : UInt8), (104 : UInt8), (111 : UInt8), (119 : UInt8)]])], [D.str (deS [D.str [(35 : UInt8), (109 : UInt8), (105 : UInt8), (110 : UInt8), (105 : UInt8), (109 : UInt8), (105 : UInt8), (122 : UInt8), (101 : UInt8)]])], [D.str (deS [D.str [(35 : UInt8), (99 : UInt8), (111 : UInt8), (117 : UInt8), (110 : UInt8), (116 : UInt8)]])], [D.str (deS [D.str [(35 : UInt8), (115 : UInt8), (117 : UInt8), (109 : UInt8)]])]] ∧ (5 : Nat) ≤ (4611686018427387904 : Nat)) (brT (!decide ([(35 : UInt8)] ++ List.drop (Int.toNat (a + (1 : Int))) (List.take (runTo (fun b => inC (1 : Int) (UInt8.toNat b)) src (Int.toNat (a + (1 : Int)))) src) ∈ [deS [D.str [(35 : UInt8), (99 : UInt8), (111 : UInt8), (110 : UInt8), (115 : UInt8), (116 : UInt8)]], deS [D.str [(35 : UInt8), (115 : UInt8), (104 : UInt8), (111 : UInt8), (119 : UInt8)]], deS [D.str [(35 : UInt8), (109 : UInt8), (105 : UInt8), (110 : UInt8), (105 : UInt8), (109 : UInt8), (105 : UInt8), (122 : UInt8), (101 : UInt8)]], deS [D.str [(35 : UInt8), (99 : UInt8), (111 : UInt8), (117 : UInt8), (110 : UInt8), (116 : UInt8)]], deS [D.str [(35 : UInt8), (115 : UInt8), (117 : UInt8), (109 : UInt8)]]])) (Tr.ret (D.tuple [D.agg [D.int IntKind.u8 (5 : Int), D.str ([(35 : UInt8)] ++ List.drop (Int.toNat (a + (1 : Int))) (List.take (runTo (fun b => inC (1 : Int) (UInt8.toNat b)) src (Int.toNat (a + (1 : Int)))) src)), D.int IntKind.i64 a], D.int IntKind.i64 (31 : Int)]) [((0 : Nat), Ob.cells [D.str src, D.int IntKind.i64 (↑(runTo (fun b => inC (1 : Int) (UInt8.toNat b)) src (Int.toNat (a + (1 : Int)))) : Int)])]) (Tr.ret (D.tuple [D.agg [D.int IntKind.u8 (5 : Int), D.str ([(35 : UInt8)] ++ List.drop (Int.toNat (a + (1 : Int))) (List.take (runTo (fun b => inC (1 : Int) (UInt8.toNat b)) src (Int.toNat (a + (1 : Int)))) src)), D.int IntKind.i64 a], D.int IntKind.i64 (0 : Int)]) [((0 : Nat), Ob.cells [D.str src, D.int IntKind.i64 (↑(runTo (fun b => inC (1 : Int) (UInt8.toNat b)) src (Int.toNat (a + (1 : Int)))) : Int)])]))))))) (Tr.owe ((0 : Int) ≤ a ∧ a ≤ (↑(List.length src) : Int) ∧ List.length src ≤ (4611686018427387904 : Nat)) (brT (decide (Lx.signOf (List.drop (Int.toNat a) src) = [])) (Tr.ret (D.tuple [D.agg [D.int IntKind.u8 (6 : Int), D.str (Lx.signOf (List.drop (Int.toNat a) src)), D.int IntKind.i64 a], D.int IntKind.i64 (30 : Int)]) [((0 : Nat), Ob.cells [D.str src, D.int IntKind.i64 (↑(Int.toNat a + List.length (Lx.signOf (List.drop (Int.toNat a) src))) : Int)])]) (Tr.ret (D.tuple [D.agg [D.int IntKind.u8 (6 : Int), D.str (Lx.signOf (List.drop (Int.toNat a) src)), D.int IntKind.i64 a], D.int IntKind.i64 (0 : Int)]) [((0 : Nat), Ob.cells [D.str src, D.int IntKind.i64 (↑(Int.toNat a + List.length (Lx.signOf (List.drop (Int.toNat a) src))) : Int)])])))))) (brT (decide (cls (Int.toNat (↑(UInt8.toNat (List.getD src (Int.toNat a) (0 : UInt8))) : Int)) = (4 : Int))) (Tr.owe True (Tr.owe ((0 : Int) ≤ a ∧ a ≤ (↑(List.length src) : Int) ∧ List.length src ≤ (4611686018427387904 : Nat)) (Tr.owe (List.length (List.drop (Int.toNat a) (List.take (runTo (fun b => inC (7 : Int) (UInt8.toNat b)) src (Int.toNat a)) src)) ≤ (4611686018427387904 : Nat)) (Tr.ret (D.tuple [D.agg [D.int IntKind.u8 (Prod.fst (Lx.wordK (List.drop (Int.toNat a) (List.take (runTo (fun b => inC (7 : Int) (UInt8.toNat b)) src (Int.toNat a)) src)))), D.str (List.drop (Int.toNat a) (List.take (runTo (fun b => inC (7 : Int) (UInt8.toNat b)) src (Int.toNat a)) src)), D.int IntKind.i64 a], D.int IntKind.i64 (Prod.snd (Lx.wordK (List.drop (Int.toNat a) (List.take (runTo (fun b => inC (7 : Int) (UInt8.toNat b)) src (Int.toNat a)) src))))]) [((0 : Nat), Ob.cells [D.str src, D.int IntKind.i64 (↑(runTo (fun b => inC (7 : Int) (UInt8.toNat b)) src (Int.toNat a)) : Int)])])))) (brT (decide (cls (Int.toNat (↑(UInt8.toNat (List.getD src (Int.toNat a) (0 : UInt8))) : Int)) = (2 : Int))) (Tr.owe True (Tr.owe ((0 : Int) ≤ a ∧ a ≤ (↑(List.length src) : Int) ∧ List.length src ≤ (4611686018427387904 : Nat)) (Tr.owe (List.length (List.drop (Int.toNat a) (List.take (runTo (fun b => inC (2 : Int) (UInt8.toNat b)) src (Int.toNat a)) src)) ≤ (281474976710656 : Nat)) (Tr.ret (D.tuple [D.agg [D.int IntKind.u8 (3 : Int), D.str (List.drop (Int.toNat a) (List.take (runTo (fun b => inC (2 : Int) (UInt8.toNat b)) src (Int.toNat a)) src)), D.int IntKind.i64 a], D.int IntKind.i64 (Lx.numE (List.drop (Int.toNat a) (List.take (runTo (fun b => inC (2 : Int) (UInt8.toNat b)) src (Int.toNat a)) src)))]) [((0 : Nat), Ob.cells [D.str src, D.int IntKind.i64 (↑(runTo (fun b => inC (2 : Int) (UInt8.toNat b)) src (Int.toNat a)) : Int)])])))) (brT (decide (cls (Int.toNat (↑(UInt8.toNat (List.getD src (Int.toNat a) (0 : UInt8))) : Int)) = (16 : Int))) (Tr.owe ((-9223372036854775808 : Int) ≤ a + (1 : Int) ∧ a + (1 : Int) ≤ (9223372036854775807 : Int)) (Tr.owe True (Tr.owe ((0 : Int) ≤ a + (1 : Int) ∧ a + (1 : Int) ≤ (↑(List.length src) : Int) ∧ List.length src ≤ (4611686018427387904 : Nat)) (Tr.owe ((1 : Nat) + List.length (List.drop (Int.toNat (a + (1 : Int))) (List.take (runTo (fun b => inC (1 : Int) (UInt8.toNat b)) src (Int.toNat (a + (1 : Int)))) src)) ≤ (4611686018427387904 : Nat)) (Tr.owe ([[D.str [(35 : UInt8), (99 : UInt8), (111 : UInt8), (110 : UInt8), (115 : UInt8), (116 : UInt8)]], [D.str [(35 : UInt8), (115 : UInt8), (104 : UInt8), (111 : UInt8), (119 : UInt8)]], [D.str [(35 : UInt8), (109 : UInt8), (105 : UInt8), (110 : UInt8), (105 : UInt8), (109 : UInt8), (105 : UInt8), (122 : UInt8), (101 : UInt8)]], [D.str [(35 : UInt8), (99 : UInt8), (111 : UInt8), (117 : UInt8), (110 : UInt8), (116 : UInt8)]], [D.str [(35 : UInt8), (115 : UInt8), (117 : UInt8), (109 : UInt8)]]] = [[D.str (deS [D.str [(35 : UInt8), (99 : UInt8), (111 : UInt8), (110 : UInt8), (115 : UInt8), (116 : UInt8)]])], [D.str (deS [D.str [(35 : UInt8), (115 : UInt8), (104 : UInt8), (111 : UInt8), (119 : UInt8)]])], [D.str (deS [D.str [(35 : UInt8), (109 : UInt8), (105 : UInt8), (110 : UInt8), (105 : UInt8), (109 : UInt8), (105 : UInt8), (122 : UInt8), (101 : UInt8)]])], [D.str (deS [D.str [(35 : UInt8), (99 : UInt8), (111 : UInt8), (117 : UInt8), (110 : UInt8), (116 : UInt8)]])], [D.str (deS [D.str [(35 : UInt8), (115 : UInt8), (117 : UInt8), (109 : UInt8)]])]] ∧ (5 : Nat) ≤ (4611686018427387904 : Nat)) (brT (!decide ([(35 : UInt8)] ++ List.drop (Int.toNat (a + (1 : Int))) (List.take (runTo (fun b => inC (1 : Int) (UInt8.toNat b)) src (Int.toNat (a + (1 : Int)))) src) ∈ [deS [D.str [(35 : UInt8), (99 : UInt8), (111 : UInt8), (110 : UInt8), (115 : UInt8), (116 : UInt8)]], deS [D.str [(35 : UInt8), (115 : UInt8), (104 : UInt8), (111 : UInt8), (119 : UInt8)]], deS [D.str [(35 : UInt8), (109 : UInt8), (105 : UInt8), (110 : UInt8), (105 : UInt8), (109 : UInt8), (105 : UInt8), (122 : UInt8), (101 : UInt8)]], deS [D.str [(35 : UInt8), (99 : UInt8), (111 : UInt8), (117 : UInt8), (110 : UInt8), (116 : UInt8)]], deS [D.str [(35 : UInt8), (115 : UInt8), (117 : UInt8), (109 : UInt8)]]])) (Tr.ret (D.tuple [D.agg [D.int IntKind.u8 (5 : Int), D.str ([(35 : UInt8)] ++ List.drop (Int.toNat (a + (1 : Int))) (List.take (runTo (fun b => inC (1 : Int) (UInt8.toNat b)) src (Int.toNat (a + (1 : Int)))) src)), D.int IntKind.i64 a], D.int IntKind.i64 (31 : Int)]) [((0 : Nat), Ob.cells [D.str src, D.int IntKind.i64 (↑(runTo (fun b => inC (1 : Int) (UInt8.toNat b)) src (Int.toNat (a + (1 : Int)))) : Int)])]) (Tr.ret (D.tuple [D.agg [D.int IntKind.u8 (5 : Int), D.str ([(35 : UInt8)] ++ List.drop (Int.toNat (a + (1 : Int))) (List.take (runTo (fun b => inC (1 : Int) (UInt8.toNat b)) src (Int.toNat (a + (1 : Int)))) src)), D.int IntKind.i64 a], D.int IntKind.i64 (0 : Int)]) [((0 : Nat), Ob.cells [D.str src, D.int IntKind.i64 (↑(runTo (fun b => inC (1 : Int) (UInt8.toNat b)) src (Int.toNat (a + (1 : Int)))) : Int)])]))))))) (Tr.owe ((0 : Int) ≤ a ∧ a ≤ (↑(List.length src) : Int) ∧ List.length src ≤ (4611686018427387904 : Nat)) (brT (decide (Lx.signOf (List.drop (Int.toNat a) src) = [])) (Tr.ret (D.tuple [D.agg [D.int IntKind.u8 (6 : Int), D.str (Lx.signOf (List.drop (Int.toNat a) src)), D.int IntKind.i64 a], D.int IntKind.i64 (30 : Int)]) [((0 : Nat), Ob.cells [D.str src, D.int IntKind.i64 (↑(Int.toNat a + List.length (Lx.signOf (List.drop (Int.toNat a) src))) : Int)])]) (Tr.ret (D.tuple [D.agg [D.int IntKind.u8 (6 : Int), D.str (Lx.signOf (List.drop (Int.toNat a) src)), D.int IntKind.i64 a], D.int IntKind.i64 (0 : Int)]) [((0 : Nat), Ob.cells [D.str src, D.int IntKind.i64 (↑(Int.toNat a + List.length (Lx.signOf (List.drop (Int.toNat a) src))) : Int)])]))))))))
theorem Cnext_eq (src : List UInt8) (a : Int) : goT Tryz.prog (ctr nxP nxQ) (1 : Nat) (finF false (1 : Nat) rs40) (2000 : Nat) [Fr.sc sc40] { tm := envOf (0 : Nat) ([] ++ [D.ptr (0 : Nat) (0 : Nat)] ++ []), ob := [((0 : Nat), Ob.cells [D.str src, D.int IntKind.i64 a])] } = Cnext src a := by kernel_rfl
theorem cls1 : (fun b : UInt8 => decide (cls b.toNat = 1)) = Lx.isLet := byte_fun (by kernel_rfl)
theorem cls4 : (fun b : UInt8 => decide (cls b.toNat = 4)) = Lx.isUnd := byte_fun (by kernel_rfl)
theorem cls2 : (fun b : UInt8 => decide (cls b.toNat = 2)) = Lx.isDig := byte_fun (by kernel_rfl)
theorem cls16 : (fun b : UInt8 => decide (cls b.toNat = 16)) = (fun b => b == 35) := byte_fun (by kernel_rfl)
/-- A token's value. -/
def tokD (k : Int) (t : List UInt8) (a : Int) : D := .agg [.int .u8 k, .str t, .int .i64 a]
theorem next_ok (src : List UInt8) (a : Nat) (ha : a < src.length) (hl : src.length ≤ 281474976710656) : CallL Tryz.prog (.func (.func 40) [] []) [.ptr 0 0] [(0, .cells [.str src, .int .i64 a])]
    fun r ob => r = .tuple [tokD (Lx.tok (src.drop a)).1 (Lx.tok (src.drop a)).2.1 a, .int .i64 (Lx.tok (src.drop a)).2.2] ∧ ob = [(0, .cells [.str src, .int .i64 ((a + (Lx.tok (src.drop a)).2.1.length : Nat) : Int)])] := by
  refine CallL.tree hdraw fp40 (ctr_ok nxP_ok nxQ_ok) (Cnext_eq src a) ?_
  have hd : src.drop a = src.getD a 0 :: src.drop (a + 1) := drop_getD ha
  generalize hb : src.getD a 0 = b at hd
  have h1 : decide (cls b.toNat = 1) = Lx.isLet b := congrFun cls1 b
  have h4 : decide (cls b.toNat = 4) = Lx.isUnd b := congrFun cls4 b
  have h2 : decide (cls b.toNat = 2) = Lx.isDig b := congrFun cls2 b
  have h16 : decide (cls b.toNat = 16) = (b == 35) := congrFun cls16 b
  have hrt : ∀ p, runTo p src a = a + ((src.drop a).takeWhile p).length := fun p => rfl
  have hrt1 : ∀ p, runTo p src (a + 1) = a + 1 + ((src.drop (a + 1)).takeWhile p).length := fun p => rfl
  have htl : ∀ p, ((src.drop a).takeWhile p).length ≤ src.length := fun p => Nat.le_trans (List.takeWhile_sublist p).length_le (by rw [List.length_drop]; omega)
  have htl1 : ∀ p, ((src.drop (a + 1)).takeWhile p).length + 1 ≤ src.length := fun p => by
    have := (List.takeWhile_sublist (l := src.drop (a + 1)) p).length_le
    rw [List.length_drop] at this
    omega
  have e1 : ((a : Int) + 1).toNat = a + 1 := by omega
  have hbl := b.toNat_lt
  unfold Cnext
  simp only [ok_br, ok_owe, ok_ret, Int.toNat_natCast, true_and, e1, inC7, inC2, inC1, runTo_text, h1, h2, h4, h16, hb]
  refine ⟨by omega, by omega, ?_⟩
  have hname : ∀ (h : Lx.isLet b = true ∨ Lx.isUnd b = true), Lx.tok (src.drop a) = ((Lx.wordK ((src.drop a).takeWhile Lx.isName)).1, (src.drop a).takeWhile Lx.isName, (Lx.wordK ((src.drop a).takeWhile Lx.isName)).2) := fun h => by
    rw [hd]; simp only [Lx.tok]; rw [if_pos (by simpa using h)]
  have hwk : (0 ≤ (a : Int) ∧ (a : Int) ≤ src.length ∧ src.length ≤ 4611686018427387904) := ⟨by omega, by omega, by omega⟩
  refine ⟨fun hL => ⟨fun _ => ⟨hwk, Nat.le_trans (htl _) (by omega), ?_⟩, fun h => by simp [hL] at h⟩, fun hL => ⟨fun hU => ⟨hwk, Nat.le_trans (htl _) (by omega), ?_⟩, fun hU => ⟨fun hD => ⟨hwk, Nat.le_trans (htl _) (by omega), ?_⟩, fun hD => ⟨fun hH => ⟨by omega, by omega, ?_⟩, fun hH => ⟨hwk, ?_⟩⟩⟩⟩⟩
  · rw [hname (.inl hL)]; exact ⟨rfl, rfl⟩
  · rw [hname (.inr hU)]; exact ⟨rfl, rfl⟩
  · have ht : Lx.tok (src.drop a) = (3, (src.drop a).takeWhile Lx.isDig, Lx.numE ((src.drop a).takeWhile Lx.isDig)) := by
      rw [hd]; simp only [Lx.tok]; rw [if_neg (by simp [hL, hU]), if_pos hD]
    rw [ht]; exact ⟨rfl, rfl⟩
  · have ht : Lx.tok (src.drop a) = (5, 35 :: (src.drop (a + 1)).takeWhile Lx.isLet, if 35 :: (src.drop (a + 1)).takeWhile Lx.isLet ∈ Lx.dirs then 0 else 31) := by
      rw [hd]; simp only [Lx.tok]; rw [if_neg (by simp [hL, hU]), if_neg (by simp [hD]), if_pos hH]
    rw [ht]
    refine ⟨Nat.le_trans (Nat.add_comm .. ▸ htl1 _) (by omega), ⟨rfl, by omega⟩, fun hm => ?_, fun hm => ?_⟩
    · have hm' : ¬ 35 :: (src.drop (a + 1)).takeWhile Lx.isLet ∈ Lx.dirs := of_decide_eq_false ((Bool.not_eq_true' _).mp hm)
      rw [if_neg hm']
      refine ⟨rfl, ?_⟩
      rw [hrt1, List.length_cons, Nat.add_assoc, Nat.add_comm 1]
    · have hm' : 35 :: (src.drop (a + 1)).takeWhile Lx.isLet ∈ Lx.dirs := of_decide_eq_true ((Bool.not_eq_false' _).mp hm)
      rw [if_pos hm']
      refine ⟨rfl, ?_⟩
      rw [hrt1, List.length_cons, Nat.add_assoc, Nat.add_comm 1]
  · have ht : Lx.tok (src.drop a) = (6, Lx.signOf (src.drop a), if Lx.signOf (src.drop a) = [] then 30 else 0) := by
      rw [hd]; simp only [Lx.tok]; rw [if_neg (by simp [hL, hU]), if_neg (by simp [hD]), if_neg (by simp [hH])]
    rw [ht]
    simp only [decide_eq_true_eq, decide_eq_false_iff_not]
    exact ⟨fun h => by rw [if_pos h]; exact ⟨rfl, trivial⟩, fun h => by rw [if_neg h]; exact ⟨rfl, trivial⟩⟩
end Go.Proofs.YtdkbjkccpnhjgaaGreatDoor
