/- LexTells: it returns true. -/
import Derived.Test.YtdkbjkccpnhjgaaGreatDoorRefT
set_option linter.unusedSectionVars false
set_option linter.unusedVariables false
set_option linter.unusedSimpArgs false
set_option linter.deprecated false
set_option maxRecDepth 100000
namespace Go.Proofs.YtdkbjkccpnhjgaaGreatDoor
open Go.Sx
noncomputable def PTells (s : List UInt8) : Go.Sx.Tr := brT (decide ((4000 : Int) < (↑(List.length s) : Int))) (Tr.owe True (Tr.ret (D.bool true) [])) (Tr.owe True (Tr.owe True (Tr.ret (D.bool true) [])))
theorem PTells_eq (s : List UInt8) : goT Tryz.prog (ctr telP) (0 : Nat) (finF true (0 : Nat) rs3) (2000 : Nat) [Fr.sc sc3] { tm := envOf (0 : Nat) [D.str s], ob := [] } = PTells s := by kernel_rfl
/-- LexTells RETURNS true. -/
theorem tells_ok (s : List UInt8) : FnOK Tryz.prog 3 [.str s] (.bool true) := by
  refine FnOK.tree hdraw fp3 (ctr_ok telP_ok qnone_ok) (PTells_eq s) ?_
  unfold PTells
  simp only [ok_br, ok_owe, ok_ret, ok_jmp, decide_eq_true_eq, decide_eq_false_iff_not, Int.toNat_natCast, true_and, and_true, Bool.not_eq_true', Bool.not_eq_false', List.drop_zero, List.take_length, D.bool.injEq, D.int.injEq, D.str.injEq, true_implies, Int.le_refl]
  exact ⟨fun _ => trivial, fun _ => trivial⟩
end Go.Proofs.YtdkbjkccpnhjgaaGreatDoor
