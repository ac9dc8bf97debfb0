/- TermNames: it returns true. -/
import Derived.Test.YtbcgpkgdbepfbaaGreatDoorAwakeT
import Derived.Test.YtbcgpkgdbepfbaaGreatDoorRefA
set_option linter.unusedSectionVars false
set_option linter.unusedVariables false
set_option linter.unusedSimpArgs false
set_option linter.deprecated false
set_option maxRecDepth 100000
namespace Go.Proofs.YtbcgpkgdbepfbaaGreatDoor
open Go.Sx
def namP : PT := fun f xs => match xs with
  | [] => if f = 9 then some (.ok True (.bool true) []) else none
  | [.str s] => if f = 10 then some (.ok (s.length ≤ 4611686018427387904) (.bool (Lx.symbolB s)) []) else if f = 12 then some (.ok (s.length ≤ 4611686018427387904) (.bool (Lx.variableB s)) []) else refP3 f xs
  | _ => none
theorem namP_ok : namP.OK := by
  intro f xs rt h
  unfold namP at h
  split at h
  · split at h
    · rename_i hf; subst hf; cases h; exact fun _ => awake_ok
    · cases h
  · split at h
    · rename_i hf; subst hf; cases h; exact fun hl => symbol_ok _ hl
    split at h
    · rename_i hf; subst hf; cases h; exact fun hl => variable_ok _ hl
    · exact refP3_ok _ _ _ h
  · cases h
noncomputable def PNames (s : List UInt8) : Go.Sx.Tr := brT (decide ((200 : Int) < (↑(List.length s) : Int))) (Tr.owe True (Tr.ret (D.bool true) [])) (Tr.owe (List.length s ≤ (4611686018427387904 : Nat)) (Tr.owe (List.length s ≤ (4611686018427387904 : Nat)) (brT (Lx.symbolB s == Lx.symbolB s) (Tr.owe (List.length s ≤ (4611686018427387904 : Nat)) (Tr.owe (List.length s ≤ (4611686018427387904 : Nat)) (brT (Lx.variableB s == Lx.variableB s) (Tr.owe True (Tr.ret (D.bool true) [])) (Tr.ret (D.bool false) [])))) (Tr.ret (D.bool false) []))))
theorem PNames_eq (s : List UInt8) : goT Tryz.prog (ctr namP) (0 : Nat) (finF true (0 : Nat) rs3) (2000 : Nat) [Fr.sc sc3] { tm := envOf (0 : Nat) [D.str s], ob := [] } = PNames s := by kernel_rfl
/-- TermNames RETURNS true. -/
theorem names_ok (s : List UInt8) : FnOK Tryz.prog 3 [.str s] (.bool true) := by
  refine FnOK.tree hdraw fp3 (ctr_ok namP_ok qnone_ok) (PNames_eq s) ?_
  unfold PNames
  simp only [ok_br, ok_owe, ok_ret, decide_eq_true_eq, decide_eq_false_iff_not]
  refine ⟨fun _ => by simp, fun h => ?_⟩
  have hl : s.length ≤ 4611686018427387904 := by omega
  simp [hl]
end Go.Proofs.YtbcgpkgdbepfbaaGreatDoor
