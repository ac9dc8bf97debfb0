/- The class of a byte; the tests for the bytes of some classes. -/
import Derived.Test.YtdkbjkccpnhjgaaGreatDoorLibT
set_option linter.unusedSectionVars false
set_option linter.unusedVariables false
set_option linter.unusedSimpArgs false
set_option linter.deprecated false
namespace Go.Proofs.YtdkbjkccpnhjgaaGreatDoor
open Go.Sx

/-- The class of a byte. -/
def cls (b : Nat) : Int :=
  if 97 ≤ b ∧ b ≤ 122 ∨ 65 ≤ b ∧ b ≤ 90 then 1 else if 48 ≤ b ∧ b ≤ 57 then 2 else if b = 95 then 4 else if b = 32 ∨ b = 9 ∨ b = 10 ∨ b = 13 then 8 else if b = 35 then 16 else 0

noncomputable def clsB (b : Nat) : Bool := match fnE tab (go Tryz.prog tab 400) 63 [.int .u8 (b : Int)] with
  | some (.int .i64 m) => m == cls b
  | _ => false

set_option maxRecDepth 100000
theorem cls_all : (List.range 256).all clsB = true := by kernel_rfl

theorem class_ok (b : Nat) (hb : b < 256) : FnOK Tryz.prog 63 [.int .u8 (b : Int)] (.int .i64 (cls b)) := by
  have h := List.all_eq_true.1 cls_all b (List.mem_range.2 hb)
  unfold clsB at h
  split at h
  · rename_i m hm
    rw [← eq_of_beq h]
    exact fnE_ok hdraw tab_ok _ hm
  · cases h

def clsP : PT := fun f xs => if f = 63 then match xs with
    | [.int .u8 b] => some (.ok (0 ≤ b ∧ b < 256) (.int .i64 (cls b.toNat)) [])
    | _ => none
  else none
theorem clsP_ok : clsP.OK := by
  intro f xs rt h
  unfold clsP at h
  split at h
  · rename_i hf; subst hf
    split at h
    · rename_i b
      cases h
      rintro ⟨h0, h1⟩
      have := class_ok b.toNat (by omega)
      rwa [Int.toNat_of_nonneg h0] at this
    · cases h
  · cases h

end Go.Proofs.YtdkbjkccpnhjgaaGreatDoor
