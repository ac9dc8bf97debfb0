/-
  NARROWER THAN 'FOR EVERY INPUT', by the rows' own cells (each row's printed sentence says how): SafetyCloses: loops · SafetyOrder: loops · SafetyPrograms: loops · SafetyAdds: loops.
  DERIVED. THE GIVEN ROWS OF THIS SEAT. 4 by the template 'for every input the law returns true; each argument reads behind the call as it read before'; 0 by the template 'total and deterministic' (their statements: YtiafmjolbacdaaaGreatTotals.lean).
  GIVEN WITH THE SEED: the statements are not yours to turn. If you find one false, say at which input.
  Laid BY PROGRAM, IN A SANDBOX (cutbox-rows.mjs): the forced cells as the released guide's own fill.sh prints them over the translation bff76e883ec69c4b… (all of the seat's roots in one cut). By AI agents, Wed Nov 11 2026. No macro, syntax, notation, axiom, sorry.
-/
import Derived.Test.YtiafmjolbacdaaaGreatChecked
import GoSem.Claim
import GoSem.ClaimJoined
import GoSem.ClaimMapViews
import Derived.JoinedTies
import Derived.KernelRfl
namespace Go.Proofs.YtiafmjolbacdaaaGreat
/- THE CELL 'sum', in the pinned program and in every row, IS THE sha256 OF THE DUMP (.gsa) THAT YtiafmjolbacdaaaGreatProg.lean LOADS. Nothing in Lean hashes anything: it is a label: what it is worth is what the hold of that sum in a sandbox is worth. -/
noncomputable def Tryz.pinned : Pinned := { name := "ytiafmjolbacdaaagreat", sum := "bff76e883ec69c4b16a8194de255f8a0b492c49ae7c84f179b86f4a29d6c6659", checked := Tryz.checked }
namespace Rows
def none {H : Type} : Left H := { results := [], args := [] }

/-- 'ostlerlaw08.SafetyCloses': WHATEVER THE INPUT: true; the input reads as it did. -/
def safetyClosesSpec : ChangeSpec := { name := "safetyCloses", fn := fun _ => fun
  | [d1, d2, d3] => { results := [.lit (.bool true)], args := [d1, d2, d3] }
  | _ => none }
def safetyClosesRow : OpenClaim := { program := "ytiafmjolbacdaaagreat", sum := "bff76e883ec69c4b16a8194de255f8a0b492c49ae7c84f179b86f4a29d6c6659", func := "ostler/ostlerlaw08.SafetyCloses", spec := "safetyCloses", inPlace := ["maps.clone"], unfollowed := true, recurses := true, loops := true, apart := false }
def SafetyClosesSaid : Prop := safetyClosesRow.holds Tryz.pinned (OpenSpec.ofChange safetyClosesSpec)

/-- ITS FALSE NEIGHBOUR: 'it returns false'. Refute it at one input. -/
def safetyClosesWrong : ChangeSpec := { name := "safetyCloses", fn := fun _ => fun
  | [d1, d2, d3] => { results := [.lit (.bool false)], args := [d1, d2, d3] }
  | _ => none }
def SafetyClosesWrongFalsely : Prop := safetyClosesRow.holds Tryz.pinned (OpenSpec.ofChange safetyClosesWrong)

/-- 'ostlerlaw08.SafetyOrder': WHATEVER THE INPUT: true; the input reads as it did. -/
def safetyOrderSpec : ChangeSpec := { name := "safetyOrder", fn := fun _ => fun
  | [d1, d2] => { results := [.lit (.bool true)], args := [d1, d2] }
  | _ => none }
def safetyOrderRow : OpenClaim := { program := "ytiafmjolbacdaaagreat", sum := "bff76e883ec69c4b16a8194de255f8a0b492c49ae7c84f179b86f4a29d6c6659", func := "ostler/ostlerlaw08.SafetyOrder", spec := "safetyOrder", inPlace := ["maps.clone"], unfollowed := true, recurses := true, loops := true, apart := false }
def SafetyOrderSaid : Prop := safetyOrderRow.holds Tryz.pinned (OpenSpec.ofChange safetyOrderSpec)

/-- ITS FALSE NEIGHBOUR: 'it returns false'. Refute it at one input. -/
def safetyOrderWrong : ChangeSpec := { name := "safetyOrder", fn := fun _ => fun
  | [d1, d2] => { results := [.lit (.bool false)], args := [d1, d2] }
  | _ => none }
def SafetyOrderWrongFalsely : Prop := safetyOrderRow.holds Tryz.pinned (OpenSpec.ofChange safetyOrderWrong)

/-- 'ostlerlaw08.SafetyPrograms': WHATEVER THE INPUT: true; the input reads as it did. -/
def safetyProgramsSpec : ChangeSpec := { name := "safetyPrograms", fn := fun _ => fun
  | [d] => { results := [.lit (.bool true)], args := [d] }
  | _ => none }
def safetyProgramsRow : OpenClaim := { program := "ytiafmjolbacdaaagreat", sum := "bff76e883ec69c4b16a8194de255f8a0b492c49ae7c84f179b86f4a29d6c6659", func := "ostler/ostlerlaw08.SafetyPrograms", spec := "safetyPrograms", inPlace := ["maps.clone"], unfollowed := true, recurses := true, loops := true, apart := false }
def SafetyProgramsSaid : Prop := safetyProgramsRow.holds Tryz.pinned (OpenSpec.ofChange safetyProgramsSpec)

/-- ITS FALSE NEIGHBOUR: 'it returns false'. Refute it at one input. -/
def safetyProgramsWrong : ChangeSpec := { name := "safetyPrograms", fn := fun _ => fun
  | [d] => { results := [.lit (.bool false)], args := [d] }
  | _ => none }
def SafetyProgramsWrongFalsely : Prop := safetyProgramsRow.holds Tryz.pinned (OpenSpec.ofChange safetyProgramsWrong)

/-- 'ostlerlaw08.SafetyAdds': WHATEVER THE INPUT: true; the input reads as it did. -/
def safetyAddsSpec : ChangeSpec := { name := "safetyAdds", fn := fun _ => fun
  | [d1, d2] => { results := [.lit (.bool true)], args := [d1, d2] }
  | _ => none }
def safetyAddsRow : OpenClaim := { program := "ytiafmjolbacdaaagreat", sum := "bff76e883ec69c4b16a8194de255f8a0b492c49ae7c84f179b86f4a29d6c6659", func := "ostler/ostlerlaw08.SafetyAdds", spec := "safetyAdds", inPlace := ["maps.clone"], unfollowed := true, recurses := true, loops := true, apart := false }
def SafetyAddsSaid : Prop := safetyAddsRow.holds Tryz.pinned (OpenSpec.ofChange safetyAddsSpec)

/-- ITS FALSE NEIGHBOUR: 'it returns false'. Refute it at one input. -/
def safetyAddsWrong : ChangeSpec := { name := "safetyAdds", fn := fun _ => fun
  | [d1, d2] => { results := [.lit (.bool false)], args := [d1, d2] }
  | _ => none }
def SafetyAddsWrongFalsely : Prop := safetyAddsRow.holds Tryz.pinned (OpenSpec.ofChange safetyAddsWrong)

/- THE SECOND FORM. 'bulk': how many values and letters a reading holds, each counted each time it is reached (what is shared counts as often as it is met; a slice's spare places count too). A statement '..UptoSaid' is the law's where the arguments, and the package variables that the reading takes, are together of bulk at most 1048576: NARROWER than '..Said'. Prove '..Said' where nothing that the law and all that it calls make is longer than what came in: it says more and counts as full. Else prove '..UptoSaid'. A law counts once. -/
mutual
def uptoBulk {H : Type} : DataW H → Nat
  | .lit (.string bytes) => bytes.length + 1
  | .lit _ => 1
  | .nil => 1
  | .ptr d => uptoBulk d + 1
  | .slice elems spare => uptoBulkAll elems + uptoBulkAll spare + 1
  | .agg parts => uptoBulkAll parts + 1
  | .iface _ d => uptoBulk d + 1
  | .map entries => uptoBulkEntries entries + 1
  | .held _ => 1
def uptoBulkAll {H : Type} : List (DataW H) → Nat
  | [] => 0
  | d :: r => uptoBulk d + uptoBulkAll r
def uptoBulkEntries {H : Type} : List (Lit × DataW H) → Nat
  | [] => 0
  | x :: r => uptoBulkEntry x + uptoBulkEntries r
def uptoBulkEntry {H : Type} : Lit × DataW H → Nat
  | (.string bytes, d) => bytes.length + uptoBulk d + 1
  | (_, d) => uptoBulk d + 1
 end
def uptoSmall : (H : Type) → List (DataW H) → Bool := fun _ ds => decide (uptoBulkAll ds ≤ 1048576)
def OpenSpec.upto (s : _root_.Go.ChangeSpec) : _root_.Go.OpenSpec := { _root_.Go.OpenSpec.ofChange s with cond := some uptoSmall }

/-- 'ostlerlaw08.SafetyCloses', WHERE WHAT IT READS IS OF BULK AT MOST 1048576: true; the input reads as it did. -/
def safetyClosesUptoRow : OpenClaim := { program := "ytiafmjolbacdaaagreat", sum := "bff76e883ec69c4b16a8194de255f8a0b492c49ae7c84f179b86f4a29d6c6659", func := "ostler/ostlerlaw08.SafetyCloses", spec := "safetyCloses", inPlace := ["maps.clone"], unfollowed := true, recurses := true, loops := true, apart := false, narrowed := true }
def SafetyClosesUptoSaid : Prop := safetyClosesUptoRow.holds Tryz.pinned (OpenSpec.upto safetyClosesSpec)

/-- 'ostlerlaw08.SafetyOrder', WHERE WHAT IT READS IS OF BULK AT MOST 1048576: true; the input reads as it did. -/
def safetyOrderUptoRow : OpenClaim := { program := "ytiafmjolbacdaaagreat", sum := "bff76e883ec69c4b16a8194de255f8a0b492c49ae7c84f179b86f4a29d6c6659", func := "ostler/ostlerlaw08.SafetyOrder", spec := "safetyOrder", inPlace := ["maps.clone"], unfollowed := true, recurses := true, loops := true, apart := false, narrowed := true }
def SafetyOrderUptoSaid : Prop := safetyOrderUptoRow.holds Tryz.pinned (OpenSpec.upto safetyOrderSpec)

/-- 'ostlerlaw08.SafetyPrograms', WHERE WHAT IT READS IS OF BULK AT MOST 1048576: true; the input reads as it did. -/
def safetyProgramsUptoRow : OpenClaim := { program := "ytiafmjolbacdaaagreat", sum := "bff76e883ec69c4b16a8194de255f8a0b492c49ae7c84f179b86f4a29d6c6659", func := "ostler/ostlerlaw08.SafetyPrograms", spec := "safetyPrograms", inPlace := ["maps.clone"], unfollowed := true, recurses := true, loops := true, apart := false, narrowed := true }
def SafetyProgramsUptoSaid : Prop := safetyProgramsUptoRow.holds Tryz.pinned (OpenSpec.upto safetyProgramsSpec)

/-- 'ostlerlaw08.SafetyAdds', WHERE WHAT IT READS IS OF BULK AT MOST 1048576: true; the input reads as it did. -/
def safetyAddsUptoRow : OpenClaim := { program := "ytiafmjolbacdaaagreat", sum := "bff76e883ec69c4b16a8194de255f8a0b492c49ae7c84f179b86f4a29d6c6659", func := "ostler/ostlerlaw08.SafetyAdds", spec := "safetyAdds", inPlace := ["maps.clone"], unfollowed := true, recurses := true, loops := true, apart := false, narrowed := true }
def SafetyAddsUptoSaid : Prop := safetyAddsUptoRow.holds Tryz.pinned (OpenSpec.upto safetyAddsSpec)

end Rows
end Go.Proofs.YtiafmjolbacdaaaGreat
