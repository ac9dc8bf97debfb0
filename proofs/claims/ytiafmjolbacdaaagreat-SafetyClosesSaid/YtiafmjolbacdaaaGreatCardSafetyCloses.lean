/- SafetyCloses RETURNS true FOR EVERY INPUT, AND EACH ARGUMENT READS AFTERWARDS AS IT READ BEFORE. No bound on the arguments beyond what a machine can hold. -/
import Derived.Test.YtiafmjolbacdaaaGreatRows
import Derived.Deep.DeepHandedRow
import Derived.Deep.DeepWitnessRowRef
import Derived.WalkKit
import Derived.OpenShut
import Derived.SevenTiedAt
import Derived.Carry
import Derived.ChangeAt
import Derived.Test.YtiafmjolbacdaaaGreatGlob
import Derived.Test.YtiafmjolbacdaaaGreatSafY
set_option linter.unusedSectionVars false
set_option linter.unusedVariables false
set_option linter.unusedSimpArgs false
set_option linter.deprecated false
namespace Go.Proofs.YtiafmjolbacdaaaGreat
open Go.Sx Go.ChangeShapes Go.WideShapes Go.ChangeAt Go.RowKit
namespace CSafetyCloses
set_option maxRecDepth 100000
theorem laid_met (os : Os) (args : Array Value) : laidMet Tryz.prog Rows.safetyClosesRow.laid ((laidWorld os).forCall (fun _ _ => 0) ⟨#[], args, []⟩).memory :=
  laidMet_rows laidRows 8 (by kernel_rfl) (by kernel_rfl) (by kernel_rfl)

def qs : List (Go.TypeId × (D → Prop)) := [(22, fun a => ∃ l : List Lt, (∀ x ∈ l, x.wf 281474976710656) ∧ l.length ≤ 281474976710656 ∧ a = .slice (ltL l) []), (23, fun a => ∃ l : List Nm, l.length ≤ 281474976710656 ∧ a = .slice (strC l) []), (9, fun a => Sh.fit 281474976710656 .str a)]
theorem qs_ok : ∀ q ∈ qs, Reads Tryz.prog 281474976710656 q.1 q.2 := by
  intro q hq
  simp only [qs, List.mem_cons, List.not_mem_nil, or_false] at hq
  rcases hq with rfl | rfl | rfl
  · exact reads_lits (T := 32) (n := 8) (by kernel_rfl) (by kernel_rfl) (by kernel_rfl)
  · exact reads_txts (T := 32) (n := 8) (by kernel_rfl) (by kernel_rfl) (by kernel_rfl)
  · exact reads_sh (n := 6) (by kernel_rfl) (by kernel_rfl)
theorem law (as' : List D) (h : FitQ qs as') : FnOK Tryz.prog 3 as' (.bool true) := by
  obtain ⟨_, l1, rfl, ⟨ls, wl, hl, rfl⟩, h1⟩ := fq_cons h
  obtain ⟨_, l2, rfl, ⟨g, hg, rfl⟩, h2⟩ := fq_cons h1
  obtain ⟨_, l3, rfl, ⟨more, rfl, hm⟩, h3⟩ := fq_cons h2
  obtain rfl := fq_nil h3
  exact closes_of awake_ok ls g more hl wl hg

theorem spec_ok : ∀ (H : Type) (ds : List (DataW H)), ds.length = ([22, 23, 9] : List Go.TypeId).length → Rows.safetyClosesSpec.fn H ds = { results := [.lit (.bool true)], args := ds } := by
  intro H ds h
  match ds, h with
  | [d1, d2, d3], _ => rfl

theorem contract (H : Type) (enc : TypeId × Value → H) (W : World) (base : Nat) (args : Array Value) (ds gs : List (DataW H)) (before : List MemPlace)
    (hval : ∀ (j : Nat) t v, Tryz.f3.params[j]? = some t → args[j]? = some v → Value.okWide Tryz.prog W .any base t v)
    (hW : DataW.Whole enc Tryz.prog Tryz.f3.params.toList Rows.safetyClosesSpec.vars false W args.toList ds gs before)
    (hsz : (DataW.weightsEach Tryz.prog (Tryz.f3.params.toList ++ Rows.safetyClosesSpec.plain.varTypes Tryz.prog) (ds ++ gs)).all (· ≤ reachBytes) = true)
    (hL : laidMet Tryz.prog Rows.safetyClosesRow.laid W) :
    Calls Tryz.prog 3 args W fun e W' => ∃ v, e = .returned v ∧ Rows.safetyClosesSpec.post enc Tryz.prog Tryz.f3 false true false false W args v W' :=
  contractQ qs (ts := [22, 23, 9]) rfl (tb := 4) (by kernel_rfl) (by kernel_rfl) Tryz.underlying4 rfl rfl spec_ok qs_ok laidOut (by decide +kernel) law hval hW hsz
    globC

theorem reads (os : Os) {H : Type} (enc : TypeId × Value → H) : ∃ places, DataW.whole enc Tryz.prog ((laidWorld os).forCall (fun _ _ => 0) ⟨#[], #[.slice none 0 0, .slice none 0 0, .string ⟨#[]⟩], []⟩).memory Tryz.f3.params.toList Rows.safetyClosesSpec.vars false #[.slice none 0 0, .slice none 0 0, .string ⟨#[]⟩].toList 8 = some ([.nil, .nil, .lit (.string [])], [], places) :=
  ⟨[], by kernel_rfl⟩

theorem lifted (os : Os) (started : os.Started) (H : Type) (enc : TypeId × Value → H) (F : Stop.Interp) :
    ReturnsInHanded {} Tryz.checked os 3 .any ((OpenSpec.ofChange Rows.safetyClosesSpec).preRow enc Tryz.prog Tryz.f3 Rows.safetyClosesRow.domain false Rows.safetyClosesRow.laid) (((OpenSpec.ofChange Rows.safetyClosesSpec).at F).post enc Tryz.prog Tryz.f3 false true false false) := by
  obtain ⟨places, hx⟩ := reads os enc
  refine returnsInHanded_of_row (C := Tryz.checked) (s := OpenSpec.ofChange Rows.safetyClosesSpec) own started (by kernel_rfl) Tryz.func3
    (witness_row_atRef (enc := enc) (C := Tryz.checked) false (laidWorld os) #[.slice none 0 0, .slice none 0 0, .string ⟨#[]⟩] rfl (by kernel_rfl) (by kernel_rfl) (by kernel_rfl)
      (OpenSpec.preRow_of_cond 8 hx (by kernel_rfl) (fun k hk => by cases hk) (by kernel_rfl) (laid_met os _))) ?_
  intro W base args ds gs before hval hW _ _ hsz hL _ _
  exact contract H enc W base args ds gs before hval hW hsz hL

theorem said : Rows.SafetyClosesSaid :=
  OpenClaim.holds_of_cond 3 Tryz.f3 rfl rfl rfl rfl rfl rfl rfl ⟨rfl, rfl, rfl, rfl, rfl⟩ rfl rfl rfl rfl rfl (by kernel_rfl) Tryz.func3 (by kernel_rfl)
    (of_decide_eq_true (by kernel_rfl)) (by unfold Func.isWrapper; first | (rw [if_pos (by decide +kernel)]; kernel_rfl) | (rw [if_neg (by decide +kernel)]; exact ⟨rfl, rfl⟩))
    (fun os started H enc _ F => by rw [OpenClaim.pre_eq_preRow]; exact lifted os started H enc F)

end CSafetyCloses
theorem safetyCloses_holds : Rows.SafetyClosesSaid := CSafetyCloses.said
#print axioms safetyCloses_holds
end Go.Proofs.YtiafmjolbacdaaaGreat
