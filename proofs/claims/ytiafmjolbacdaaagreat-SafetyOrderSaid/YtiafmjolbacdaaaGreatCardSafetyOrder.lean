/- SafetyOrder RETURNS true FOR EVERY INPUT, AND EACH ARGUMENT READS AFTERWARDS AS IT READ BEFORE. No bound on the arguments beyond what a machine can hold. -/
import Derived.Test.YtiafmjolbacdaaaGreatRows
import Derived.Deep.DeepHandedRow
import Derived.Deep.DeepWitnessRowRef
import Derived.WalkKit
import Derived.OpenShut
import Derived.SevenTiedAt
import Derived.Carry
import Derived.ChangeAt
import Derived.Test.YtiafmjolbacdaaaGreatGlob
import Derived.Test.YtiafmjolbacdaaaGreatSoC
import Derived.Test.YtiafmjolbacdaaaGreatSafY
set_option linter.unusedSectionVars false
set_option linter.unusedVariables false
set_option linter.unusedSimpArgs false
set_option linter.deprecated false
namespace Go.Proofs.YtiafmjolbacdaaaGreat
open Go.Sx Go.ChangeShapes Go.WideShapes Go.ChangeAt Go.RowKit
namespace CSafetyOrder
set_option maxRecDepth 100000
theorem laid_met (os : Os) (args : Array Value) : laidMet Tryz.prog Rows.safetyOrderRow.laid ((laidWorld os).forCall (fun _ _ => 0) ⟨#[], args, []⟩).memory :=
  laidMet_rows laidRows 8 (by kernel_rfl) (by kernel_rfl) (by kernel_rfl)

def qs : List (Go.TypeId × (D → Prop)) := [(40, fun a => ∃ x : Ru, x.wf 281474976710656 ∧ a = .agg x.cs), (3, fun a => Sh.fit 281474976710656 (.int .i64) a)]
theorem qs_ok : ∀ q ∈ qs, Reads Tryz.prog 281474976710656 q.1 q.2 := by
  intro q hq
  simp only [qs, List.mem_cons, List.not_mem_nil, or_false] at hq
  rcases hq with rfl | rfl
  · exact reads_rule (T := 32) (n := 12) (by kernel_rfl) (by kernel_rfl) (by kernel_rfl)
  · exact reads_sh (n := 6) (by kernel_rfl) (by kernel_rfl)
theorem law (as' : List D) (h : FitQ qs as') : FnOK Tryz.prog 4 as' (.bool true) := by
  obtain ⟨_, l1, rfl, ⟨x, hx, rfl⟩, h1⟩ := fq_cons h
  obtain ⟨_, l2, rfl, ⟨n, rfl, _⟩, h2⟩ := fq_cons h1
  obtain rfl := fq_nil h2
  exact order_of awake_ok x hx n

theorem spec_ok : ∀ (H : Type) (ds : List (DataW H)), ds.length = ([40, 3] : List Go.TypeId).length → Rows.safetyOrderSpec.fn H ds = { results := [.lit (.bool true)], args := ds } := by
  intro H ds h
  match ds, h with
  | [d1, d2], _ => rfl

theorem contract (H : Type) (enc : TypeId × Value → H) (W : World) (base : Nat) (args : Array Value) (ds gs : List (DataW H)) (before : List MemPlace)
    (hval : ∀ (j : Nat) t v, Tryz.f4.params[j]? = some t → args[j]? = some v → Value.okWide Tryz.prog W .any base t v)
    (hW : DataW.Whole enc Tryz.prog Tryz.f4.params.toList Rows.safetyOrderSpec.vars false W args.toList ds gs before)
    (hsz : (DataW.weightsEach Tryz.prog (Tryz.f4.params.toList ++ Rows.safetyOrderSpec.plain.varTypes Tryz.prog) (ds ++ gs)).all (· ≤ reachBytes) = true)
    (hL : laidMet Tryz.prog Rows.safetyOrderRow.laid W) :
    Calls Tryz.prog 4 args W fun e W' => ∃ v, e = .returned v ∧ Rows.safetyOrderSpec.post enc Tryz.prog Tryz.f4 false true false false W args v W' :=
  contractQ qs (ts := [40, 3]) rfl (tb := 4) (by kernel_rfl) (by kernel_rfl) Tryz.underlying4 rfl rfl spec_ok qs_ok laidOut (by decide +kernel) law hval hW hsz
    globC

theorem reads (os : Os) {H : Type} (enc : TypeId × Value → H) : ∃ places, DataW.whole enc Tryz.prog ((laidWorld os).forCall (fun _ _ => 0) ⟨#[], #[.agg #[.int .u8 0, .slice none 0 0, .int .u8 0, .int .i64 0, .string ⟨#[]⟩, .slice none 0 0, .int .u8 0, .int .i64 0, .string ⟨#[]⟩, .slice none 0 0, .slice none 0 0, .int .u8 0, .int .i64 0, .string ⟨#[]⟩, .slice none 0 0, .int .u8 0, .int .i64 0, .string ⟨#[]⟩, .slice none 0 0, .slice none 0 0], .int .i64 0], []⟩).memory Tryz.f4.params.toList Rows.safetyOrderSpec.vars false #[.agg #[.int .u8 0, .slice none 0 0, .int .u8 0, .int .i64 0, .string ⟨#[]⟩, .slice none 0 0, .int .u8 0, .int .i64 0, .string ⟨#[]⟩, .slice none 0 0, .slice none 0 0, .int .u8 0, .int .i64 0, .string ⟨#[]⟩, .slice none 0 0, .int .u8 0, .int .i64 0, .string ⟨#[]⟩, .slice none 0 0, .slice none 0 0], .int .i64 0].toList 8 = some ([.agg [.lit (.int .u8 0), .nil, .agg [.lit (.int .u8 0), .lit (.int .i64 0), .lit (.string []), .nil], .agg [.lit (.int .u8 0), .lit (.int .i64 0), .lit (.string []), .nil], .nil, .agg [.lit (.int .u8 0), .lit (.int .i64 0), .lit (.string []), .nil], .agg [.lit (.int .u8 0), .lit (.int .i64 0), .lit (.string []), .nil], .nil], .lit (.int .i64 0)], [], places) :=
  ⟨[], by kernel_rfl⟩

theorem lifted (os : Os) (started : os.Started) (H : Type) (enc : TypeId × Value → H) (F : Stop.Interp) :
    ReturnsInHanded {} Tryz.checked os 4 .any ((OpenSpec.ofChange Rows.safetyOrderSpec).preRow enc Tryz.prog Tryz.f4 Rows.safetyOrderRow.domain false Rows.safetyOrderRow.laid) (((OpenSpec.ofChange Rows.safetyOrderSpec).at F).post enc Tryz.prog Tryz.f4 false true false false) := by
  obtain ⟨places, hx⟩ := reads os enc
  refine returnsInHanded_of_row (C := Tryz.checked) (s := OpenSpec.ofChange Rows.safetyOrderSpec) own started (by kernel_rfl) Tryz.func4
    (witness_row_atRef (enc := enc) (C := Tryz.checked) false (laidWorld os) #[.agg #[.int .u8 0, .slice none 0 0, .int .u8 0, .int .i64 0, .string ⟨#[]⟩, .slice none 0 0, .int .u8 0, .int .i64 0, .string ⟨#[]⟩, .slice none 0 0, .slice none 0 0, .int .u8 0, .int .i64 0, .string ⟨#[]⟩, .slice none 0 0, .int .u8 0, .int .i64 0, .string ⟨#[]⟩, .slice none 0 0, .slice none 0 0], .int .i64 0] rfl (by kernel_rfl) (by kernel_rfl) (by kernel_rfl)
      (OpenSpec.preRow_of_cond 8 hx (by kernel_rfl) (fun k hk => by cases hk) (by kernel_rfl) (laid_met os _))) ?_
  intro W base args ds gs before hval hW _ _ hsz hL _ _
  exact contract H enc W base args ds gs before hval hW hsz hL

theorem said : Rows.SafetyOrderSaid :=
  OpenClaim.holds_of_cond 4 Tryz.f4 rfl rfl rfl rfl rfl rfl rfl ⟨rfl, rfl, rfl, rfl, rfl⟩ rfl rfl rfl rfl rfl (by kernel_rfl) Tryz.func4 (by kernel_rfl)
    (of_decide_eq_true (by kernel_rfl)) (by unfold Func.isWrapper; first | (rw [if_pos (by decide +kernel)]; kernel_rfl) | (rw [if_neg (by decide +kernel)]; exact ⟨rfl, rfl⟩))
    (fun os started H enc _ F => by rw [OpenClaim.pre_eq_preRow]; exact lifted os started H enc F)

end CSafetyOrder
theorem safetyOrder_holds : Rows.SafetyOrderSaid := CSafetyOrder.said
#print axioms safetyOrder_holds
end Go.Proofs.YtiafmjolbacdaaaGreat
