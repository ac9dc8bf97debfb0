/- SafetyPrograms RETURNS true FOR EVERY INPUT,AND EACH ARGUMENT READS AFTERWARDS AS IT READ BEFORE. No bound on the arguments beyond what a machine can hold. -/
import Derived.Test.YtiafmjolbacdaaaGreatRows
import Derived.Deep.DeepHandedRow
import Derived.Deep.DeepWitnessRowRef
import Derived.WalkKit
import Derived.OpenShut
import Derived.SevenTiedAt
import Derived.Carry
import Derived.ChangeAt
import Derived.Test.YtiafmjolbacdaaaGreatGlob
import Derived.Test.YtiafmjolbacdaaaGreatSpE
import Derived.Test.YtiafmjolbacdaaaGreatSafY
set_option linter.unusedSectionVars false
set_option linter.unusedVariables false
set_option linter.unusedSimpArgs false
set_option linter.deprecated false
namespace Go.Proofs.YtiafmjolbacdaaaGreat
open Go.Sx Go.ChangeShapes Go.WideShapes Go.ChangeAt Go.RowKit
namespace CSafetyPrograms
set_option maxRecDepth 100000
theorem laid_met (os : Os) (args : Array Value) : laidMet Tryz.prog Rows.safetyProgramsRow.laid ((laidWorld os).forCall (fun _ _ => 0) ⟨#[],args,[]⟩).memory :=
 laidMet_rows laidRows 8 (by kernel_rfl) (by kernel_rfl) (by kernel_rfl)

def qs : List (Go.TypeId × (D -> Prop)) := [(57,fun a => ∃ x : Pg,x.wf 281474976710656 /\ a = .agg x.cs)]
theorem qs_ok : ∀ q ∈ qs,Reads Tryz.prog 281474976710656 q.1 q.2 := by
 intro q hq
 simp only [qs,List.mem_cons,List.not_mem_nil,or_false] at hq
 rcases hq with rfl
 ·exact reads_prog (T := 32) (n := 12) (by kernel_rfl) (by kernel_rfl) (by kernel_rfl)
theorem law (as' : List D) (h : FitQ qs as') : FnOK Tryz.prog 5 as' (.bool true) := by
 obtain ⟨_,l1,rfl,⟨x,hx,rfl⟩,h1⟩ := fq_cons h
 obtain rfl := fq_nil h1
 exact programs_of awake_ok x hx

theorem spec_ok : ∀ (H : Type) (ds : List (DataW H)),ds.length = ([57] : List Go.TypeId).length -> Rows.safetyProgramsSpec.fn H ds = { results := [.lit (.bool true)],args := ds } := by
 intro H ds h
 match ds,h with
 | [d1],_ => rfl

theorem contract (H : Type) (enc : TypeId × Value -> H) (W : World) (base : Nat) (args : Array Value) (ds gs : List (DataW H)) (before : List MemPlace)
  (hval : ∀ (j : Nat) t v,Tryz.f5.params[j]? = some t -> args[j]? = some v -> Value.okWide Tryz.prog W .any base t v)
  (hW : DataW.Whole enc Tryz.prog Tryz.f5.params.toList Rows.safetyProgramsSpec.vars false W args.toList ds gs before)
  (hsz : (DataW.weightsEach Tryz.prog (Tryz.f5.params.toList ++ Rows.safetyProgramsSpec.plain.varTypes Tryz.prog) (ds ++ gs)).all (· <= reachBytes) = true)
  (hL : laidMet Tryz.prog Rows.safetyProgramsRow.laid W) :
  Calls Tryz.prog 5 args W fun e W' => ∃ v,e = .returned v /\ Rows.safetyProgramsSpec.post enc Tryz.prog Tryz.f5 false true false false W args v W' :=
 contractQ qs (ts := [57]) rfl (tb := 4) (by kernel_rfl) (by kernel_rfl) Tryz.underlying4 rfl rfl spec_ok qs_ok laidOut (by decide +kernel) law hval hW hsz
  globC

theorem reads (os : Os) {H : Type} (enc : TypeId × Value -> H) : ∃ places,DataW.whole enc Tryz.prog ((laidWorld os).forCall (fun _ _ => 0) ⟨#[], #[.agg #[.slice none 0 0,.slice none 0 0,.slice none 0 0,.bool false]],[]⟩).memory Tryz.f5.params.toList Rows.safetyProgramsSpec.vars false #[.agg #[.slice none 0 0,.slice none 0 0,.slice none 0 0,.bool false]].toList 8 = some ([.agg [.nil,.nil,.nil,.lit (.bool false)]],[],places) :=
 ⟨[],by kernel_rfl⟩

theorem lifted (os : Os) (started : os.Started) (H : Type) (enc : TypeId × Value -> H) (F : Stop.Interp) :
  ReturnsInHanded {} Tryz.checked os 5 .any ((OpenSpec.ofChange Rows.safetyProgramsSpec).preRow enc Tryz.prog Tryz.f5 Rows.safetyProgramsRow.domain false Rows.safetyProgramsRow.laid) (((OpenSpec.ofChange Rows.safetyProgramsSpec).at F).post enc Tryz.prog Tryz.f5 false true false false) := by
 obtain ⟨places,hx⟩ := reads os enc
 refine returnsInHanded_of_row (C := Tryz.checked) (s := OpenSpec.ofChange Rows.safetyProgramsSpec) own started (by kernel_rfl) Tryz.func5
  (witness_row_atRef (enc := enc) (C := Tryz.checked) false (laidWorld os) #[.agg #[.slice none 0 0,.slice none 0 0,.slice none 0 0,.bool false]] rfl (by kernel_rfl) (by kernel_rfl) (by kernel_rfl)
   (OpenSpec.preRow_of_cond 8 hx (by kernel_rfl) (fun k hk => by cases hk) (by kernel_rfl) (laid_met os _))) ?_
 intro W base args ds gs before hval hW _ _ hsz hL _ _
 exact contract H enc W base args ds gs before hval hW hsz hL

theorem said : Rows.SafetyProgramsSaid :=
 OpenClaim.holds_of_cond 5 Tryz.f5 rfl rfl rfl rfl rfl rfl rfl ⟨rfl,rfl,rfl,rfl,rfl⟩ rfl rfl rfl rfl rfl (by kernel_rfl) Tryz.func5 (by kernel_rfl)
  (of_decide_eq_true (by kernel_rfl)) (by unfold Func.isWrapper; first | (rw [if_pos (by decide +kernel)]; kernel_rfl) | (rw [if_neg (by decide +kernel)]; exact ⟨rfl,rfl⟩))
  (fun os started H enc _ F => by rw [OpenClaim.pre_eq_preRow]; exact lifted os started H enc F)

end CSafetyPrograms
theorem safetyPrograms_holds : Rows.SafetyProgramsSaid := CSafetyPrograms.said
#print axioms safetyPrograms_holds
end Go.Proofs.YtiafmjolbacdaaaGreat
