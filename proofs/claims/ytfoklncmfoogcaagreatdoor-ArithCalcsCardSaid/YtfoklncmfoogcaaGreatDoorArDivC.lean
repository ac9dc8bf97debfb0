/- The law of quotient and remainder holds. -/
import Derived.Test.YtfoklncmfoogcaaGreatDoorArDivB
set_option linter.unusedSectionVars false
set_option linter.unusedVariables false
set_option linter.unusedSimpArgs false
set_option linter.deprecated false
set_option maxRecDepth 100000
namespace Go.Proofs.YtfoklncmfoogcaaGreatDoor
open Go.Sx
theorem d11 (a b : Int) : AtD 11 ⟨[(0, .int .i64 a), (1, .int .i64 b), (5, .bool (insB a b)), (10, .int .i64 ((calcR [43] [a, b]).getD 0)), (11, .bool (calcR [43] [a, b]).isSome), (12, .int .i64 ((calcR [43] [b, a]).getD 0)), (13, .bool (calcR [43] [b, a]).isSome),
    (14, .int .i64 ((calcR [42] [a, b]).getD 0)), (15, .bool (calcR [42] [a, b]).isSome), (16, .int .i64 ((calcR [42] [b, a]).getD 0)), (17, .bool (calcR [42] [b, a]).isSome), (18, .int .i64 ((calcR [45] [a, b]).getD 0)), (19, .bool (calcR [45] [a, b]).isSome)], []⟩ := by
  refine At.tree (ctr_ok (asmP_ok _) calQ_ok) (PD11_eq a b _ _ _ _ _ _ _ _ _ _ _) ?_
  unfold PD11
  simp only [ok_br, ok_owe, ok_ret, ok_jmp, decide_eq_true_eq, decide_eq_false_iff_not, Int.toNat_natCast, true_and, and_true, Bool.not_eq_true', Bool.not_eq_false', List.drop_zero, List.take_length, D.bool.injEq, D.int.injEq, D.str.injEq, true_implies, Int.le_refl]
  exact d12 a b
theorem d10 (a b : Int) : AtD 10 ⟨[(0, .int .i64 a), (1, .int .i64 b), (5, .bool (insB a b)), (10, .int .i64 ((calcR [43] [a, b]).getD 0)), (11, .bool (calcR [43] [a, b]).isSome), (12, .int .i64 ((calcR [43] [b, a]).getD 0)), (13, .bool (calcR [43] [b, a]).isSome),
    (14, .int .i64 ((calcR [42] [a, b]).getD 0)), (15, .bool (calcR [42] [a, b]).isSome), (16, .int .i64 ((calcR [42] [b, a]).getD 0)), (17, .bool (calcR [42] [b, a]).isSome)], []⟩ := by
  refine At.tree (ctr_ok (asmP_ok _) calQ_ok) (PD10_eq a b _ _ _ _ _ _ _ _ _) ?_
  unfold PD10
  simp only [ok_br, ok_owe, ok_ret, ok_jmp, decide_eq_true_eq, decide_eq_false_iff_not, Int.toNat_natCast, true_and, and_true, Bool.not_eq_true', Bool.not_eq_false', List.drop_zero, List.take_length, D.bool.injEq, D.int.injEq, D.str.injEq, true_implies, Int.le_refl]
  exact d11 a b
theorem d9 (a b : Int) : AtD 9 ⟨[(0, .int .i64 a), (1, .int .i64 b), (5, .bool (insB a b)), (10, .int .i64 ((calcR [43] [a, b]).getD 0)), (11, .bool (calcR [43] [a, b]).isSome), (12, .int .i64 ((calcR [43] [b, a]).getD 0)), (13, .bool (calcR [43] [b, a]).isSome),
    (14, .int .i64 ((calcR [42] [a, b]).getD 0)), (15, .bool (calcR [42] [a, b]).isSome)], []⟩ := by
  refine At.tree (ctr_ok (asmP_ok _) calQ_ok) (PD9_eq a b _ _ _ _ _ _ _) ?_
  unfold PD9
  simp only [ok_br, ok_owe, ok_ret, ok_jmp, decide_eq_true_eq, decide_eq_false_iff_not, Int.toNat_natCast, true_and, and_true, Bool.not_eq_true', Bool.not_eq_false', List.drop_zero, List.take_length, D.bool.injEq, D.int.injEq, D.str.injEq, true_implies, Int.le_refl]
  exact d10 a b
theorem d8 (a b : Int) : AtD 8 ⟨[(0, .int .i64 a), (1, .int .i64 b), (5, .bool (insB a b)), (10, .int .i64 ((calcR [43] [a, b]).getD 0)), (11, .bool (calcR [43] [a, b]).isSome), (12, .int .i64 ((calcR [43] [b, a]).getD 0)), (13, .bool (calcR [43] [b, a]).isSome)], []⟩ := by
  refine At.tree (ctr_ok (asmP_ok _) calQ_ok) (PD8_eq a b _ _ _ _ _) ?_
  unfold PD8
  simp only [ok_br, ok_owe, ok_ret, ok_jmp, decide_eq_true_eq, decide_eq_false_iff_not, Int.toNat_natCast, true_and, and_true, Bool.not_eq_true', Bool.not_eq_false', List.drop_zero, List.take_length, D.bool.injEq, D.int.injEq, D.str.injEq, true_implies, Int.le_refl]
  exact d9 a b
theorem d7 (a b : Int) : AtD 7 ⟨[(0, .int .i64 a), (1, .int .i64 b), (5, .bool (insB a b)), (10, .int .i64 ((calcR [43] [a, b]).getD 0)), (11, .bool (calcR [43] [a, b]).isSome)], []⟩ := by
  refine At.tree (ctr_ok (asmP_ok _) calQ_ok) (PD7_eq a b _ _ _) ?_
  unfold PD7
  simp only [ok_br, ok_owe, ok_ret, ok_jmp, decide_eq_true_eq, decide_eq_false_iff_not, Int.toNat_natCast, true_and, and_true, Bool.not_eq_true', Bool.not_eq_false', List.drop_zero, List.take_length, D.bool.injEq, D.int.injEq, D.str.injEq, true_implies, Int.le_refl]
  exact d8 a b
theorem d6 (a b : Int) : AtD 6 ⟨[(0, .int .i64 a), (1, .int .i64 b), (5, .bool (insB a b))], []⟩ := by
  refine At.tree (ctr_ok (asmP_ok _) calQ_ok) (PD6_eq a b _) ?_
  unfold PD6
  simp only [ok_br, ok_owe, ok_ret, ok_jmp, decide_eq_true_eq, decide_eq_false_iff_not, Int.toNat_natCast, true_and, and_true, Bool.not_eq_true', Bool.not_eq_false', List.drop_zero, List.take_length, D.bool.injEq, D.int.injEq, D.str.injEq, true_implies, Int.le_refl]
  exact d7 a b
theorem div_facts {a b : Int} (hb : b ≠ 0) : a.tdiv b * b + a.tmod b = a ∧ (0 ≤ a → 0 ≤ a.tmod b) ∧ (a ≤ 0 → a.tmod b ≤ 0) ∧ (a.tmod b).natAbs < b.natAbs := by
  refine ⟨by rw [Int.mul_comm]; exact Int.mul_tdiv_add_tmod a b, fun h => Int.tmod_nonneg b h, fun h => ?_, ?_⟩
  · have := Int.tmod_nonneg b (a := -a) (by omega)
    rw [Int.neg_tmod] at this
    omega
  · rw [Int.natAbs_tmod]
    exact Nat.mod_lt _ (by omega)
theorem d5 (a b q r : Int) (ins x : Bool) (h : x = true → (-2147483647 ≤ a ∧ a ≤ 2147483647) ∧ (-2147483647 ≤ b ∧ b ≤ 2147483647) ∧ q * b + r = a ∧ (0 ≤ a → 0 ≤ r) ∧ (a ≤ 0 → r ≤ 0) ∧ r.natAbs < b.natAbs)
    (hj : AtD 6 ⟨[(0, .int .i64 a), (1, .int .i64 b), (5, .bool ins)], []⟩) : AtD 5 ⟨[(0, .int .i64 a), (1, .int .i64 b), (5, .bool ins), (6, .int .i64 q), (7, .bool x), (8, .int .i64 r)], []⟩ := by
  refine At.tree (ctr_ok (asmP_ok _) calQ_ok) (PD5_eq a b q r ins x) ?_
  unfold PD5
  unfold AtD at hj
  simp only [ok_br, ok_owe, ok_ret, ok_jmp, if_true]
  generalize At _ _ _ _ _ = J at hj ⊢
  have hJ : J = True := eq_true hj
  subst hJ
  clear hj
  cases x with
  | false => simp
  | true =>
    obtain ⟨ha, hb, h1, h2, h3, h4⟩ := h rfl
    clear h
    generalize hm : (if 0 - b > b then 0 - b else b) = m
    have hm1 : r < m ∧ -r < m := by
      rw [← hm]
      split <;> omega
    clear hm
    have e1 : -9223372036854775808 ≤ q * b ∧ q * b ≤ 9223372036854775807 := by omega
    have e2 : -9223372036854775808 ≤ q * b + r ∧ q * b + r ≤ 9223372036854775807 := by omega
    have e3 : -9223372036854775808 ≤ 0 - b ∧ 0 - b ≤ 9223372036854775807 := by omega
    have e4 : -9223372036854775808 ≤ 0 - r ∧ 0 - r ≤ 9223372036854775807 := by omega
    have e5 : ¬ m ≤ r := by omega
    have e6 : ¬ m ≤ 0 - r := by omega
    have e7 : r < 0 → ¬ 0 ≤ a := by omega
    have e8 : 0 < r → ¬ a ≤ 0 := by omega
    simp only [h1, e1, e2, e3, e4, e5, e6, decide_true, decide_false, Bool.not_true, Bool.false_eq_true, false_implies, true_implies, true_and, and_true, implies_true, decide_eq_true_eq, decide_eq_false_iff_not, D.bool.injEq, imp_false]
    by_cases f1 : r < 0 <;> by_cases f2 : 0 < r <;> simp [f1, f2] at e7 e8 ⊢ <;> omega
theorem d4 (a b q r : Int) (ins x : Bool) (hx : x = (ins && !decide (b = 0))) (hz : x = false → q = 0 ∧ r = 0) (hj : AtD 5 ⟨[(0, .int .i64 a), (1, .int .i64 b), (5, .bool ins), (6, .int .i64 q), (7, .bool x), (8, .int .i64 r)], []⟩) :
    AtD 4 ⟨[(0, .int .i64 a), (1, .int .i64 b), (5, .bool ins), (6, .int .i64 q), (7, .bool x), (8, .int .i64 r), (9, .bool x)], []⟩ := by
  refine At.tree (ctr_ok (asmP_ok _) calQ_ok) (PD4_eq a b q r ins x x) ?_
  unfold PD4
  unfold AtD at hj
  simp only [ok_br, ok_owe, ok_ret, ok_jmp]
  generalize At _ _ _ _ _ = J at hj ⊢
  have hJ : J = True := eq_true hj
  subst hJ
  clear hj
  subst hx
  by_cases hb : b = 0 <;> cases ins <;> simp [hb] at hz ⊢ <;> simp [hz]
theorem d2 (a b : Int) : AtD 2 ⟨[(0, .int .i64 a), (1, .int .i64 b), (5, .bool (insB a b))], []⟩ := by
  refine At.tree (ctr_ok (asmP_ok _) calQ_ok) (PD2_eq a b _) ?_
  unfold PD2
  simp only [ok_br, ok_owe, ok_ret, ok_jmp, decide_eq_true_eq, decide_eq_false_iff_not, Int.toNat_natCast, true_and, and_true, Bool.not_eq_true', Bool.not_eq_false', List.drop_zero, List.take_length, D.bool.injEq, D.int.injEq, D.str.injEq, true_implies, Int.le_refl]
  refine At.tree (ctr_ok (asmP_ok _) calQ_ok) (PD3_eq a b _ _ _) ?_
  unfold PD3
  simp only [ok_br, ok_owe, ok_ret, ok_jmp, decide_eq_true_eq, decide_eq_false_iff_not, Int.toNat_natCast, true_and, and_true, Bool.not_eq_true', Bool.not_eq_false', List.drop_zero, List.take_length, D.bool.injEq, D.int.injEq, D.str.injEq, true_implies, Int.le_refl]
  have hq : (calcR [47] [a, b]).isSome = (insB a b && !decide (b = 0)) ∧ (calcR [92] [a, b]).isSome = (insB a b && !decide (b = 0)) := by
    rw [calc2, calc2, c47, c92]
    cases hi : insB a b with
    | false => simp
    | true =>
      have h0 := hi
      simp only [insB, Bool.and_eq_true] at h0
      by_cases hb : b = 0
      · simp [hb, fitO]
      · simp [hb, fitO, tdiv_fit h0.1, tmod_fit h0.1]
  rw [hq.2, ← hq.1]
  refine d4 a b _ _ _ _ hq.1 (fun h => ?_) (d5 a b _ _ _ _ (fun h => ?_) (d6 a b))
  · have h2 : (calcR [92] [a, b]).isSome = false := by rw [hq.2, ← hq.1]; exact h
    rw [Option.isSome_eq_false_iff, Option.isNone_iff_eq_none] at h h2
    rw [h, h2]; exact ⟨rfl, rfl⟩
  · rw [hq.1] at h
    simp only [Bool.and_eq_true, Bool.not_eq_true', decide_eq_false_iff_not] at h
    obtain ⟨hi, hb⟩ := h
    have h0 := hi
    simp only [insB, Bool.and_eq_true] at h0
    have e1 : calcR [47] [a, b] = some (a.tdiv b) := by rw [calc2, if_pos hi, c47, if_neg hb, fit_some, if_pos (tdiv_fit h0.1)]
    have e2 : calcR [92] [a, b] = some (a.tmod b) := by rw [calc2, if_pos hi, c92, if_neg hb, fit_some, if_pos (tmod_fit h0.1)]
    rw [e1, e2]
    exact ⟨fitsB_iff.1 h0.1, fitsB_iff.1 h0.2, div_facts hb⟩
theorem d1 (a b : Int) : AtD 1 ⟨[(0, .int .i64 a), (1, .int .i64 b)], []⟩ := by
  refine At.tree (ctr_ok (asmP_ok _) calQ_ok) (PD1_eq a b) ?_
  unfold PD1
  have hj := d2 a b
  simp only [ok_br, ok_owe, ok_ret, ok_jmp, decide_eq_true_eq, decide_eq_false_iff_not, Int.toNat_natCast, true_and, and_true, Bool.not_eq_true', Bool.not_eq_false', List.drop_zero, List.take_length, D.bool.injEq, D.int.injEq, D.str.injEq, true_implies, Int.le_refl]
  have e : insB a b = (decide (-2147483647 ≤ a) && decide (a ≤ 2147483647) && (decide (-2147483647 ≤ b) && decide (b ≤ 2147483647))) := rfl
  refine ⟨fun h1 => ⟨fun h2 => ⟨fun h3 => ?_, fun h3 => ?_⟩, fun h2 => ?_⟩, fun h1 => ?_⟩
  · rw [e] at hj; simpa [h1, h2, h3] using hj
  · rw [e] at hj; simpa [h1, h2, h3] using hj
  · rw [e] at hj; simpa [h1, h2] using hj
  · rw [e] at hj; simpa [h1] using hj
/-- ArithDivides, if the chapter's examples hold. -/
theorem divides_of (hA : FnOK Tryz.prog 8 [] (.bool true)) (a b : Int) : FnOK Tryz.prog 4 [.int .i64 a, .int .i64 b] (.bool true) := by
  refine FnOK.tree hdraw fp4 (ctr_ok (asmP_ok (.bool true)) calQ_ok) (PDiv_eq a b) ?_
  unfold PDiv
  simp only [ok_br, ok_owe, ok_ret, ok_jmp, decide_eq_true_eq, decide_eq_false_iff_not, Int.toNat_natCast, true_and, and_true, Bool.not_eq_true', Bool.not_eq_false', List.drop_zero, List.take_length, D.bool.injEq, D.int.injEq, D.str.injEq, true_implies, Int.le_refl]
  refine At.tree (ctr_ok (asmP_ok _) calQ_ok) (PD0_eq a b) ?_
  unfold PD0
  simp only [ok_br, ok_owe, ok_ret, ok_jmp, decide_eq_true_eq, decide_eq_false_iff_not, Int.toNat_natCast, true_and, and_true, Bool.not_eq_true', Bool.not_eq_false', List.drop_zero, List.take_length, D.bool.injEq, D.int.injEq, D.str.injEq, true_implies, Int.le_refl]
  exact ⟨hA, d1 a b⟩
end Go.Proofs.YtfoklncmfoogcaaGreatDoor
