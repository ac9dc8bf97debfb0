/- The law of quotient and remainder: its statements. -/
import Derived.Test.YtfoklncmfoogcaaGreatDoorArDiv
set_option linter.unusedSectionVars false
set_option linter.unusedVariables false
set_option linter.unusedSimpArgs false
set_option linter.deprecated false
set_option maxRecDepth 100000
namespace Go.Proofs.YtfoklncmfoogcaaGreatDoor
open Go.Sx
abbrev AtD (n : Nat) (s : St) : Prop := At Tryz.prog 0 (frg sc4 n) s (FinQ true 0 rs4 fun r _ => r = .bool true)
def insB (a b : Int) : Bool := fitsB a && fitsB b
theorem calc2 (op : List UInt8) (a b : Int) : calcR op [a, b] = if insB a b = true then fitO (calc0 op a b) else none := by
  simp [calcR, insB]
theorem calc1 (b : Int) : calcR [45] [b] = if fitsB b = true then some (-b) else none := by
  simp [calcR]
theorem fit_some (n : Int) : fitO (some n) = if fitsB n = true then some n else none := rfl
theorem c43 (a b : Int) : calc0 [43] a b = some (a + b) := rfl
theorem c45 (a b : Int) : calc0 [45] a b = some (a - b) := rfl
theorem c42 (a b : Int) : calc0 [42] a b = some (a * b) := rfl
theorem c47 (a b : Int) : calc0 [47] a b = if b = 0 then none else some (a.tdiv b) := rfl
theorem c92 (a b : Int) : calc0 [92] a b = if b = 0 then none else some (a.tmod b) := rfl
theorem d14 (a b d e : Int) (ins i k n f : Bool) (h : ins = true → insB a b = true ∧ d = e ∧ n = f ∧ i = fitsB (a + b) ∧ k = fitsB (a * b)) :
    AtD 14 ⟨[(0, .int .i64 a), (1, .int .i64 b), (5, .bool ins), (11, .bool i), (15, .bool k), (18, .int .i64 d), (19, .bool n), (22, .int .i64 e), (23, .bool f)], []⟩ := by
  refine At.tree (ctr_ok (asmP_ok _) calQ_ok) (PD14_eq a b d e ins i k n f) ?_
  unfold PD14
  cases ins with
  | false => exact rfl
  | true =>
    obtain ⟨h0, rfl, rfl, rfl, rfl⟩ := h rfl
    simp only [insB, Bool.and_eq_true] at h0
    have hm := mul_fit h0.1 h0.2
    rw [fitsB_iff, fitsB_iff] at h0
    simp only [ok_br, ok_owe, ok_ret, ok_jmp, decide_eq_true_eq, decide_eq_false_iff_not, Int.toNat_natCast, true_and, and_true, Bool.not_eq_true', Bool.not_eq_false', List.drop_zero, List.take_length, D.bool.injEq, D.int.injEq, D.str.injEq, true_implies, Int.le_refl, fitsB, beq_self_eq_true]
    have hs : -9223372036854775808 ≤ a + b ∧ a + b ≤ 9223372036854775807 := by omega
    have hm' : -9223372036854775808 ≤ a * b ∧ a * b ≤ 9223372036854775807 := by omega
    clear hm h0
    by_cases h1 : -2147483647 ≤ a + b <;> by_cases h2 : a + b ≤ 2147483647 <;> by_cases h3 : -2147483647 ≤ a * b <;> by_cases h4 : a * b ≤ 2147483647 <;> simp [h1, h2, h3, h4, hs, hm']
theorem d13 (a b d c : Int) (ins i k n : Bool) (h : ins = true → insB a b = true ∧ c = -b ∧ some d = (if n = true then some (a - b) else some 0) ∧ n = fitsB (a - b) ∧ i = fitsB (a + b) ∧ k = fitsB (a * b)) :
    AtD 13 ⟨[(0, .int .i64 a), (1, .int .i64 b), (5, .bool ins), (11, .bool i), (15, .bool k), (18, .int .i64 d), (19, .bool n), (20, .int .i64 c)], []⟩ := by
  refine At.tree (ctr_ok (asmP_ok _) calQ_ok) (PD13_eq a b d c ins i k n) ?_
  unfold PD13
  simp only [ok_br, ok_owe, ok_ret, ok_jmp, decide_eq_true_eq, decide_eq_false_iff_not, Int.toNat_natCast, true_and, and_true, Bool.not_eq_true', Bool.not_eq_false', List.drop_zero, List.take_length, D.bool.injEq, D.int.injEq, D.str.injEq, true_implies, Int.le_refl]
  refine d14 a b d _ ins i k n _ fun hi => ?_
  obtain ⟨h0, rfl, h2, rfl, h4, h5⟩ := h hi
  have hf : insB a (-b) = true := by
    simp only [insB, Bool.and_eq_true, fitsB_iff] at h0 ⊢
    omega
  rw [calc2, if_pos hf, c43, fit_some]
  rw [show a + -b = a - b by omega]
  refine ⟨h0, ?_, ?_, h4, h5⟩
  · cases hq : fitsB (a - b) with
    | true => rw [hq] at h2; simpa using h2
    | false => rw [hq] at h2; simpa using h2
  · cases hq : fitsB (a - b) <;> simp
theorem d12f (a b c : Int) (o : Bool) (ho : o = fitsB b) (hc : o = true → c = -b) (hj : AtD 13 ⟨[(0, .int .i64 a), (1, .int .i64 b), (5, .bool false), (11, .bool false), (15, .bool false), (18, .int .i64 0), (19, .bool false), (20, .int .i64 c)], []⟩) :
    AtD 12 ⟨[(0, .int .i64 a), (1, .int .i64 b), (5, .bool false), (10, .int .i64 0), (11, .bool false), (12, .int .i64 0), (13, .bool false), (14, .int .i64 0), (15, .bool false), (16, .int .i64 0), (17, .bool false), (18, .int .i64 0), (19, .bool false), (20, .int .i64 c), (21, .bool o)], []⟩ := by
  refine At.tree (ctr_ok (asmP_ok _) calQ_ok) (PD12a_eq a b 0 0 0 0 0 c false o) ?_
  unfold PD12a
  have ho' : o = (decide (-2147483647 ≤ b) && decide (b ≤ 2147483647)) := ho
  clear ho
  simp only [ok_br, ok_owe, ok_ret, ok_jmp, decide_true, Bool.not_true]
  unfold AtD at hj
  generalize At _ _ _ _ _ = J at hj ⊢
  by_cases h1 : -2147483647 ≤ b <;> by_cases h2 : b ≤ 2147483647
  · simp only [h1, h2, decide_true, Bool.and_self] at ho'
    subst ho'
    have hc' := hc rfl
    have hn : -9223372036854775808 ≤ 0 - b ∧ 0 - b ≤ 9223372036854775807 := by omega
    have hcz : c = 0 - b := by omega
    simp only [h1, h2, hn, hcz, hj, decide_true, decide_false, Bool.false_eq_true, false_implies, true_implies, and_true, true_and, beq_self_eq_true, Bool.not_true, eq_self, implies_true, Bool.true_eq_false, not_true, not_false_eq_true]
  · simp only [h1, h2, decide_true, decide_false, Bool.and_false] at ho'
    subst ho'
    simp [h1, h2, hj]
  · simp only [h1, h2, decide_true, decide_false, Bool.false_and] at ho'
    subst ho'
    simp [h1, h2, hj]
  · simp only [h1, h2, decide_false, Bool.false_and] at ho'
    subst ho'
    simp [h1, h2, hj]
theorem d12t (a b s p d : Int) (i k n : Bool) (hb : -2147483647 ≤ b ∧ b ≤ 2147483647) (hi : i = true → s = a + b ∧ -9223372036854775808 ≤ a + b ∧ a + b ≤ 9223372036854775807) (hk : k = true → p = a * b ∧ -9223372036854775808 ≤ a * b ∧ a * b ≤ 9223372036854775807)
    (hn : n = true → d = a - b ∧ -9223372036854775808 ≤ a - b ∧ a - b ≤ 9223372036854775807) (hj : AtD 13 ⟨[(0, .int .i64 a), (1, .int .i64 b), (5, .bool true), (11, .bool i), (15, .bool k), (18, .int .i64 d), (19, .bool n), (20, .int .i64 (-b))], []⟩) :
    AtD 12 ⟨[(0, .int .i64 a), (1, .int .i64 b), (5, .bool true), (10, .int .i64 s), (11, .bool i), (12, .int .i64 s), (13, .bool i), (14, .int .i64 p), (15, .bool k), (16, .int .i64 p), (17, .bool k), (18, .int .i64 d), (19, .bool n), (20, .int .i64 (-b)), (21, .bool true)], []⟩ := by
  refine At.tree (ctr_ok (asmP_ok _) calQ_ok) (PD12b_eq a b s s p p d (-b) true i k n) ?_
  unfold PD12b
  simp only [ok_br, ok_owe, ok_ret, ok_jmp, decide_true, Bool.not_true]
  unfold AtD at hj
  generalize At _ _ _ _ _ = J at hj ⊢
  have hz : -b = 0 - b := by omega
  have hnb : -9223372036854775808 ≤ 0 - b ∧ 0 - b ≤ 9223372036854775807 := by omega
  obtain ⟨hb1, hb2⟩ := hb
  rw [hz]
  have hJ : J = True := eq_true hj
  subst hJ
  clear hj hz
  cases i <;> cases k <;> cases n <;> simp only [true_implies, Bool.false_eq_true, false_implies] at hi hk hn <;>
    simp [hb1, hb2, hi, hk, hn] <;> omega
theorem d12 (a b : Int) : AtD 12 ⟨[(0, .int .i64 a), (1, .int .i64 b), (5, .bool (insB a b)), (10, .int .i64 ((calcR [43] [a, b]).getD 0)), (11, .bool (calcR [43] [a, b]).isSome), (12, .int .i64 ((calcR [43] [b, a]).getD 0)), (13, .bool (calcR [43] [b, a]).isSome),
    (14, .int .i64 ((calcR [42] [a, b]).getD 0)), (15, .bool (calcR [42] [a, b]).isSome), (16, .int .i64 ((calcR [42] [b, a]).getD 0)), (17, .bool (calcR [42] [b, a]).isSome), (18, .int .i64 ((calcR [45] [a, b]).getD 0)), (19, .bool (calcR [45] [a, b]).isSome), (20, .int .i64 ((calcR [45] [b]).getD 0)), (21, .bool (calcR [45] [b]).isSome)], []⟩ := by
  have hsw : insB b a = insB a b := by simp [insB, Bool.and_comm]
  rw [calc2, calc2, calc2, calc2, calc2, calc1, hsw, c43, c43, c42, c42, c45, fit_some, fit_some, fit_some, fit_some, fit_some, Int.add_comm b a, Int.mul_comm b a]
  have e : ∀ n : Int, (if fitsB n = true then some n else none).isSome = fitsB n := fun n => by cases fitsB n <;> rfl
  have e2 : (if fitsB b = true then some (-b) else none).isSome = fitsB b := by cases fitsB b <;> rfl
  cases hi : insB a b with
  | false =>
    simp only [Bool.false_eq_true, if_false, Option.getD_none, Option.isSome_none]
    rw [e2]
    refine d12f a b _ _ rfl (fun h => ?_) (d13 a b 0 _ false false false false (by simp))
    rw [if_pos h]; rfl
  | true =>
    simp only [if_true]
    have h0 := hi
    simp only [insB, Bool.and_eq_true] at h0
    have hm := mul_fit h0.1 h0.2
    have hb := h0.2
    have hbb := fitsB_iff.1 hb
    have haa := fitsB_iff.1 h0.1
    rw [if_pos hb]
    simp only [Option.getD_some, Option.isSome_some]
    rw [e, e, e]
    refine d12t a b _ _ _ _ _ _ hbb (fun h => ?_) (fun h => ?_) (fun h => ?_) (d13 a b _ (-b) true _ _ _ fun _ => ⟨hi, rfl, by cases fitsB (a - b) <;> rfl, rfl, rfl, rfl⟩)
    · rw [if_pos h]; exact ⟨rfl, by omega, by omega⟩
    · rw [if_pos h]; exact ⟨rfl, by omega, by omega⟩
    · rw [if_pos h]; exact ⟨rfl, by omega, by omega⟩
end Go.Proofs.YtfoklncmfoogcaaGreatDoor
