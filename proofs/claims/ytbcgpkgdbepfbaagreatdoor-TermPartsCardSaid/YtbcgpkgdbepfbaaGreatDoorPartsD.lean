/- TermParts: the end of the first loop. -/
import Derived.Test.YtbcgpkgdbepfbaaGreatDoorPartsC
set_option linter.unusedSectionVars false
set_option linter.unusedVariables false
set_option linter.unusedSimpArgs false
set_option linter.deprecated false
set_option maxRecDepth 100000
namespace Go.Proofs.YtbcgpkgdbepfbaaGreatDoor
open Go.Sx
theorem exit0 (k n : Int) (s : List UInt8) (a fl : List (List D)) (i d : Int) (p vt vf vu g : Bool) (V v : List (List UInt8)) (hi : i = a.length) (hd : 0 ≤ d ∧ d ≤ 1000000)
    (hDt : FnOK Tryz.prog 22 [.agg (tC k n s a)] (.int .i64 (d + 1))) (hVt : FnOK Tryz.prog 21 [.agg (tC k n s a)] (.bool vt)) (hVf : FnOK Tryz.prog 21 [.agg (tC k n s [])] (.bool vf))
    (hVu : FnOK Tryz.prog 24 [.agg (tC k n s a)] (.bool vu)) (hG : FnOK Tryz.prog 25 [.agg (tC k n s a)] (.bool g)) (hV : FnOK Tryz.prog 23 [.agg (tC k n s a)] (.slice (strC V) []))
    (hA : vt = (p && (decide (d < 12) && vf))) (hB : vu = true → vt = true ∧ g = true) (hC : g = decide (V.length = 0)) (hv : v.length + 1 ≤ 1073741824)
    (hJ3 : k = 3 → At Tryz.prog 0 (cut sc5 1) (hdQ (strC V) (strC (v ++ [s])) 0) (FinQ true 0 rs5 fun r _ => r = .bool true))
    (hJ : k ≠ 3 → At Tryz.prog 0 (cut sc5 1) (hdQ (strC V) (strC v) 0) (FinQ true 0 rs5 fun r _ => r = .bool true)) :
    At Tryz.prog 0 (cut sc5 0) (hdP i d p (obP0 k n s a (strC v))) (FinQ true 0 rs5 fun r _ => r = .bool true) := by
  have hC2 : (!g == decide (((strC V).length : Int) = 0)) = false := by
    rw [strC_len, hC]
    by_cases h : V.length = 0
    · rw [decide_eq_true h, decide_eq_true (by omega)]; rfl
    · rw [decide_eq_false h, decide_eq_false (by omega)]; rfl
  rw [strC_app] at hJ3
  have hvl : (strC v).length + 1 ≤ 1073741824 := by rw [strC_len]; exact hv
  refine At.tree (dCtr_ok qnone_ok) (HP0_eq i d p k n s a (strC v) 0 0 [] [] true 0 0 [] (d + 1) vt vf vu g (strC V)) ?_
  unfold HP0
  rw [ok_br]
  refine ⟨fun h => ?_, fun _ => ?_⟩
  · have := of_decide_eq_true h; omega
  rw [ok_owe, ok_owe, ok_br]
  refine ⟨hDt, by omega, fun h => by simp at h, fun _ => ?_⟩
  rw [ok_owe]
  refine ⟨hVt, ?_⟩
  cases p with
  | true =>
    rw [ok_true, ok_br]
    refine ⟨fun h12 => ?_, fun h12 => ?_⟩
    · rw [ok_owe, ok_br]
      have e : vt = vf := by rw [hA, h12]; simp
      refine ⟨hVf, fun h => by rw [e] at h; cases vf <;> simp at h, fun _ => ?_⟩
      clear hA hVf e
      rw [ok_owe, ok_br]
      refine ⟨hVu, fun hvu => ?_, fun _ => ?_⟩
      · rw [ok_owe, ok_br]
        refine ⟨hVt, fun h => by rw [(hB hvu).1] at h; simp at h, fun _ => ?_⟩
        rw [ok_owe, ok_br]
        refine ⟨hG, fun h => by rw [(hB hvu).2] at h; simp at h, fun _ => ?_⟩
        rw [ok_owe, ok_owe, ok_br]
        refine ⟨hG, hV, fun h => by rw [hC2] at h; simp at h, fun _ => ?_⟩
        rw [ok_br]
        refine ⟨fun hk => ?_, fun hk => ?_⟩
        · rw [ok_owe, ok_owe, ok_jmp]
          exact ⟨⟨allLen_cons.2 ⟨rfl, allLen_nil _⟩, hvl⟩, hV, hJ3 (of_decide_eq_true hk)⟩
        · rw [ok_owe, ok_jmp]
          exact ⟨hV, hJ (of_decide_eq_false hk)⟩
      · rw [ok_owe, ok_owe, ok_br]
        refine ⟨hG, hV, fun h => by rw [hC2] at h; simp at h, fun _ => ?_⟩
        rw [ok_br]
        refine ⟨fun hk => ?_, fun hk => ?_⟩
        · rw [ok_owe, ok_owe, ok_jmp]
          exact ⟨⟨allLen_cons.2 ⟨rfl, allLen_nil _⟩, hvl⟩, hV, hJ3 (of_decide_eq_true hk)⟩
        · rw [ok_owe, ok_jmp]
          exact ⟨hV, hJ (of_decide_eq_false hk)⟩
    · rw [ok_br]
      have e : vt = false := by rw [hA, h12]; simp
      refine ⟨fun h => by rw [e] at h; simp at h, fun _ => ?_⟩
      clear hA hVf e
      rw [ok_owe, ok_br]
      refine ⟨hVu, fun hvu => ?_, fun _ => ?_⟩
      · rw [ok_owe, ok_br]
        refine ⟨hVt, fun h => by rw [(hB hvu).1] at h; simp at h, fun _ => ?_⟩
        rw [ok_owe, ok_br]
        refine ⟨hG, fun h => by rw [(hB hvu).2] at h; simp at h, fun _ => ?_⟩
        rw [ok_owe, ok_owe, ok_br]
        refine ⟨hG, hV, fun h => by rw [hC2] at h; simp at h, fun _ => ?_⟩
        rw [ok_br]
        refine ⟨fun hk => ?_, fun hk => ?_⟩
        · rw [ok_owe, ok_owe, ok_jmp]
          exact ⟨⟨allLen_cons.2 ⟨rfl, allLen_nil _⟩, hvl⟩, hV, hJ3 (of_decide_eq_true hk)⟩
        · rw [ok_owe, ok_jmp]
          exact ⟨hV, hJ (of_decide_eq_false hk)⟩
      · rw [ok_owe, ok_owe, ok_br]
        refine ⟨hG, hV, fun h => by rw [hC2] at h; simp at h, fun _ => ?_⟩
        rw [ok_br]
        refine ⟨fun hk => ?_, fun hk => ?_⟩
        · rw [ok_owe, ok_owe, ok_jmp]
          exact ⟨⟨allLen_cons.2 ⟨rfl, allLen_nil _⟩, hvl⟩, hV, hJ3 (of_decide_eq_true hk)⟩
        · rw [ok_owe, ok_jmp]
          exact ⟨hV, hJ (of_decide_eq_false hk)⟩
  | false =>
    rw [ok_false, ok_br]
    have e : vt = false := by rw [hA]; simp
    refine ⟨fun h => by rw [e] at h; simp at h, fun _ => ?_⟩
    clear hA hVf e
    rw [ok_owe, ok_br]
    refine ⟨hVu, fun hvu => ?_, fun _ => ?_⟩
    · rw [ok_owe, ok_br]
      refine ⟨hVt, fun h => by rw [(hB hvu).1] at h; simp at h, fun _ => ?_⟩
      rw [ok_owe, ok_br]
      refine ⟨hG, fun h => by rw [(hB hvu).2] at h; simp at h, fun _ => ?_⟩
      rw [ok_owe, ok_owe, ok_br]
      refine ⟨hG, hV, fun h => by rw [hC2] at h; simp at h, fun _ => ?_⟩
      rw [ok_br]
      refine ⟨fun hk => ?_, fun hk => ?_⟩
      · rw [ok_owe, ok_owe, ok_jmp]
        exact ⟨⟨allLen_cons.2 ⟨rfl, allLen_nil _⟩, hvl⟩, hV, hJ3 (of_decide_eq_true hk)⟩
      · rw [ok_owe, ok_jmp]
        exact ⟨hV, hJ (of_decide_eq_false hk)⟩
    · rw [ok_owe, ok_owe, ok_br]
      refine ⟨hG, hV, fun h => by rw [hC2] at h; simp at h, fun _ => ?_⟩
      rw [ok_br]
      refine ⟨fun hk => ?_, fun hk => ?_⟩
      · rw [ok_owe, ok_owe, ok_jmp]
        exact ⟨⟨allLen_cons.2 ⟨rfl, allLen_nil _⟩, hvl⟩, hV, hJ3 (of_decide_eq_true hk)⟩
      · rw [ok_owe, ok_jmp]
        exact ⟨hV, hJ (of_decide_eq_false hk)⟩
theorem exit1 (k n : Int) (s : List UInt8) (a fl : List (List D)) (i d : Int) (p vt vf vu g : Bool) (V v : List (List UInt8)) (hi : i = a.length) (hd : 0 ≤ d ∧ d ≤ 1000000)
    (hDt : FnOK Tryz.prog 22 [.agg (tC k n s a)] (.int .i64 (d + 1))) (hVt : FnOK Tryz.prog 21 [.agg (tC k n s a)] (.bool vt)) (hVf : FnOK Tryz.prog 21 [.agg (tC k n s fl)] (.bool vf))
    (hVu : FnOK Tryz.prog 24 [.agg (tC k n s a)] (.bool vu)) (hG : FnOK Tryz.prog 25 [.agg (tC k n s a)] (.bool g)) (hV : FnOK Tryz.prog 23 [.agg (tC k n s a)] (.slice (strC V) []))
    (hA : vt = (p && (decide (d < 12) && vf))) (hB : vu = true → vt = true ∧ g = true) (hC : g = decide (V.length = 0)) (hv : v.length + 1 ≤ 1073741824)
    (hJ3 : k = 3 → At Tryz.prog 0 (cut sc5 1) (hdQ (strC V) (strC (v ++ [s])) 0) (FinQ true 0 rs5 fun r _ => r = .bool true))
    (hJ : k ≠ 3 → At Tryz.prog 0 (cut sc5 1) (hdQ (strC V) (strC v) 0) (FinQ true 0 rs5 fun r _ => r = .bool true)) :
    At Tryz.prog 0 (cut sc5 0) (hdP i d p (obP1 k n s a (strC v) fl)) (FinQ true 0 rs5 fun r _ => r = .bool true) := by
  have hC2 : (!g == decide (((strC V).length : Int) = 0)) = false := by
    rw [strC_len, hC]
    by_cases h : V.length = 0
    · rw [decide_eq_true h, decide_eq_true (by omega)]; rfl
    · rw [decide_eq_false h, decide_eq_false (by omega)]; rfl
  rw [strC_app] at hJ3
  have hvl : (strC v).length + 1 ≤ 1073741824 := by rw [strC_len]; exact hv
  refine At.tree (dCtr_ok qnone_ok) (HP1_eq i d p k n s a (strC v) fl 0 0 [] [] true 0 0 [] (d + 1) vt vf vu g (strC V)) ?_
  unfold HP1
  rw [ok_br]
  refine ⟨fun h => ?_, fun _ => ?_⟩
  · have := of_decide_eq_true h; omega
  rw [ok_owe, ok_owe, ok_br]
  refine ⟨hDt, by omega, fun h => by simp at h, fun _ => ?_⟩
  rw [ok_owe]
  refine ⟨hVt, ?_⟩
  cases p with
  | true =>
    rw [ok_true, ok_br]
    refine ⟨fun h12 => ?_, fun h12 => ?_⟩
    · rw [ok_owe, ok_br]
      have e : vt = vf := by rw [hA, h12]; simp
      refine ⟨hVf, fun h => by rw [e] at h; cases vf <;> simp at h, fun _ => ?_⟩
      clear hA hVf e
      rw [ok_owe, ok_br]
      refine ⟨hVu, fun hvu => ?_, fun _ => ?_⟩
      · rw [ok_owe, ok_br]
        refine ⟨hVt, fun h => by rw [(hB hvu).1] at h; simp at h, fun _ => ?_⟩
        rw [ok_owe, ok_br]
        refine ⟨hG, fun h => by rw [(hB hvu).2] at h; simp at h, fun _ => ?_⟩
        rw [ok_owe, ok_owe, ok_br]
        refine ⟨hG, hV, fun h => by rw [hC2] at h; simp at h, fun _ => ?_⟩
        rw [ok_br]
        refine ⟨fun hk => ?_, fun hk => ?_⟩
        · rw [ok_owe, ok_owe, ok_jmp]
          exact ⟨⟨allLen_cons.2 ⟨rfl, allLen_nil _⟩, hvl⟩, hV, hJ3 (of_decide_eq_true hk)⟩
        · rw [ok_owe, ok_jmp]
          exact ⟨hV, hJ (of_decide_eq_false hk)⟩
      · rw [ok_owe, ok_owe, ok_br]
        refine ⟨hG, hV, fun h => by rw [hC2] at h; simp at h, fun _ => ?_⟩
        rw [ok_br]
        refine ⟨fun hk => ?_, fun hk => ?_⟩
        · rw [ok_owe, ok_owe, ok_jmp]
          exact ⟨⟨allLen_cons.2 ⟨rfl, allLen_nil _⟩, hvl⟩, hV, hJ3 (of_decide_eq_true hk)⟩
        · rw [ok_owe, ok_jmp]
          exact ⟨hV, hJ (of_decide_eq_false hk)⟩
    · rw [ok_br]
      have e : vt = false := by rw [hA, h12]; simp
      refine ⟨fun h => by rw [e] at h; simp at h, fun _ => ?_⟩
      clear hA hVf e
      rw [ok_owe, ok_br]
      refine ⟨hVu, fun hvu => ?_, fun _ => ?_⟩
      · rw [ok_owe, ok_br]
        refine ⟨hVt, fun h => by rw [(hB hvu).1] at h; simp at h, fun _ => ?_⟩
        rw [ok_owe, ok_br]
        refine ⟨hG, fun h => by rw [(hB hvu).2] at h; simp at h, fun _ => ?_⟩
        rw [ok_owe, ok_owe, ok_br]
        refine ⟨hG, hV, fun h => by rw [hC2] at h; simp at h, fun _ => ?_⟩
        rw [ok_br]
        refine ⟨fun hk => ?_, fun hk => ?_⟩
        · rw [ok_owe, ok_owe, ok_jmp]
          exact ⟨⟨allLen_cons.2 ⟨rfl, allLen_nil _⟩, hvl⟩, hV, hJ3 (of_decide_eq_true hk)⟩
        · rw [ok_owe, ok_jmp]
          exact ⟨hV, hJ (of_decide_eq_false hk)⟩
      · rw [ok_owe, ok_owe, ok_br]
        refine ⟨hG, hV, fun h => by rw [hC2] at h; simp at h, fun _ => ?_⟩
        rw [ok_br]
        refine ⟨fun hk => ?_, fun hk => ?_⟩
        · rw [ok_owe, ok_owe, ok_jmp]
          exact ⟨⟨allLen_cons.2 ⟨rfl, allLen_nil _⟩, hvl⟩, hV, hJ3 (of_decide_eq_true hk)⟩
        · rw [ok_owe, ok_jmp]
          exact ⟨hV, hJ (of_decide_eq_false hk)⟩
  | false =>
    rw [ok_false, ok_br]
    have e : vt = false := by rw [hA]; simp
    refine ⟨fun h => by rw [e] at h; simp at h, fun _ => ?_⟩
    clear hA hVf e
    rw [ok_owe, ok_br]
    refine ⟨hVu, fun hvu => ?_, fun _ => ?_⟩
    · rw [ok_owe, ok_br]
      refine ⟨hVt, fun h => by rw [(hB hvu).1] at h; simp at h, fun _ => ?_⟩
      rw [ok_owe, ok_br]
      refine ⟨hG, fun h => by rw [(hB hvu).2] at h; simp at h, fun _ => ?_⟩
      rw [ok_owe, ok_owe, ok_br]
      refine ⟨hG, hV, fun h => by rw [hC2] at h; simp at h, fun _ => ?_⟩
      rw [ok_br]
      refine ⟨fun hk => ?_, fun hk => ?_⟩
      · rw [ok_owe, ok_owe, ok_jmp]
        exact ⟨⟨allLen_cons.2 ⟨rfl, allLen_nil _⟩, hvl⟩, hV, hJ3 (of_decide_eq_true hk)⟩
      · rw [ok_owe, ok_jmp]
        exact ⟨hV, hJ (of_decide_eq_false hk)⟩
    · rw [ok_owe, ok_owe, ok_br]
      refine ⟨hG, hV, fun h => by rw [hC2] at h; simp at h, fun _ => ?_⟩
      rw [ok_br]
      refine ⟨fun hk => ?_, fun hk => ?_⟩
      · rw [ok_owe, ok_owe, ok_jmp]
        exact ⟨⟨allLen_cons.2 ⟨rfl, allLen_nil _⟩, hvl⟩, hV, hJ3 (of_decide_eq_true hk)⟩
      · rw [ok_owe, ok_jmp]
        exact ⟨hV, hJ (of_decide_eq_false hk)⟩
end Go.Proofs.YtbcgpkgdbepfbaaGreatDoor
