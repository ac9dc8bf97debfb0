/- The lexer's run, byte by byte. -/
import Derived.Test.YtdkbjkccpnhjgaaGreatDoorSx6
set_option linter.unusedSectionVars false
set_option linter.unusedVariables false
set_option linter.unusedSimpArgs false
set_option linter.deprecated false
namespace Go.Sx.Lx
open Go.Sx
theorem runAt_eq (s : List UInt8) (i : Nat) : run i (s.drop i) = toksF (s.length + 1) (skipTo s i) (s.drop (skipTo s i)) := by
  unfold run
  rw [List.drop_drop]
  have h := skp_le false (s.drop i)
  show toksF _ (skipTo s i) (s.drop (skipTo s i)) = _
  exact toksF_fuel _ _ _ _ (by unfold skipTo; simp only [List.length_drop]; omega) (by simp only [List.length_drop]; omega)
theorem runAt_congr {s : List UInt8} {i j : Nat} (h : skipTo s i = skipTo s j) : run i (s.drop i) = run j (s.drop j) := by rw [runAt_eq, runAt_eq, h]
theorem runAt_end {s : List UInt8} {i : Nat} (h : s.length ≤ i) : (run i (s.drop i)).1 = [] ∧ (run i (s.drop i)).2.1 = none := by
  rw [List.drop_eq_nil_of_le h]; exact ⟨rfl, rfl⟩
theorem runAt_blank {s : List UInt8} {i : Nat} (h : i < s.length) (hb : isBlank (s.getD i 0) = true) : run i (s.drop i) = run (i + 1) (s.drop (i + 1)) := by
  refine runAt_congr ?_
  rw [skipTo_blank s i, runTo_step h hb, ← skipTo_blank]
theorem runAt_cmt {s : List UInt8} {i : Nat} (h : i < s.length) (hb : s.getD i 0 = 37) : run i (s.drop i) = run (runTo inLine s i) (s.drop (runTo inLine s i)) :=
  runAt_congr (skipTo_cmt h hb)
theorem runAt_tok {s : List UInt8} {i : Nat} (h : i < s.length) (h1 : isBlank (s.getD i 0) = false) (h2 : s.getD i 0 ≠ 37) :
    ((tok (s.drop i)).2.2 = 0 → (run i (s.drop i)).1 = ((tok (s.drop i)).1, (tok (s.drop i)).2.1, (i : Int)) :: (run (i + (tok (s.drop i)).2.1.length) (s.drop (i + (tok (s.drop i)).2.1.length))).1 ∧
      (run i (s.drop i)).2.1 = (run (i + (tok (s.drop i)).2.1.length) (s.drop (i + (tok (s.drop i)).2.1.length))).2.1) ∧
    ((tok (s.drop i)).2.2 ≠ 0 → (run i (s.drop i)).2.1 = some (i, (tok (s.drop i)).2.2)) := by
  have hk : skp false (s.drop i) = 0 := by
    rw [drop_getD (d := 0) h]
    refine skp_stop ?_
    intro b hb
    simp only [List.head?_cons, Option.some.injEq] at hb
    subst hb; exact ⟨h1, h2⟩
  have hg := run_go (o := i) (l := s.drop i) (by rw [hk, List.length_drop]; omega)
  rw [hk] at hg
  simp only [List.drop_zero, Nat.add_zero, Nat.zero_add, List.drop_drop] at hg
  rw [hg]
  constructor
  · intro he; rw [if_pos he]; exact ⟨rfl, rfl⟩
  · intro he; rw [if_neg he]
/- What a token is, by its first byte. -/
theorem tok_name {s : List UInt8} {i : Nat} (h : i < s.length) (hb : (isLet (s.getD i 0) || isUnd (s.getD i 0)) = true) :
    tok (s.drop i) = ((wordK ((s.take (runTo isName s (i + 1))).drop i)).1, (s.take (runTo isName s (i + 1))).drop i, (wordK ((s.take (runTo isName s (i + 1))).drop i)).2) ∧ i + ((s.take (runTo isName s (i + 1))).drop i).length = runTo isName s (i + 1) := by
  have hn : isName (s.getD i 0) = true := by unfold isName; rw [Bool.or_eq_true] at hb; rcases hb with h | h <;> simp only [h, Bool.true_or, Bool.or_true]
  rw [← runTo_step h hn, runTo_text]
  refine ⟨?_, rfl⟩
  rw [drop_getD (d := 0) h]
  simp only [tok]
  rw [if_pos hb]
theorem dig_first : (List.range 256).all (fun n => !(isDig (UInt8.ofNat n)) || (!(isLet (UInt8.ofNat n)) && !(isUnd (UInt8.ofNat n)))) = true := by decide +kernel
theorem dig_not {b : UInt8} (h : isDig b = true) : isLet b = false ∧ isUnd b = false := by
  have := List.all_eq_true.1 dig_first b.toNat (List.mem_range.2 b.toNat_lt)
  rw [UInt8.ofNat_toNat, h] at this
  simpa using this
theorem tok_dig {s : List UInt8} {i : Nat} (h : i < s.length) (hb : isDig (s.getD i 0) = true) :
    tok (s.drop i) = (3, (s.take (runTo isDig s (i + 1))).drop i, numE ((s.take (runTo isDig s (i + 1))).drop i)) ∧ i + ((s.take (runTo isDig s (i + 1))).drop i).length = runTo isDig s (i + 1) ∧
    (s.take (runTo isDig s (i + 1))).drop i ≠ [] ∧ ((s.take (runTo isDig s (i + 1))).drop i).all isDig = true := by
  rw [← runTo_step h hb, runTo_text]
  refine ⟨?_, rfl, ?_, ?_⟩
  · rw [drop_getD (d := 0) h]
    obtain ⟨h1, h2⟩ := dig_not hb
    simp only [tok]
    rw [if_neg (by rw [h1, h2]; decide), if_pos hb]
  · rw [drop_getD (d := 0) h]
    exact List.length_pos_iff.1 (takeWhile_pos hb)
  · rw [List.all_eq_true]
    intro x hx
    exact (List.all_eq_true.1 (List.all_takeWhile (p := isDig) (l := s.drop i)) x hx)
theorem tok_dir {s : List UInt8} {i : Nat} (h : i < s.length) (hb : s.getD i 0 = 35) :
    tok (s.drop i) = (5, (s.take (runTo isLet s (i + 1))).drop i, if (s.take (runTo isLet s (i + 1))).drop i ∈ dirs then 0 else 31) ∧ i + ((s.take (runTo isLet s (i + 1))).drop i).length = runTo isLet s (i + 1) := by
  have h1 := runTo_le isLet s (i + 1)
  have h2 := runTo_len (p := isLet) (s := s) (i := i + 1) (by omega)
  have e : (s.take (runTo isLet s (i + 1))).drop i = 35 :: (s.drop (i + 1)).takeWhile isLet := by
    rw [drop_getD (d := 0) (by rw [List.length_take]; omega), runTo_text]
    congr 1
    rw [List.getD_eq_getElem?_getD, List.getElem?_take, if_pos (by omega), ← List.getD_eq_getElem?_getD]
    exact hb
  rw [e]
  refine ⟨?_, ?_⟩
  · rw [drop_getD (d := 0) h, hb]
    rfl
  · unfold runTo; rw [List.length_cons]; omega
theorem tok_sign {s : List UInt8} {i : Nat} (h : i < s.length) (h1 : (isLet (s.getD i 0) || isUnd (s.getD i 0)) = false) (h2 : isDig (s.getD i 0) = false) (h3 : s.getD i 0 ≠ 35) :
    tok (s.drop i) = (6, signOf (s.drop i), if signOf (s.drop i) = [] then 30 else 0) := by
  rw [drop_getD (d := 0) h]
  simp only [tok]
  rw [if_neg (by rw [h1]; decide), if_neg (by rw [h2]; decide), if_neg (by simp only [beq_iff_eq]; exact h3)]
/-- What the reference's Lex answers. -/
def ansR (l : List Tk) (q : List Tk × Option (Nat × Int) × Nat) : List Tk × Int × Int := match q.2.1 with
  | some (a, e) => ([], a, e)
  | none => (l ++ q.1, 0, 0)
theorem ansR_go {l : List Tk} {t : Tk} {q q' : List Tk × Option (Nat × Int) × Nat} (h1 : q.1 = t :: q'.1) (h2 : q.2.1 = q'.2.1) : ansR l q = ansR (l ++ [t]) q' := by
  unfold ansR
  rw [h2]
  cases q'.2.1 with
  | none => simp [h1]
  | some x => rfl
theorem ansR_err {l : List Tk} {q : List Tk × Option (Nat × Int) × Nat} {a : Nat} {e : Int} (h : q.2.1 = some (a, e)) : ansR l q = ([], (a : Int), e) := by
  unfold ansR; rw [h]
theorem ansR_end {l : List Tk} {q : List Tk × Option (Nat × Int) × Nat} (h1 : q.1 = []) (h : q.2.1 = none) : ansR l q = (l, 0, 0) := by
  unfold ansR; rw [h, h1]; simp
theorem rl_go {s : List UInt8} {i j : Nat} {es : List Tk} {k : Int} {T : List UInt8} (h : i < s.length) (h1 : isBlank (s.getD i 0) = false) (h2 : s.getD i 0 ≠ 37) (hk : tok (s.drop i) = (k, T, 0)) (hj : i + T.length = j) :
    ansR es (run i (s.drop i)) = ansR (es ++ [(k, T, (i : Int))]) (run j (s.drop j)) := by
  have := (runAt_tok h h1 h2).1
  rw [hk] at this
  obtain ⟨e1, e2⟩ := this rfl
  simp only [hj] at e1 e2
  exact ansR_go e1 e2
theorem rl_err {s : List UInt8} {i : Nat} {es : List Tk} {k : Int} {T : List UInt8} {e : Int} (h : i < s.length) (h1 : isBlank (s.getD i 0) = false) (h2 : s.getD i 0 ≠ 37) (hk : tok (s.drop i) = (k, T, e)) (he : e ≠ 0) :
    ansR es (run i (s.drop i)) = ([], (i : Int), e) := by
  have := (runAt_tok h h1 h2).2
  rw [hk] at this
  exact ansR_err (this he)
theorem wordK_zero {t : List UInt8} (h : (wordK t).1 = 0) : (wordK t).2 = 31 := by
  unfold wordK at h ⊢
  split at h
  · cases h
  split at h
  · cases h
  split at h
  · cases h
  · rename_i h1 h2 h3; rw [if_neg h1, if_neg h2, if_neg h3]
theorem wordK_some {t : List UInt8} (h : (wordK t).1 ≠ 0) : (wordK t).2 = 0 := by
  unfold wordK at h ⊢
  split
  · rfl
  split
  · rfl
  split
  · rfl
  · rename_i h1 h2 h3; rw [if_neg h1, if_neg h2, if_neg h3] at h; exact absurd rfl h
theorem lexR_ans (s : List UInt8) : lexR s = if 32768 < s.length then ([], 0, 3) else ansR [] (run 0 s) := by
  rw [lexR_eq]
  split
  · rfl
  · unfold ans ansR
    rcases run 0 s with ⟨l, _ | ⟨a, e⟩, p⟩ <;> rfl
end Go.Sx.Lx
