/- The reference model's Calc is Calc; lent integers are kept. -/
import Derived.Test.YtfoklncmfoogcaaGreatDoorArCal
import Derived.Test.YtfoklncmfoogcaaGreatDoorArDivC
set_option linter.unusedSectionVars false
set_option linter.unusedVariables false
set_option linter.unusedSimpArgs false
set_option linter.deprecated false
set_option maxRecDepth 100000
namespace Go.Proofs.YtfoklncmfoogcaaGreatDoor
open Go.Sx
abbrev AtR (s : St) (o : Option Int) : Prop := At Tryz.prog 0 (cut sc11 0) s (FinQ true 0 rs11 fun r _ => r = resT o)
theorem leafR (v : Int) : (True ∧ ((!fitsB v) = true → D.tuple [.int .i64 0, .bool false] = resT (fitO (some v))) ∧ ((!fitsB v) = false → D.tuple [.int .i64 v, .bool true] = resT (fitO (some v)))) = True :=
  eq_true ⟨trivial, fun h => (leafC v).1 (by simpa using h), fun h => (leafC v).2 (by simpa using h)⟩
theorem rc_two (s : List UInt8) (a b : Int) (ext : List (List D)) (ha : fitsB a = true) (hb : fitsB b = true) : AtR (hdRC s (intC .i64 [a, b]) ext 2) (calcR s [a, b]) := by
  rw [calc2, if_pos (show insB a b = true by simp [insB, ha, hb])]
  refine At.tree (ctr_ok rfitP_ok qnone_ok) (PRC2_eq s (intC .i64 [a, b]) ext 2 a b) ?_
  have hm := mul_fit ha hb
  have hd := fitsB_iff.1 (tdiv_fit (b := b) ha)
  have hr := fitsB_iff.1 (tmod_fit (b := b) ha)
  have hq : a.tdiv b * b = a - a.tmod b := by
    have := Int.mul_tdiv_add_tmod a b
    rw [Int.mul_comm] at this
    omega
  have e3 : a - (a - a.tmod b) = a.tmod b := by omega
  have ha' := fitsB_iff.1 ha
  have hb' := fitsB_iff.1 hb
  unfold PRC2
  simp only [ok_br, ok_owe, ok_ret, ok_jmp, hq, e3, leafR]
  have b1 : (-9223372036854775808 ≤ a + b ∧ a + b ≤ 9223372036854775807) = True := eq_true (by omega)
  have b2 : (-9223372036854775808 ≤ a - b ∧ a - b ≤ 9223372036854775807) = True := eq_true (by omega)
  have b3 : (-9223372036854775808 ≤ a * b ∧ a * b ≤ 9223372036854775807) = True := eq_true (by omega)
  have b4 : (-9223372036854775808 ≤ a.tdiv b ∧ a.tdiv b ≤ 9223372036854775807) = True := eq_true (by omega)
  have b5 : (-9223372036854775808 ≤ a - a.tmod b ∧ a - a.tmod b ≤ 9223372036854775807) = True := eq_true (by omega)
  have b6 : (-9223372036854775808 ≤ a.tmod b ∧ a.tmod b ≤ 9223372036854775807) = True := eq_true (by omega)
  simp only [b1, b2, b3, b4, b5, b6]
  clear hq e3 b1 b2 b3 b4 b5 b6 hm hd hr ha' hb'
  by_cases h1 : s = [43]
  · subst h1; simp [intC, c43]
    exact ⟨fun h => (leafC _).1 h, fun h => (leafC _).2 h⟩
  by_cases h2 : s = [45]
  · subst h2; simp [intC, c45]
    exact ⟨fun h => (leafC _).1 h, fun h => (leafC _).2 h⟩
  by_cases h3 : s = [42]
  · subst h3; simp [intC, c42]
    exact ⟨fun h => (leafC _).1 h, fun h => (leafC _).2 h⟩
  by_cases h4 : s = [47]
  · subst h4
    rw [c47]
    by_cases hz : b = 0
    · simp [intC, hz, fitO, resT]
    · simp [intC, hz]
      exact ⟨fun h => (leafC _).1 h, fun h => (leafC _).2 h⟩
  by_cases h5 : s = [92]
  · subst h5
    rw [c92]
    by_cases hz : b = 0
    · simp [intC, hz, fitO, resT]
    · simp [intC, hz]
      exact ⟨fun h => (leafC _).1 h, fun h => (leafC _).2 h⟩
  simp [intC, calc0, fitO, resT, h1, h2, h3, h4, h5]
theorem rc_end (s : List UInt8) (ext : List (List D)) (l : List Int) (h : l.all fitsB = true) : AtR (hdRC s (intC .i64 l) ext l.length) (calcR s l) := by
  match l, h with
  | [], _ =>
    refine At.tree (ctr_ok rfitP_ok qnone_ok) (PRC2_eq s _ ext _ 0 0) ?_
    unfold PRC2
    simp [ok_br, ok_owe, ok_ret, ok_jmp, intC, calcR, resT]
  | [a], h =>
    have ha := fitsB_iff.1 (show fitsB a = true by simpa using h)
    refine At.tree (ctr_ok rfitP_ok qnone_ok) (PRC2_eq s _ ext _ a 0) ?_
    unfold PRC2
    by_cases hs : s = [45]
    · subst hs
      have b1 : -9223372036854775808 ≤ 0 - a ∧ 0 - a ≤ 9223372036854775807 := by omega
      simp only [ok_br, ok_owe, ok_ret, ok_jmp, intC_len, List.length_cons, List.length_nil]
      simp [intC, calcR, resT, show fitsB a = true by simpa using h]
      omega
    · simp [ok_br, ok_owe, ok_ret, ok_jmp, intC, calcR, resT, hs]
  | [a, b], h =>
    have hab : fitsB a = true ∧ fitsB b = true := by simpa using h
    exact rc_two s a b ext hab.1 hab.2
  | a :: b :: c :: r, h =>
    refine At.tree (ctr_ok rfitP_ok qnone_ok) (PRC2_eq s _ ext _ a b) ?_
    unfold PRC2
    have e1 : ¬ ((r.length + 1 + 1 + 1 : Nat) : Int) = 1 := by omega
    have e2 : ¬ ((r.length + 1 + 1 + 1 : Nat) : Int) = 2 := by omega
    simp only [ok_br, ok_owe, ok_ret, ok_jmp, intC_len, List.length_cons, e1, e2, decide_false, Bool.not_false, Bool.false_eq_true, false_implies, true_implies, Bool.true_eq_false, and_true, true_and, Int.lt_irrefl]
    have : calcR s (a :: b :: c :: r) = none := by simp [calcR]
    rw [this]
    simp [resT]
theorem rc_at (s : List UInt8) (ext : List (List D)) (l : List Int) (hl : l.length ≤ 4611686018427387904) : ∀ (m i : Nat), l.length - i = m → i ≤ l.length → (l.take i).all fitsB = true → AtR (hdRC s (intC .i64 l) ext i) (calcR s l) := by
  intro m
  induction m with
  | zero =>
    intro i hm hi ht
    have e : i = l.length := by omega
    subst e
    rw [List.take_length] at ht
    exact rc_end s ext l ht
  | succ m ih =>
    intro i hm hi ht
    have h1 : i < l.length := by omega
    refine At.tree (ctr_ok rfitP_ok qnone_ok) (PRC2_eq s _ ext i l[i] 0) ?_
    unfold PRC2
    rw [ok_br]
    refine ⟨fun _ => ?_, fun h => by rw [intC_len] at h; simp at h; omega⟩
    simp only [ok_br, ok_owe, ok_ret, ok_jmp, decide_eq_true_eq, decide_eq_false_iff_not, Int.toNat_natCast, true_and, and_true, Bool.not_eq_true', Bool.not_eq_false', List.drop_zero, List.take_length, D.bool.injEq, D.int.injEq, D.str.injEq, true_implies, Int.le_refl]
    refine ⟨⟨by omega, intC_get h1⟩, fun h => ?_, fun h => ⟨by omega, ih (i + 1) (by omega) (by omega) ?_⟩⟩
    · rw [calcR_big]
      · rfl
      · rw [Bool.eq_false_iff]
        intro hall
        have := List.all_eq_true.1 hall l[i] (List.getElem_mem h1)
        rw [h] at this; cases this
    · rw [← List.take_append_getElem h1, List.all_append, ht]
      simpa using h
theorem rc_ok (s : List UInt8) (ext : List (List D)) (l : List Int) (hl : l.length ≤ 4611686018427387904) : FnOK Tryz.prog 11 [.str s, .slice (intC .i64 l) ext] (resT (calcR s l)) := by
  refine FnOK.tree hdraw fp11 (ctr_ok libT_ok qnone_ok) (PRC_eq s _ ext) ?_
  unfold PRC
  simp only [ok_br, ok_owe, ok_ret, ok_jmp]
  exact rc_at s ext l hl _ 0 rfl (Nat.zero_le _) rfl
/-- What lies behind lent integers. -/
def mk1 : List Int := (List.range 12).map fun i : Nat => (8000024 : Int) + i
theorem mark_ok (i : Int) (hi : 0 ≤ i ∧ i ≤ 1000) : FnOK Tryz.prog 31 [.int .i64 1, .int .i64 i] (.int .i64 (8000024 + i)) := by
  refine FnOK.tree hdraw fp31 (ctr_ok libT_ok qnone_ok) (PMark_eq 1 i) ?_
  unfold PMark
  simp only [ok_br, ok_owe, ok_ret, ok_jmp, decide_eq_true_eq, decide_eq_false_iff_not, Int.toNat_natCast, true_and, and_true, Bool.not_eq_true', Bool.not_eq_false', List.drop_zero, List.take_length, D.bool.injEq, D.int.injEq, D.str.injEq, true_implies, Int.le_refl]
  exact ⟨by omega, by omega⟩
theorem kp_at (l : List Int) (X ext : List (List D)) (hl : l.length ≤ 1000000) : ∀ (m i : Nat), l.length + 12 - i = m → i ≤ l.length + 12 →
    At Tryz.prog 0 (cut sc12 0) (hdKp (intC .i64 (l ++ mk1)) X (intC .i64 l) ext i) (FinQ true 0 rs12 fun r _ => r = .bool true) := by
  have hA : (intC .i64 (l ++ mk1)).length = l.length + 12 := by rw [intC_len, List.length_append]; rfl
  intro m
  induction m with
  | zero =>
    intro i hm hi
    refine At.tree (ctr_ok (asmP_ok (.int .i64 0)) qnone_ok) (PKp2_eq _ X _ ext i 0 0 0) ?_
    unfold PKp2
    rw [ok_br]
    exact ⟨fun h => by rw [hA] at h; simp at h; omega, fun _ => rfl⟩
  | succ m ih =>
    intro i hm hi
    have h1 : i < (l ++ mk1).length := by rw [List.length_append, show mk1.length = 12 from rfl]; omega
    have hI := ih (i + 1) (by omega) (by omega)
    by_cases h2 : i < l.length
    · have e : (l ++ mk1)[i] = l[i] := List.getElem_append_left h2
      refine At.tree (ctr_ok (asmP_ok (.int .i64 0)) qnone_ok) (PKp2_eq _ X _ ext i l[i] l[i] 0) ?_
      unfold PKp2
      have hx := intC_get (k := .i64) h1
      rw [e] at hx
      simp only [ok_br, ok_owe, ok_ret, ok_jmp, decide_eq_true_eq, decide_eq_false_iff_not, Int.toNat_natCast, true_and, and_true, Bool.not_eq_true', Bool.not_eq_false', List.drop_zero, List.take_length, D.bool.injEq, D.int.injEq, D.str.injEq, true_implies, Int.le_refl, hA, intC_len]
      refine ⟨fun _ => ⟨fun _ => ⟨⟨by omega, hx⟩, ⟨by omega, intC_get h2⟩, fun h => absurd trivial h, fun h => by omega, fun _ => ⟨by omega, hI⟩⟩, fun h => by omega⟩, fun h => by omega⟩
    · have hlen : i - l.length < mk1.length := by rw [show mk1.length = 12 from rfl]; omega
      have e : (l ++ mk1)[i] = 8000024 + ((i : Int) - l.length) := by
        rw [List.getElem_append_right (by omega)]
        simp [mk1]
        omega
      refine At.tree (ctr_ok (asmP_ok (.int .i64 (8000024 + ((i : Int) - l.length)))) qnone_ok) (PKp2_eq _ X _ ext i (8000024 + ((i : Int) - l.length)) 0 (8000024 + ((i : Int) - l.length))) ?_
      unfold PKp2
      have hx := intC_get (k := .i64) h1
      rw [e] at hx
      have hmk := mark_ok ((i : Int) - l.length) (by rw [show mk1.length = 12 from rfl] at hlen; omega)
      simp only [ok_br, ok_owe, ok_ret, ok_jmp, decide_eq_true_eq, decide_eq_false_iff_not, Int.toNat_natCast, true_and, and_true, Bool.not_eq_true', Bool.not_eq_false', List.drop_zero, List.take_length, D.bool.injEq, D.int.injEq, D.str.injEq, true_implies, Int.le_refl, hA, intC_len]
      refine ⟨fun _ => ⟨fun h => by omega, fun _ => ⟨fun _ => ⟨⟨by omega, hx⟩, by omega, hmk, fun h => absurd trivial h, by omega, hI⟩, fun h => by omega⟩⟩, fun h => by omega⟩
theorem allLen_int (k : IntKind) (l : List Int) : allLen 1 (intC k l) := by
  unfold intC
  exact allLen_map (sz := 1) (f := fun n => [D.int k n]) (fun _ => rfl) l
theorem kept_ok (l : List Int) (ext : List (List D)) (hl : l.length ≤ 1000000) : FnOK Tryz.prog 12 [.slice (intC .i64 l) (intC .i64 mk1), .slice (intC .i64 l) ext] (.bool true) := by
  refine FnOK.tree hdraw fp12 (ctr_ok libT_ok qnone_ok) (PKp_eq _ _ _ ext (intC .i64 (l ++ mk1)) []) ?_
  unfold PKp
  have hA : (intC .i64 l ++ intC .i64 mk1) = intC .i64 (l ++ mk1) := by simp [intC]
  have hlen : (intC .i64 (l ++ mk1)).length = l.length + 12 := by rw [intC_len, List.length_append]; rfl
  have ht : ((l.length : Int) + 12).toNat = l.length + 12 := by omega
  simp only [ok_br, ok_owe, ok_ret, ok_jmp, decide_eq_true_eq, decide_eq_false_iff_not, Int.toNat_natCast, true_and, and_true, Bool.not_eq_true', Bool.not_eq_false', List.drop_zero, List.take_length, D.bool.injEq, D.int.injEq, D.str.injEq, true_implies, Int.le_refl, hA, hlen, intC_len, ht]
  refine ⟨fun h => absurd trivial h, by omega, ⟨allLen_int _ _, by omega, by omega⟩, ⟨?_, ?_⟩, ?_⟩
  · rw [← hlen, List.take_length]
  · rw [← hlen, List.drop_length]
  · exact kp_at l [] ext hl _ 0 rfl (Nat.zero_le _)
end Go.Proofs.YtfoklncmfoogcaaGreatDoor
