/- TermParts RETURNS true. -/
import Derived.Test.YtbcgpkgdbepfbaaGreatDoorPartsB
set_option linter.unusedSectionVars false
set_option linter.unusedVariables false
set_option linter.unusedSimpArgs false
set_option linter.deprecated false
set_option maxRecDepth 100000
namespace Go.Proofs.YtbcgpkgdbepfbaaGreatDoor
open Go.Sx
theorem has_ok (l : List (List UInt8)) (s : List UInt8) (hl : l.length ≤ 281474976710656) : FnOK Tryz.prog 26 [.slice (strC l) [], .str s] (.bool (decide (s ∈ l))) := by
  have at_ : ∀ (m i : Nat), l.length - i = m → i ≤ l.length → At Tryz.prog 0 (cut sc26 0) (hdHas (strC l) s i) (FinQ true 0 rs26 fun r _ => r = .bool (decide (s ∈ l.drop i))) := by
    intro m
    induction m with
    | zero =>
      intro i hm hi
      refine At.tree (dCtr_ok qnone_ok) (PHas2_eq (strC l) s i []) ?_
      unfold PHas2
      rw [List.drop_eq_nil_of_le (by omega), ok_br, strC_len]
      refine ⟨fun h => ?_, fun _ => ?_⟩
      · have := of_decide_eq_true h; omega
      · rw [ok_ret]; simp
    | succ m ih =>
      intro i hm hi
      have h1 : i < l.length := by omega
      have hI := ih (i + 1) (by omega) (by omega)
      have hd : l.drop i = l[i] :: l.drop (i + 1) := List.drop_eq_getElem_cons h1
      have hg : l.getD i [] = l[i] := by simp [List.getD, h1]
      refine At.tree (dCtr_ok qnone_ok) (PHas2_eq (strC l) s i l[i]) ?_
      unfold PHas2
      rw [hd, ok_br, strC_len]
      refine ⟨fun _ => ?_, fun h => ?_⟩
      · rw [ok_owe, ok_br, ok_ret, ok_owe, ok_jmp, Int.toNat_natCast, strC_get h1, hg]
        refine ⟨⟨by omega, rfl⟩, fun h => ?_, fun h => ⟨by omega, ?_⟩⟩
        · have h := of_decide_eq_true h
          rw [decide_eq_true (by rw [h]; exact List.mem_cons_self ..)]
        · have h := of_decide_eq_false h
          have e : decide (s ∈ l[i] :: l.drop (i + 1)) = decide (s ∈ l.drop (i + 1)) := by
            rw [Bool.eq_iff_iff, decide_eq_true_eq, decide_eq_true_eq, List.mem_cons]
            exact ⟨fun h2 => h2.resolve_left fun e => h e.symm, .inr⟩
          rw [e]
          exact hI
      · have := of_decide_eq_false h; omega
  refine FnOK.tree hdraw fp26 (dCtr_ok qnone_ok) (PHas_eq (strC l) s) ?_
  unfold PHas
  rw [ok_jmp]
  have := at_ _ 0 rfl (Nat.zero_le _)
  rw [List.drop_zero] at this
  exact this
theorem value1_ok (x : Tm) (hx : x.wf 281474976710656) : CallL Tryz.prog (.func (.func 57) [] []) [.agg x.cells] [] fun r ob => r = .bool x.plain ∧ ob = [] := by
  obtain ⟨k, n, s, l⟩ := x
  refine CallL.tree hdraw fp57 (dCtr_ok qnone_ok) (CVal1_eq k n s (Tm.cellsL l)) ?_
  unfold CVal1
  have e1 : decide ((k : Int) = 1) = decide (k = 1) := by rw [Bool.eq_iff_iff]; simp; omega
  have e2 : decide ((k : Int) = 2) = decide (k = 2) := by rw [Bool.eq_iff_iff]; simp; omega
  have e4 : decide ((k : Int) = 4) = decide (k = 4) := by rw [Bool.eq_iff_iff]; simp; omega
  simp only [ok_br, ok_ret, Tm.plain, e1, e2, e4]
  exact ⟨fun h => ⟨by rw [h]; rfl, by first | rfl | trivial⟩, fun h => ⟨fun h2 => ⟨by rw [h2, h]; rfl, by first | rfl | trivial⟩, fun h2 => ⟨by rw [h2, h]; rfl, by first | rfl | trivial⟩⟩⟩
theorem ground1_ok (x : Tm) (hx : x.wf 281474976710656) : CallL Tryz.prog (.func (.func 58) [] []) [.agg x.cells] [] fun r ob => r = .bool x.gr ∧ ob = [] := by
  obtain ⟨k, n, s, l⟩ := x
  refine CallL.tree hdraw fp58 (dCtr_ok qnone_ok) (CGr1_eq k n s (Tm.cellsL l)) ?_
  unfold CGr1
  have e1 : decide ((k : Int) = 3) = decide (k = 3) := by rw [Bool.eq_iff_iff]; simp; omega
  rw [ok_ret, e1]
  exact ⟨rfl, rfl⟩
theorem ground_ok (x : Tm) (hx : x.wf 281474976710656) : FnOK Tryz.prog 25 [.agg x.cells] (.bool (x.all Tm.gr)) := by
  have h2 := every_ok (h := Tm.gr) ground1_ok x hx
  generalize x.all Tm.gr = b at h2 ⊢
  obtain ⟨k, n, s, l⟩ := x
  refine FnOK.tree hdraw fp25 (dCtr_ok (asmK_ok (.bool b))) (PGr_eq k n s (Tm.cellsL l) b) ?_
  unfold PGr
  rw [ok_owe, ok_ret]
  exact ⟨h2, rfl⟩
theorem value_ok (x : Tm) (hx : x.wf 281474976710656) (hd : x.depth ≤ 1000000000) : FnOK Tryz.prog 24 [.agg x.cells] (.bool (x.all Tm.plain && x.valid)) := by
  have h1 := valid_ok x hx hd
  have h2 := every_ok (h := Tm.plain) value1_ok x hx
  generalize x.all Tm.plain = b at h2 ⊢
  generalize x.valid = v at h1 ⊢
  obtain ⟨k, n, s, l⟩ := x
  refine FnOK.tree hdraw fp24 (dCtr_ok (asmK_ok (.bool b))) (PVue_eq k n s (Tm.cellsL l) b v) ?_
  unfold PVue
  rw [ok_owe, ok_br, ok_owe, ok_ret, ok_ret]
  exact ⟨h2, fun h => ⟨h1, by rw [h, Bool.true_and]⟩, fun h => by rw [h, Bool.false_and]⟩
theorem vars_ok (x : Tm) (hx : x.wf 281474976710656) (hv : x.vs.length ≤ 1073741824) : FnOK Tryz.prog 23 [.agg x.cells] (.slice (strC x.V) []) := by
  have h := vars0_ok x hx hv
  by_cases he : x.vs = []
  · have hV := V_nil.2 he
    rw [hV]
    rw [he] at h
    exact h
  · have hV : x.V ≠ [] := fun e => he (V_nil.1 e)
    have e1 : x.vs.isEmpty = false := by
      cases hv : x.vs with
      | nil => exact absurd hv he
      | cons c r => rfl
    rw [e1] at h
    exact FnOK.freezeS h hV
/-- The last loop. -/
theorem hu_at (x : Tm) (v : List (List UInt8)) (hv : v.length ≤ 1073741824) (hl : x.V.length ≤ 1073741824) (H : ∀ s, s ∈ v → s ∈ x.V) : ∀ (m i : Nat), v.length - i = m → i ≤ v.length →
    At Tryz.prog 0 (cut sc5 2) (hdU (strC x.V) (strC v) i) (FinQ true 0 rs5 fun r _ => r = .bool true) := by
  intro m
  induction m with
  | zero =>
    intro i hm hi
    refine At.tree (dCtr_ok qnone_ok) (HU_eq (strC x.V) (strC v) i [] true) ?_
    unfold HU
    rw [ok_br, strC_len]
    refine ⟨fun h => ?_, fun _ => ?_⟩
    · have := of_decide_eq_true h; omega
    · rw [ok_ret]
  | succ m ih =>
    intro i hm hi
    have h1 : i < v.length := by omega
    have hI := ih (i + 1) (by omega) (by omega)
    have hg : v.getD i [] = v[i] := by simp [List.getD, h1]
    have hh := has_ok x.V v[i] (by omega)
    rw [decide_eq_true (H _ (List.getElem_mem h1))] at hh
    refine At.tree (dCtr_ok qnone_ok) (HU_eq (strC x.V) (strC v) i v[i] true) ?_
    unfold HU
    rw [ok_br, strC_len]
    refine ⟨fun _ => ?_, fun h => ?_⟩
    · rw [ok_owe, ok_owe, ok_br, ok_owe, ok_jmp, Int.toNat_natCast, strC_get h1, hg]
      exact ⟨⟨by omega, rfl⟩, hh, fun h => by simp at h, fun _ => ⟨by omega, hI⟩⟩
    · have := of_decide_eq_false h; omega
/-- The loop before it. -/
theorem hq_at (x : Tm) (v : List (List UInt8)) (hv : v.length ≤ 1073741824) (hl : x.V.length ≤ 1073741824) (H : ∀ s, s ∈ v ↔ s ∈ x.V) : ∀ (m i : Nat), x.V.length - i = m → i ≤ x.V.length →
    At Tryz.prog 0 (cut sc5 1) (hdQ (strC x.V) (strC v) i) (FinQ true 0 rs5 fun r _ => r = .bool true) := by
  intro m
  induction m with
  | zero =>
    intro i hm hi
    have hU := hu_at x v hv hl (fun s hs => (H s).1 hs) _ 0 rfl (Nat.zero_le _)
    refine At.tree (dCtr_ok qnone_ok) (HQ_eq (strC x.V) (strC v) i [] [] true) ?_
    unfold HQ
    rw [ok_br, strC_len]
    refine ⟨fun h => ?_, fun _ => ?_⟩
    · have := of_decide_eq_true h; omega
    · rw [ok_jmp]; exact hU
  | succ m ih =>
    intro i hm hi
    have h1 : i < x.V.length := by omega
    have hI := ih (i + 1) (by omega) (by omega)
    have hg : x.V.getD i [] = x.V[i] := by simp [List.getD, h1]
    have hh := has_ok v x.V[i] (by omega)
    rw [decide_eq_true ((H _).2 (List.getElem_mem h1))] at hh
    have hst := fun j => @V_step x j
    refine At.tree (dCtr_ok qnone_ok) (HQ_eq (strC x.V) (strC v) i x.V[i] (x.V.getD (i - 1) []) true) ?_
    unfold HQ
    rw [ok_br, strC_len]
    refine ⟨fun _ => ?_, fun h => ?_⟩
    · simp only [ok_br, ok_owe, ok_ret, ok_jmp]
      rw [Int.toNat_natCast, strC_get h1, hg]
      refine ⟨fun hp => ?_, fun _ => ⟨⟨by omega, rfl⟩, hh, fun h => by simp at h, fun _ => ⟨by omega, hI⟩⟩⟩
      have hp := of_decide_eq_true hp
      obtain ⟨j, rfl⟩ : ∃ j, i = j + 1 := ⟨i - 1, by omega⟩
      have e1 : (((j + 1 : Nat) : Int) - 1).toNat = j := by omega
      have h2 : j < x.V.length := by omega
      have hs := hst j h1
      have hg2 : x.V.getD j [] = x.V[j] := by simp [List.getD, h2]
      rw [e1, strC_get h2]
      simp only [Nat.add_sub_cancel]
      rw [hg2, hs]
      exact ⟨⟨by omega, trivial⟩, by omega, ⟨by omega, trivial⟩, fun h => by simp at h, fun _ => ⟨⟨by omega, trivial⟩, hh, fun h => by simp at h, fun _ => ⟨by omega, hI⟩⟩⟩
    · have := of_decide_eq_false h; omega
end Go.Proofs.YtbcgpkgdbepfbaaGreatDoor
