/- Sizes, has, SameTexts, proved. -/
import Derived.Test.YtiafmjolbacdaaaGreatSafK
set_option linter.unusedSectionVars false
set_option linter.unusedVariables false
set_option linter.unusedSimpArgs false
set_option linter.deprecated false
set_option maxRecDepth 100000
namespace Go.Proofs.YtiafmjolbacdaaaGreat
open Go.Sx Go.RowKit
theorem cellsL_get {l : List Tm} {i : Nat} (h : i < l.length) : (Tm.cellsL l)[i]? = some l[i].cells := by rw [cellsL_map]; simp [h]
theorem wf_get {B : Nat} {l : List Tm} (h : Tm.wfL B l) {t : Tm} (ht : t ∈ l) : t.wf B := wfL_all.1 h t ht
def SzP (x : Tm) : Prop := ∀ m : Int, 0 ≤ m → m ≤ 1000000 → FnOK Tryz.prog 23 [.agg x.cells, .int .i64 m] (.int .i64 (x.sz m))
theorem szs_at (l : List Tm) (hl : l.length ≤ 281474976710656) (H : ∀ x ∈ l, SzP x) (M : Int) (hM : -1 ≤ M ∧ M ≤ 1000000) : ∀ (m i : Nat) (n : Int), l.length - i = m → i ≤ l.length → 0 ≤ n → n ≤ M + 1 →
    At Tryz.prog 0 (cut sc28 0) (hdSz (Tm.cellsL l) M n i) (FinQ true 0 rs28 fun r _ => r = .int .i64 (Tm.szL (l.drop i) M n)) := by
  intro m
  induction m with
  | zero =>
    intro i n hm hi hn hn2
    refine At.tree (ctr_ok (asmP_ok (.int .i64 0)) qnone_ok) (PSzs2_eq (Tm.cellsL l) M n i 0 0 [] [] 0) ?_
    unfold PSzs2
    rw [List.drop_eq_nil_of_le (show l.length ≤ i by omega)]
    simp only [ok_br, ok_owe, ok_ret, ok_jmp, decide_eq_true_eq, decide_eq_false_iff_not, Int.toNat_natCast, true_and, and_true, Bool.not_eq_true', Bool.not_eq_false', List.drop_zero, List.take_length, D.bool.injEq, D.int.injEq, D.str.injEq, true_implies, Int.le_refl, cellsL_length]
    exact ⟨fun h => by omega, fun _ => rfl⟩
  | succ m ih =>
    intro i n hm hi hn hn2
    have h1 : i < l.length := by omega
    have hx := cellsL_get h1
    have hC := H _ (List.getElem_mem h1)
    rw [drop_cons h1]
    simp only [Tm.szL]
    by_cases hnm : n ≤ M
    · rw [if_pos hnm]
      have hC2 := hC (M - n) (by omega) (by omega)
      have hge := sz_ge l[i] (M - n)
      have hle := sz_le l[i] (M - n) (by omega)
      have hI := ih (i + 1) (n + Tm.sz l[i] (M - n)) (by omega) (by omega) (by omega) (by omega)
      generalize Tm.sz l[i] (M - n) = c at hC2 hI hge hle ⊢
      generalize l[i] = x at hx hC2
      obtain ⟨kx, nx, sx, ax⟩ := x
      refine At.tree (ctr_ok (asmP_ok (.int .i64 c)) qnone_ok) (PSzs2_eq (Tm.cellsL l) M n i kx nx sx (Tm.cellsL ax) c) ?_
      unfold PSzs2
      simp only [ok_br, ok_owe, ok_ret, ok_jmp, decide_eq_true_eq, decide_eq_false_iff_not, Int.toNat_natCast, true_and, and_true, Bool.not_eq_true', Bool.not_eq_false', List.drop_zero, List.take_length, D.bool.injEq, D.int.injEq, D.str.injEq, true_implies, Int.le_refl, cellsL_length]
      exact ⟨fun _ => ⟨fun _ => ⟨⟨by omega, hx⟩, by omega, hC2, by omega, by omega, hI⟩, fun h => by omega⟩, fun h => by omega⟩
    · rw [if_neg hnm]
      refine At.tree (ctr_ok (asmP_ok (.int .i64 0)) qnone_ok) (PSzs2_eq (Tm.cellsL l) M n i 0 0 [] [] 0) ?_
      unfold PSzs2
      simp only [ok_br, ok_owe, ok_ret, ok_jmp, decide_eq_true_eq, decide_eq_false_iff_not, Int.toNat_natCast, true_and, and_true, Bool.not_eq_true', Bool.not_eq_false', List.drop_zero, List.take_length, D.bool.injEq, D.int.injEq, D.str.injEq, true_implies, Int.le_refl, cellsL_length]
      exact ⟨fun _ => ⟨fun h => by omega, fun _ => trivial⟩, fun h => by omega⟩
theorem szs_ok (l : List Tm) (hl : l.length ≤ 281474976710656) (H : ∀ x ∈ l, SzP x) (M : Int) (hM : -1 ≤ M ∧ M ≤ 1000000) : FnOK Tryz.prog 28 [.slice (Tm.cellsL l) [], .int .i64 M] (.int .i64 (Tm.szL l M 0)) :=
  FnOK.tree hdraw fp28 (ctr_ok libT_ok qnone_ok) (PSzs_eq (Tm.cellsL l) M) (szs_at l hl H M hM _ 0 0 rfl (Nat.zero_le _) (by omega) (by omega))
theorem sz_ok : ∀ (x : Tm), x.wf 281474976710656 → SzP x
  | .mk k n s l, hx => by
    simp only [Tm.wf] at hx
    obtain ⟨hk, hn1, hn2, hs, hl, hw⟩ := hx
    intro m h0 h1
    have hC := szs_ok l hl (fun x hx => sz_ok x (wf_get hw hx)) (m - 1) (by omega)
    have hge := szL_ge l (m - 1) 0
    have hle := szL_le l (m - 1) 0 (by omega)
    refine FnOK.tree hdraw fp23 (ctr_ok (asmP_ok (.int .i64 (Tm.szL l (m - 1) 0))) qnone_ok) (PSz_eq k n s (Tm.cellsL l) m (Tm.szL l (m - 1) 0)) ?_
    unfold PSz
    simp only [ok_br, ok_owe, ok_ret, ok_jmp, decide_eq_true_eq, decide_eq_false_iff_not, Int.toNat_natCast, true_and, and_true, Bool.not_eq_true', Bool.not_eq_false', List.drop_zero, List.take_length, D.bool.injEq, D.int.injEq, D.str.injEq, true_implies, Int.le_refl]
    exact ⟨by omega, hC, by omega, rfl⟩
termination_by x => SizeOf.sizeOf x
decreasing_by
  have := List.sizeOf_lt_of_mem hx
  simp only [Tm.mk.sizeOf_spec]
  omega
theorem sza_ok (p : Nm) (l : List Tm) (hl : l.length ≤ 281474976710656) (hw : Tm.wfL 281474976710656 l) (m : Int) (h0 : 0 ≤ m) (h1 : m ≤ 1000000) : FnOK Tryz.prog 22 [.agg [.str p, .slice (Tm.cellsL l) []], .int .i64 m] (.int .i64 (1 + Tm.szL l (m - 1) 0)) := by
  have hC := szs_ok l hl (fun x hx => sz_ok x (wf_get hw hx)) (m - 1) (by omega)
  have hge := szL_ge l (m - 1) 0
  have hle := szL_le l (m - 1) 0 (by omega)
  refine FnOK.tree hdraw fp22 (ctr_ok (asmP_ok (.int .i64 (Tm.szL l (m - 1) 0))) qnone_ok) (PSa_eq p (Tm.cellsL l) m (Tm.szL l (m - 1) 0)) ?_
  unfold PSa
  simp only [ok_br, ok_owe, ok_ret, ok_jmp, decide_eq_true_eq, decide_eq_false_iff_not, Int.toNat_natCast, true_and, and_true, Bool.not_eq_true', Bool.not_eq_false', List.drop_zero, List.take_length, D.bool.injEq, D.int.injEq, D.str.injEq, true_implies, Int.le_refl]
  exact ⟨by omega, hC, by omega⟩
theorem szl_at (l : List Lt) (ext : List (List D)) (hl : l.length ≤ 281474976710656) (H : ∀ x ∈ l, x.wf 281474976710656) (M : Int) (hM : 0 ≤ M ∧ M ≤ 1000000) : ∀ (m i : Nat) (n : Int), l.length - i = m → i ≤ l.length → 0 ≤ n → n ≤ 4 * M + 100 →
    At Tryz.prog 0 (cut sc8 0) (hdSl (ltL l) ext M n i) (FinQ true 0 rs8 fun r _ => r = .int .i64 (szLts (l.drop i) M n)) := by
  intro m
  induction m with
  | zero =>
    intro i n hm hi hn hn2
    refine At.tree (dCtr_ok qnone_ok) (PSl2_eq (ltL l) ext M n i 0 true [] [] 0 0 0 [] [] 0 0 [] [] 0 0 0) ?_
    unfold PSl2
    rw [List.drop_eq_nil_of_le (show l.length ≤ i by omega)]
    simp only [ok_br, ok_owe, ok_ret, ok_jmp, decide_eq_true_eq, decide_eq_false_iff_not, Int.toNat_natCast, true_and, and_true, Bool.not_eq_true', Bool.not_eq_false', List.drop_zero, List.take_length, D.bool.injEq, D.int.injEq, D.str.injEq, true_implies, Int.le_refl, ltL_len]
    exact ⟨fun h => by omega, fun _ => rfl⟩
  | succ m ih =>
    intro i n hm hi hn hn2
    have h1 : i < l.length := by omega
    have hx := ltL_get h1
    have hC := H _ (List.getElem_mem h1)
    rw [drop_cons h1]
    simp only [szLts]
    by_cases hnm : n ≤ M
    · rw [if_pos hnm]
      obtain ⟨_, _, wl, wa, _, w1, w2⟩ := hC
      have hA := sza_ok l[i].p l[i].a wl wa (M - n) (by omega) (by omega)
      have hB := sz_ok l[i].l w1 (M - n) (by omega) (by omega)
      have hD := sz_ok l[i].r w2 (M - n) (by omega) (by omega)
      have a1 := szL_ge l[i].a (M - n - 1) 0
      have a2 := szL_le l[i].a (M - n - 1) 0 (by omega)
      have b1 := sz_ge l[i].l (M - n)
      have b2 := sz_le l[i].l (M - n) (by omega)
      have d1 := sz_ge l[i].r (M - n)
      have d2 := sz_le l[i].r (M - n) (by omega)
      have e : szLt l[i] (M - n) = 1 + (1 + Tm.szL l[i].a (M - n - 1) 0) + l[i].l.sz (M - n) + l[i].r.sz (M - n) := rfl
      have hI := ih (i + 1) (n + szLt l[i] (M - n)) (by omega) (by omega) (by omega) (by omega)
      rw [e] at hI ⊢
      generalize Tm.szL l[i].a (M - n - 1) 0 = c1 at hA hI a1 a2 ⊢
      generalize Tm.sz l[i].l (M - n) = c2 at hB hI b1 b2 ⊢
      generalize Tm.sz l[i].r (M - n) = c3 at hD hI d1 d2 ⊢
      generalize l[i] = x at hx hA hB hD
      obtain ⟨k, no, p, a, op, ⟨kx, nx, sx, ax⟩, ⟨ky, ny, sy, ay⟩⟩ := x
      refine At.tree (dCtr_ok qnone_ok) (PSl2_eq (ltL l) ext M n i k no p (Tm.cellsL a) op kx nx sx (Tm.cellsL ax) ky ny sy (Tm.cellsL ay) (1 + c1) c2 c3) ?_
      unfold PSl2
      simp only [ok_br, ok_owe, ok_ret, ok_jmp, decide_eq_true_eq, decide_eq_false_iff_not, Int.toNat_natCast, true_and, and_true, Bool.not_eq_true', Bool.not_eq_false', List.drop_zero, List.take_length, D.bool.injEq, D.int.injEq, D.str.injEq, true_implies, Int.le_refl, ltL_len]
      exact ⟨fun _ => ⟨fun _ => ⟨⟨by omega, hx⟩, by omega, hA, by omega, ⟨by omega, hx⟩, by omega, hB, by omega, ⟨by omega, hx⟩, by omega, hD, by omega, by omega, by omega, hI⟩, fun h => by omega⟩, fun h => by omega⟩
    · rw [if_neg hnm]
      refine At.tree (dCtr_ok qnone_ok) (PSl2_eq (ltL l) ext M n i 0 true [] [] 0 0 0 [] [] 0 0 [] [] 0 0 0) ?_
      unfold PSl2
      simp only [ok_br, ok_owe, ok_ret, ok_jmp, decide_eq_true_eq, decide_eq_false_iff_not, Int.toNat_natCast, true_and, and_true, Bool.not_eq_true', Bool.not_eq_false', List.drop_zero, List.take_length, D.bool.injEq, D.int.injEq, D.str.injEq, true_implies, Int.le_refl, ltL_len]
      exact ⟨fun _ => ⟨fun h => by omega, fun _ => trivial⟩, fun h => by omega⟩
theorem szl_ok (l : List Lt) (ext : List (List D)) (hl : l.length ≤ 281474976710656) (H : ∀ x ∈ l, x.wf 281474976710656) (M : Int) (hM : 0 ≤ M ∧ M ≤ 1000000) : FnOK Tryz.prog 8 [.slice (ltL l) ext, .int .i64 M] (.int .i64 (szLts l M 0)) :=
  FnOK.tree hdraw fp8 (ctr_ok libT_ok qnone_ok) (PSl_eq (ltL l) ext M) (szl_at l ext hl H M hM _ 0 0 rfl (Nat.zero_le _) (by omega) (by omega))
theorem same_ok (l : List Nm) (hl : l.length ≤ 281474976710656) : FnOK Tryz.prog 11 [.slice (strC l) [], .slice (strC l) []] (.bool true) := by
  have at_ : ∀ (m i : Nat), l.length - i = m → i ≤ l.length → At Tryz.prog 0 (cut sc11 0) (hdSt (strC l) (strC l) i) (FinQ true 0 rs11 fun r _ => r = .bool true) := by
    intro m
    induction m with
    | zero =>
      intro i hm hi
      refine At.tree (dCtr_ok qnone_ok) (PSt2_eq (strC l) (strC l) i [] []) ?_
      unfold PSt2
      rw [ok_br, strC_len]
      refine ⟨fun h => ?_, fun _ => rfl⟩
      have := of_decide_eq_true h; omega
    | succ m ih =>
      intro i hm hi
      have h1 : i < l.length := by omega
      have hI := ih (i + 1) (by omega) (by omega)
      refine At.tree (dCtr_ok qnone_ok) (PSt2_eq (strC l) (strC l) i l[i] l[i]) ?_
      unfold PSt2
      rw [ok_br, strC_len]
      refine ⟨fun _ => ?_, fun h => ?_⟩
      · rw [ok_owe, ok_owe, ok_br, ok_owe, ok_jmp, Int.toNat_natCast]
        exact ⟨⟨by omega, strC_gt h1⟩, ⟨by omega, strC_gt h1⟩, fun h => by simp at h, fun _ => ⟨by omega, hI⟩⟩
      · have := of_decide_eq_false h; omega
  refine FnOK.tree hdraw fp11 (dCtr_ok qnone_ok) (PSt_eq (strC l) (strC l)) ?_
  unfold PSt
  rw [ok_br, ok_jmp]
  exact ⟨fun h => by simp at h, fun _ => at_ _ 0 rfl (Nat.zero_le _)⟩
end Go.Proofs.YtiafmjolbacdaaaGreat
