/- has, knows, equation, outer, step. -/
import Derived.Test.YtiafmjolbacdaaaGreatSafC
set_option linter.unusedSectionVars false
set_option linter.unusedVariables false
set_option linter.unusedSimpArgs false
set_option linter.deprecated false
set_option maxRecDepth 100000
namespace Go.Proofs.YtiafmjolbacdaaaGreat
open Go.Sx Go.RowKit
theorem look_ok (S : List Nm) (x : Nm) : extD (.look2 none (.agg [])) [.map 0, .str x] (lk [(0, setO S)]) = some (.tuple [.agg [], .bool (decide (x ∈ S))]) := by
  have h := mfind_str x S
  simp only [extD, lk, if_true, unpk, isKD, h]
  by_cases hx : x ∈ S <;> simp [hx]
theorem has_ok (S : List Nm) (x : Nm) : CallL Tryz.prog (.func (.func 61) [] []) [.map 0, .str x] [(0, setO S)] fun r ob => r = .bool (decide (x ∈ S)) ∧ ob = [(0, setO S)] := by
  have h := look_ok S x
  by_cases hx : x ∈ S
  · rw [show decide (x ∈ S) = true from decide_eq_true hx] at h ⊢
    refine CallL.tree hdraw fp61 (ctr_ok libT_ok qnone_ok) (CHsT_eq (kS S) (uS S) x) ?_
    unfold CHsT
    rw [ok_owe]
    exact ⟨h, rfl, rfl⟩
  · rw [show decide (x ∈ S) = false from decide_eq_false hx] at h ⊢
    refine CallL.tree hdraw fp61 (ctr_ok libT_ok qnone_ok) (CHsF_eq (kS S) (uS S) x) ?_
    unfold CHsF
    rw [ok_owe]
    exact ⟨h, rfl, rfl⟩
def idxW (p : Nm → Bool) : List Nm → Int → Int
  | [], _ => -1
  | a :: r, i => if p a = true then i else idxW p r (i + 1)
theorem idxW_ge (p : Nm → Bool) : ∀ (l : List Nm) (i : Int), 0 ≤ i → decide (0 ≤ idxW p l i) = l.any p
  | [], i, _ => by simp [idxW]
  | a :: r, i, h => by
    unfold idxW
    by_cases hp : p a = true
    · simp [hp, h]
    · rw [if_neg hp, idxW_ge p r (i + 1) (by omega)]
      simp [hp]
theorem k1_ok (S : List Nm) (x : Nm) : CallL Tryz.prog (.func (.func fK) [] [.ptr 0 0]) [.str x] (obK (kS S) (uS S)) fun r ob => r = .bool (!decide (x ∈ S)) ∧ ob = obK (kS S) (uS S) := by
  refine CallL.tree hdraw fp121 (ctr_ok libT_ok (asmA_ok _ _)) (CK1_eq (kS S) (uS S) x (decide (x ∈ S))) ?_
  unfold CK1
  rw [ok_owe]
  exact ⟨has_ok S x, rfl, rfl⟩
theorem ix_at (S V : List Nm) (hV : V.length ≤ 1073741824) : ∀ (m i : Nat), V.length - i = m → i ≤ V.length →
    At Tryz.prog 2 (cut sc136 0) (hdIx (strC V) V.length i (obK (kS S) (uS S))) (FinQ false 2 rs136 fun r ob => r = .int .i64 (idxW (fun x => !decide (x ∈ S)) (V.drop i) i) ∧ ob = obK (kS S) (uS S)) := by
  intro m
  induction m with
  | zero =>
    intro i hm hi
    refine At.tree (ctr_ok libT_ok (asmA_ok _ _)) (CIx2_eq (kS S) (uS S) (strC V) V.length i [] true) ?_
    unfold CIx2
    rw [List.drop_eq_nil_of_le (by omega : V.length ≤ i), ok_br]
    refine ⟨fun h => ?_, fun _ => ⟨rfl, rfl⟩⟩
    have := of_decide_eq_true h
    omega
  | succ m ih =>
    intro i hm hi
    have h1 : i < V.length := by omega
    have hI := ih (i + 1) (by omega) (by omega)
    rw [drop_cons h1]
    refine At.tree (ctr_ok libT_ok (asmA_ok _ _)) (CIx2_eq (kS S) (uS S) (strC V) V.length i V[i] (!decide (V[i] ∈ S))) ?_
    unfold CIx2
    rw [ok_br]
    refine ⟨fun _ => ?_, fun h => ?_⟩
    · rw [ok_owe, Int.toNat_natCast, ok_owe, ok_br]
      refine ⟨⟨by omega, strC_gt h1⟩, k1_ok S V[i], fun h => ?_, fun h => ?_⟩
      · rw [ok_ret]
        unfold idxW
        rw [if_pos h]
        exact ⟨rfl, rfl⟩
      · rw [ok_owe, ok_jmp]
        refine ⟨by omega, ?_⟩
        unfold idxW
        rw [if_neg (by rw [h]; decide)]
        exact hI
    · have := of_decide_eq_false h; omega
theorem ct_ok (S V : List Nm) (hV : V.length ≤ 1073741824) : CallL Tryz.prog (.func (.func 120) [] []) [.slice (strC V) [], .func (.func fK) [] [.ptr 0 0]] (obK (kS S) (uS S)) fun r ob => r = .bool (V.any fun x => !decide (x ∈ S)) ∧ ob = obK (kS S) (uS S) := by
  refine CallL.tree hdraw fp120 (ctr_ok libT_ok (asmA_ok _ _)) (CCt_eq (kS S) (uS S) (strC V) (idxW (fun x => !decide (x ∈ S)) V 0)) ?_
  unfold CCt
  rw [ok_owe, ok_ret, idxW_ge _ _ _ (by decide)]
  refine ⟨?_, rfl, rfl⟩
  refine CallL.tree hdraw fp136 (ctr_ok libT_ok qnone_ok) (CIx_eq (kS S) (uS S) (strC V)) ?_
  unfold CIx
  rw [ok_jmp, strC_len]
  exact ix_at S V hV _ 0 rfl (Nat.zero_le _)
def okt (x : Tm) : Prop := x.wf 281474976710656 ∧ x.vs.length ≤ 1073741824
theorem knows_ok (S : List Nm) (t : Tm) (ht : okt t) : CallL Tryz.prog (.func (.func 99) [] []) [.agg [.map 0], .agg t.cells] [(0, setO S)] fun r ob => r = .bool (knowsS S t) ∧ ob = [(0, setO S)] := by
  have hv := vars_ok t ht.1 ht.2
  have hl := W_len t
  have hl2 := ht.2
  have e : knowsS S t = !(t.W.any fun x => !decide (x ∈ S)) := by unfold knowsS; rw [List.all_eq_not_any_not]
  have hc := ct_ok S t.W (by omega)
  rw [e]
  generalize Tm.W t = V at hv hc ⊢
  obtain ⟨k, n, s, a⟩ := t
  refine CallL.tree hdraw fp99 (ctr_ok (asmP_ok _) (asmA_ok _ _)) (CKn_eq (kS S) (uS S) k n s (Tm.cellsL a) (strC V) (V.any fun x => !decide (x ∈ S))) ?_
  unfold CKn
  rw [ok_owe, ok_owe, ok_ret]
  exact ⟨hv, hc, rfl, rfl⟩
theorem equation_ok (S : List Nm) (x t : Tm) (ht : okt t) : CallL Tryz.prog (.func (.func 73) [] []) [.agg [.map 0], .agg x.cells, .agg t.cells] [(0, setO S)] fun r ob => r = .tuple [] ∧ ob = [(0, setO (eqS S x t))] := by
  have hk := knows_ok S t ht
  have he : eqS S x t = if x.kd = 3 ∧ knowsS S t = true then insS S x.nm else S := rfl
  rw [he]
  generalize knowsS S t = b at hk ⊢
  obtain ⟨kx, nx, sx, ax⟩ := x
  have ha := addV_ok [sx] (by simp) S
  obtain ⟨k, n, s, a⟩ := t
  refine CallL.tree hdraw fp73 (ctr_ok libT_ok (QT.or_ok (QT.or_ok (onF_ok (asmA_ok _ _)) valQ_ok) (onF_ok (asmA_ok _ _)))) (CEq_eq (kS S) (uS S) (kS (insS S sx)) (uS (insS S sx)) kx nx sx (Tm.cellsL ax) k n s (Tm.cellsL a) b) ?_
  unfold CEq
  rw [ok_br]
  refine ⟨fun h => ?_, fun h => ?_⟩
  · have h3 : kx = 3 := by have := of_decide_eq_true h; omega
    rw [ok_owe, ok_br]
    refine ⟨hk, fun hb => ?_, fun hb => ?_⟩
    · rw [ok_owe, ok_owe, ok_ret, if_pos ⟨h3, hb⟩]
      exact ⟨trivial, ha, rfl, rfl⟩
    · rw [ok_ret, if_neg (fun h => by rw [hb] at h; exact absurd h.2 (by decide))]
      exact ⟨rfl, rfl⟩
  · have h3 : kx ≠ 3 := by have := of_decide_eq_false h; omega
    rw [ok_ret, if_neg (fun h => h3 h.1)]
    exact ⟨rfl, rfl⟩
theorem FnOK.freezeE {f : FuncId} {args : List D} {ty : TypeId} (h : FnOK Tryz.prog f args (.own 1 ty [])) : FnOK Tryz.prog f args (.slice [] []) := by
  intro φ hh w vs h1 h2 h3 h4 h5
  refine (h φ hh w vs h1 h2 h3 h4 h5).mono ?_
  rintro e w' ⟨v, φ', rfl, hR, rest⟩
  refine ⟨v, φ', rfl, ?_, rest⟩
  obtain ⟨_, _, xs, hown, _⟩ := hR
  intro h'
  rcases hown.2 with ⟨rfl, _⟩ | ⟨g, cap, cur, rfl, _⟩
  · exact .pure .nil
  · exact .pure (.nilA _ _)
theorem FnOK.freezeT {f : FuncId} {args : List D} {ty : TypeId} {l : List Nm} (h : FnOK Tryz.prog f args (.own 1 ty (strC l))) : FnOK Tryz.prog f args (.slice (strC l) []) := by
  cases l with
  | nil => exact FnOK.freezeE h
  | cons a r => exact h.freezeS (by simp)
theorem alS (l : List Nm) : allLen 1 (strC l) := by
  intro q hq
  obtain ⟨t, _, rfl⟩ := List.mem_map.1 hq
  rfl
theorem ovL_app (a b : List Tm) : Tm.ovL (a ++ b) = Tm.ovL a ++ Tm.ovL b := by
  induction a with
  | nil => rfl
  | cons x r ih => simp only [List.cons_append, Tm.ovL, ih, List.append_assoc]
theorem outer_at (l : List Tm) (hl : l.length ≤ 281474976710656) (hv : (Tm.ovL l).length ≤ 1073741824) (H : ∀ k n s a, Tm.mk k n s a ∈ l → k ≠ 5 → k ≠ 6 → FnOK Tryz.prog 72 [.slice (Tm.cellsL a) []] (.slice (strC (Tm.ovL a)) [])) : ∀ (m i : Nat), l.length - i = m → i ≤ l.length →
    At Tryz.prog 0 (cut sc72 0) (hdOu (Tm.cellsL l) [] (strC (Tm.ovL (l.take i))) l.length i) (FinQ true 0 rs72 fun r _ => r = .own 1 9 (strC (Tm.ovL l))) := by
  intro m
  induction m with
  | zero =>
    intro i hm hi
    refine At.tree (ctr_ok (asmP_ok _) qnone_ok) (POu2_eq (Tm.cellsL l) [] (strC (Tm.ovL (l.take i))) [] l.length i 0 0 [] []) ?_
    unfold POu2
    rw [List.take_of_length_le (by omega : l.length ≤ i), ok_br]
    refine ⟨fun h => ?_, fun _ => rfl⟩
    have := of_decide_eq_true h
    omega
  | succ m ih =>
    intro i hm hi
    have h1 : i < l.length := by omega
    have hx : (Tm.cellsL l)[i]? = some l[i].cells := by rw [cellsL_map]; simp [h1]
    have hI := ih (i + 1) (by omega) (by omega)
    have hm : l[i] ∈ l := List.getElem_mem h1
    have hlen : (Tm.ovL (l.take (i + 1))).length ≤ 1073741824 := by
      have e : Tm.ovL l = Tm.ovL (l.take (i + 1)) ++ Tm.ovL (l.drop (i + 1)) := by rw [← ovL_app, List.take_append_drop]
      rw [e, List.length_append] at hv
      omega
    have ht : Tm.ovL (l.take (i + 1)) = Tm.ovL (l.take i) ++ l[i].ov := by
      rw [List.take_add_one, List.getElem?_eq_getElem h1, ovL_app]
      simp [Tm.ovL]
    rw [ht] at hI hlen
    generalize l[i] = x at hx hm hI hlen
    generalize Tm.ovL (l.take i) = R at hI hlen ⊢
    obtain ⟨k, n, s, a⟩ := x
    have hH := H k n s a hm
    simp only [Tm.ov, List.length_append] at hI hlen
    refine At.tree (ctr_ok (asmP_ok _) qnone_ok) (POu2_eq (Tm.cellsL l) [] (strC R) (strC (Tm.ovL a)) l.length i k n s (Tm.cellsL a)) ?_
    unfold POu2
    simp only [ok_br, ok_owe, ok_ret, ok_jmp, decide_eq_true_eq, decide_eq_false_iff_not, Int.toNat_natCast, true_and, and_true, Bool.not_eq_true', Bool.not_eq_false', List.drop_zero, List.take_length, D.bool.injEq, D.int.injEq, D.str.injEq, true_implies, Int.le_refl, strC_len]
    refine ⟨fun _ => ⟨⟨by omega, hx⟩, ?_⟩, fun h => by omega⟩
    have q1 : ∀ P : Prop, (k : Int) = 5 → k = 5 := fun _ h => by omega
    by_cases h5 : k = 5 ∨ k = 6
    · rw [if_pos h5, List.append_nil] at hI
      exact ⟨fun g5 => ⟨fun _ => ⟨by omega, hI⟩, fun g => absurd g5 g⟩, fun g5 => ⟨fun g6 => ⟨by omega, hI⟩, fun g6 => by omega⟩⟩
    · have hno5 : k ≠ 5 := fun e => h5 (.inl e)
      have hno6 : k ≠ 6 := fun e => h5 (.inr e)
      have hH2 := hH hno5 hno6
      rw [if_neg h5] at hI hlen
      have g5 : ¬ (k : Int) = 5 := by omega
      have g6 : ¬ (k : Int) = 6 := by omega
      simp only [g5, g6, false_implies, not_false_eq_true, true_implies, true_and]
      have al := alS (Tm.ovL a)
      have al1 : allLen 1 [[D.str s]] := alS [s]
      by_cases h3 : k = 3
      · subst h3
        rw [if_pos rfl] at hI hlen
        simp only [List.length_cons] at hlen
        rw [show strC (R ++ s :: Tm.ovL a) = strC R ++ [[D.str s]] ++ strC (Tm.ovL a) by simp [strC]] at hI
        refine ⟨fun _ => ?_, fun h => absurd rfl h⟩
        simp only [List.length_append, strC_len, List.length_cons, List.length_nil]
        exact ⟨⟨al1, by omega⟩, hH2, ⟨al, by omega⟩, by omega, hI⟩
      · rw [if_neg h3] at hI hlen
        rw [strC_app] at hI
        have g3 : ¬ (k : Int) = 3 := by omega
        refine ⟨fun h => absurd h g3, fun _ => ?_⟩
        exact ⟨hH2, ⟨al, by omega⟩, by omega, hI⟩
theorem outer_ok : ∀ l : List Tm, l.length ≤ 281474976710656 → Tm.wfL 281474976710656 l → (Tm.vsL l).length ≤ 1073741824 → FnOK Tryz.prog 72 [.slice (Tm.cellsL l) []] (.slice (strC (Tm.ovL l)) [])
  | l, hl, hw, hv => by
    refine FnOK.freezeT (ty := 9) (FnOK.tree hdraw fp72 (ctr_ok libT_ok qnone_ok) (POu_eq (Tm.cellsL l) []) ?_)
    unfold POu
    rw [ok_jmp, cellsL_length]
    refine outer_at l hl (Nat.le_trans (ovL_len l) hv) (fun k n s a hm _ _ => ?_) _ 0 rfl (Nat.zero_le _)
    have h1 := wfL_all.1 hw _ hm
    have h2 := vsL_mem hm
    simp only [Tm.wf] at h1
    simp only [Tm.vs, List.length_append] at h2
    exact outer_ok a h1.2.2.2.2.1 h1.2.2.2.2.2 (by omega)
termination_by l => SizeOf.sizeOf l
decreasing_by
  have := List.sizeOf_lt_of_mem hm
  simp only [Tm.mk.sizeOf_spec] at this
  omega
def okL (x : Lt) : Prop := x.a.length ≤ 281474976710656 ∧ Tm.wfL 281474976710656 x.a ∧ (Tm.vsL x.a).length ≤ 1073741824 ∧ okt x.l ∧ okt x.r
theorem step_ok (S : List Nm) (x : Lt) (hx : okL x) : CallL Tryz.prog (.func (.func 55) [] []) [.agg [.map 0], .agg x.c] [(0, setO S)] fun r ob => r = .tuple [] ∧ ob = [(0, setO (stepS S x))] := by
  obtain ⟨h1, h2, h3, h4, h5⟩ := hx
  obtain ⟨k, no, p, a, op, x, y⟩ := x
  simp only at h1 h2 h3 h4 h5
  have ho := outer_ok a h1 h2 h3
  have hol := ovL_len a
  have ha := addV_ok (Tm.ovL a) (by omega) S
  have he1 := equation_ok S x y h5
  have he2 := equation_ok (eqS S x y) y x h4
  unfold stepS
  simp only [Lt.c]
  generalize hT : eqS S x y = T1 at he1 he2 ⊢
  generalize hU : eqS T1 y x = T2 at he2 ⊢
  generalize Tm.ovL a = q at ho ha ⊢
  obtain ⟨kx, nx, sx, ax⟩ := x
  obtain ⟨ky, ny, sy, ay⟩ := y
  by_cases hk : k = 1
  · refine CallL.tree hdraw fp55 (ctrS_ok (asmP_ok _) (atT_ok (asmA_ok _ _) (QT.or_ok valQ_ok (asmA_ok _ _)))) (CSt_eq (kS S) (uS S) (kS T1) (uS T1) (kS (addS S q)) (uS (addS S q)) k no p (Tm.cellsL a) op kx nx sx (Tm.cellsL ax) ky ny sy (Tm.cellsL ay) (strC q)) ?_
    unfold CSt
    simp only [ok_br, ok_owe, ok_ret, ok_jmp, decide_eq_true_eq, decide_eq_false_iff_not, Int.toNat_natCast, true_and, and_true, Bool.not_eq_true', Bool.not_eq_false', List.drop_zero, List.take_length, D.bool.injEq, D.int.injEq, D.str.injEq, true_implies, Int.le_refl]
    refine ⟨fun h => by simp [h], fun h => ⟨fun _ => ⟨ho, ha, by simp [h, hk]⟩, fun h => absurd (by omega) h⟩⟩
  · refine CallL.tree hdraw fp55 (ctrS_ok (asmP_ok _) (atT_ok (asmA_ok _ _) (QT.or_ok valQ_ok (asmA_ok _ _)))) (CSt_eq (kS S) (uS S) (kS T1) (uS T1) (kS T2) (uS T2) k no p (Tm.cellsL a) op kx nx sx (Tm.cellsL ax) ky ny sy (Tm.cellsL ay) (strC q)) ?_
    unfold CSt
    simp only [ok_br, ok_owe, ok_ret, ok_jmp, decide_eq_true_eq, decide_eq_false_iff_not, Int.toNat_natCast, true_and, and_true, Bool.not_eq_true', Bool.not_eq_false', List.drop_zero, List.take_length, D.bool.injEq, D.int.injEq, D.str.injEq, true_implies, Int.le_refl]
    refine ⟨fun h => by simp [h], fun h => ⟨fun h => absurd (by omega) hk, fun _ => ⟨fun h2 => ⟨fun h3 => ⟨he1, he2, ?_⟩, fun h3 => ?_⟩, fun h2 => ?_⟩⟩⟩
    · have e2 : k = 2 := by omega
      have e3 : op = 1 := by omega
      simp [h, e2, e3]
    · have e3 : op ≠ 1 := by omega
      simp [h, hk, e3]
    · have e2 : k ≠ 2 := by omega
      simp [h, hk, e2]
end Go.Proofs.YtiafmjolbacdaaaGreat
