/- The law of bindings, but for what is awake. -/
import Derived.Test.YtobgkdlghljdlaaGreatDoorMtF
import Derived.Test.YtobgkdlghljdlaaGreatDoorSx8
set_option linter.unusedSectionVars false
set_option linter.unusedVariables false
set_option linter.unusedSimpArgs false
set_option linter.deprecated false
set_option maxRecDepth 100000
namespace Go.Proofs.YtobgkdlghljdlaaGreatDoor
open Go.Sx
theorem tcQ_ok : tcQ.OK := by
  intro d xs ob rt h
  unfold tcQ at h
  split at h
  · split at h
    · split at h
      · rename_i hf; subst hf; cases h; intro _
        exact CallL.tree hdraw fp59 mCtr_ok (MX1_eq _) ⟨rfl, rfl⟩
      · split at h
        · rename_i hf; subst hf; cases h; intro _
          exact CallL.tree hdraw fp60 mCtr_ok (MX2_eq _) ⟨rfl, rfl⟩
        · split at h
          · rename_i hf; subst hf; cases h; intro _
            exact CallL.tree hdraw fp61 mCtr_ok (MX3_eq _) ⟨rfl, rfl⟩
          · split at h
            · rename_i hf; subst hf; cases h; intro _
              exact CallL.tree hdraw fp62 mCtr_ok (MX4_eq _) ⟨rfl, rfl⟩
            · split at h
              · rename_i hf; subst hf; cases h; intro _
                exact CallL.tree hdraw fp63 mCtr_ok (MX5_eq _) ⟨rfl, rfl⟩
              · split at h
                · rename_i hf; subst hf; cases h; intro _
                  exact CallL.tree hdraw fp64 mCtr_ok (MX6_eq _) ⟨rfl, rfl⟩
                · cases h
    · cases h
  · cases h
/-- AN OPERATOR. -/
theorem test_ok (op : Nat) (hop : op ≤ 7) (x y : Tm) (hx : x.wf 281474976710656) (hy : y.wf 281474976710656) (r : Bool) (hr : tstB op (x.cmp y) = r) : FnOK Tryz.prog 28 [.int .u8 op, .agg x.cells, .agg y.cells] (.bool r) := by
  have hc := cmp_ok x y hx hy
  subst hr
  generalize x.cmp y = c at hc ⊢
  obtain ⟨k, n, s, a⟩ := x
  obtain ⟨k', n', s', a'⟩ := y
  match op, hop with
  | 0, _ => exact FnOK.tree hdraw fp28 (dCtr_ok tcQ_ok) (MTs0_eq k n s (Tm.cellsL a) k' n' s' (Tm.cellsL a') c) ⟨hc, by decide, by decide, rfl⟩
  | 1, _ => exact FnOK.tree hdraw fp28 (dCtr_ok tcQ_ok) (MTs1_eq k n s (Tm.cellsL a) k' n' s' (Tm.cellsL a') c) ⟨hc, by decide, by decide, by decide, trivial, rfl⟩
  | 2, _ => exact FnOK.tree hdraw fp28 (dCtr_ok tcQ_ok) (MTs2_eq k n s (Tm.cellsL a) k' n' s' (Tm.cellsL a') c) ⟨hc, by decide, by decide, by decide, trivial, rfl⟩
  | 3, _ => exact FnOK.tree hdraw fp28 (dCtr_ok tcQ_ok) (MTs3_eq k n s (Tm.cellsL a) k' n' s' (Tm.cellsL a') c) ⟨hc, by decide, by decide, by decide, trivial, rfl⟩
  | 4, _ => exact FnOK.tree hdraw fp28 (dCtr_ok tcQ_ok) (MTs4_eq k n s (Tm.cellsL a) k' n' s' (Tm.cellsL a') c) ⟨hc, by decide, by decide, by decide, trivial, rfl⟩
  | 5, _ => exact FnOK.tree hdraw fp28 (dCtr_ok tcQ_ok) (MTs5_eq k n s (Tm.cellsL a) k' n' s' (Tm.cellsL a') c) ⟨hc, by decide, by decide, by decide, trivial, rfl⟩
  | 6, _ => exact FnOK.tree hdraw fp28 (dCtr_ok tcQ_ok) (MTs6_eq k n s (Tm.cellsL a) k' n' s' (Tm.cellsL a') c) ⟨hc, by decide, by decide, by decide, trivial, rfl⟩
  | 7, _ => exact FnOK.tree hdraw fp28 (dCtr_ok tcQ_ok) (MTs7_eq k n s (Tm.cellsL a) k' n' s' (Tm.cellsL a') c) ⟨hc, by decide, rfl⟩
/-- Few enough. -/
theorem sm_at (b : List Bd) (hl : b.length ≤ 281474976710656) (hw : ∀ x ∈ b, x.v.wf 281474976710656) : ∀ (m i : Nat) (nn : Int), b.length - i = m → i ≤ b.length → 0 ≤ nn →
    At Tryz.prog 0 (cut sc8 0) (hdSm (bdL b) nn i) (FinQ true 0 rs8 fun r _ => r = .bool (decide (smB (b.drop i) nn ≤ 150))) := by
  intro m
  induction m with
  | zero =>
    intro i nn hm hi h0
    refine At.tree mCtr_ok (MSm2_eq (bdL b) nn i [] 0 0 [] [] 0) ?_
    unfold MSm2
    rw [List.drop_eq_nil_of_le (by omega)]
    simp only [ok_br, ok_owe, ok_ret, ok_jmp, decide_eq_true_eq, decide_eq_false_iff_not, Int.toNat_natCast, true_and, and_true, Bool.not_eq_true', Bool.not_eq_false', List.drop_zero, List.take_length, D.bool.injEq, D.int.injEq, D.str.injEq, true_implies, Int.le_refl, bdL_len, smB]
    exact ⟨fun h => by omega, fun _ => by first | rfl | trivial⟩
  | succ m ih =>
    intro i nn hm hi h0
    have h1 : i < b.length := by omega
    have hx := bdL_get h1
    have hc := sz_ok b[i].v (hw _ (List.getElem_mem h1)) 150 (by decide) (by decide)
    have g1 := sz_ge b[i].v 150
    have g2 := sz_le b[i].v 150 (by decide)
    have hI := ih (i + 1) (nn + b[i].v.sz 150) (by omega) (by omega) (by omega)
    have hD : smB (b.drop i) nn = if nn ≤ 150 then smB (b.drop (i + 1)) (nn + b[i].v.sz 150) else nn := by rw [drop_cons h1, smB]
    by_cases hn : nn ≤ 150
    · rw [if_pos hn] at hD
      rw [hD]
      generalize decide (smB (b.drop (i + 1)) (nn + b[i].v.sz 150) ≤ 150) = r at hI ⊢
      clear hD
      generalize b[i].v.sz 150 = c at hc g1 g2 hI
      generalize b[i] = x at hx hc
      obtain ⟨nm, ⟨k, n, s, a⟩⟩ := x
      refine At.tree mCtr_ok (MSm2_eq (bdL b) nn i nm k n s (Tm.cellsL a) c) ?_
      unfold MSm2
      simp only [ok_br, ok_owe, ok_ret, ok_jmp, decide_eq_true_eq, decide_eq_false_iff_not, Int.toNat_natCast, true_and, and_true, Bool.not_eq_true', Bool.not_eq_false', List.drop_zero, List.take_length, D.bool.injEq, D.int.injEq, D.str.injEq, true_implies, Int.le_refl, bdL_len]
      exact ⟨fun _ => ⟨fun _ => ⟨⟨by omega, hx⟩, hc, by omega, by omega, hI⟩, fun h => by omega⟩, fun h => by omega⟩
    · rw [if_neg hn] at hD
      rw [hD]
      refine At.tree mCtr_ok (MSm2_eq (bdL b) nn i [] 0 0 [] [] 0) ?_
      unfold MSm2
      simp only [ok_br, ok_owe, ok_ret, ok_jmp, decide_eq_true_eq, decide_eq_false_iff_not, Int.toNat_natCast, true_and, and_true, Bool.not_eq_true', Bool.not_eq_false', List.drop_zero, List.take_length, D.bool.injEq, D.int.injEq, D.str.injEq, true_implies, Int.le_refl, bdL_len]
      exact ⟨fun _ => ⟨fun h => by omega, fun _ => by first | rfl | trivial⟩, fun h => by omega⟩
def smlB (b : List Bd) (l : List Tm) : Bool := decide (smB b (Tm.szL l 150 0) ≤ 150)
theorem small_ok (b : List Bd) (l : List Tm) (hb : b.length ≤ 281474976710656) (hw : ∀ x ∈ b, x.v.wf 281474976710656) (hl : l.length ≤ 281474976710656) (hwl : ∀ x ∈ l, x.wf 281474976710656) : FnOK Tryz.prog 8 [.slice (bdL b) [], .slice (Tm.cellsL l) []] (.bool (smlB b l)) := by
  have h1 := szs_ok l hl (fun x hx => sz_ok x (hwl x hx)) 150 (by decide)
  have h0 := szL_ge l 150 0
  unfold smlB
  generalize Tm.szL l 150 0 = c at h1 h0 ⊢
  refine FnOK.tree hdraw fp8 mCtr_ok (MSm_eq (bdL b) (Tm.cellsL l) c) ?_
  unfold MSm
  refine ⟨h1, ?_⟩
  rw [ok_jmp]
  exact sm_at b hb hw _ 0 c rfl (Nat.zero_le _) h0
/-- All pairs are kept. -/
theorem ex_at (c b : List Bd) (hl : c.length ≤ 1000000) (hw : ∀ x ∈ c, x.wf 281474976710656) (hd : ∀ x ∈ c, x.v.depth ≤ 1000000000) (hf : ∀ x ∈ c, x.v.few 1000) (hbl : b.length ≤ 281474976710656) (hbw : ∀ x ∈ b, x.v.wf 281474976710656) (H : ∀ x ∈ b, getV c x.n = some x.v) : ∀ (m i : Nat), b.length - i = m → i ≤ b.length →
    At Tryz.prog 0 (cut sc14 0) (hdExt (bdL c) (bdL b) i) (FinQ true 0 rs14 fun r _ => r = .bool true) := by
  intro m
  induction m with
  | zero =>
    intro i hm hi
    refine At.tree mCtr_ok (MEx2_eq (bdL c) (bdL b) i [] 0 0 [] []) ?_
    unfold MEx2
    simp only [ok_br, ok_owe, ok_ret, ok_jmp, decide_eq_true_eq, decide_eq_false_iff_not, Int.toNat_natCast, true_and, and_true, Bool.not_eq_true', Bool.not_eq_false', List.drop_zero, List.take_length, D.bool.injEq, D.int.injEq, D.str.injEq, true_implies, Int.le_refl, bdL_len]
    exact ⟨fun h => by omega, fun _ => by first | rfl | trivial⟩
  | succ m ih =>
    intro i hm hi
    have h1 : i < b.length := by omega
    have hx := bdL_get h1
    have hg := mget_ok c hl hw hd hf b[i].n
    have hm' := List.getElem_mem h1
    rw [H _ hm'] at hg
    have he := equal_ok b[i].v b[i].v (hbw _ hm') (hbw _ hm')
    rw [eqb_eq.2 rfl] at he
    have hI := ih (i + 1) (by omega) (by omega)
    generalize b[i] = x at hx hg he
    obtain ⟨nm, ⟨k, n, s, a⟩⟩ := x
    refine At.tree mCtr_ok (MEx2_eq (bdL c) (bdL b) i nm k n s (Tm.cellsL a)) ?_
    unfold MEx2
    simp only [ok_br, ok_owe, ok_ret, ok_jmp, decide_eq_true_eq, decide_eq_false_iff_not, Int.toNat_natCast, true_and, and_true, Bool.not_eq_true', Bool.not_eq_false', List.drop_zero, List.take_length, D.bool.injEq, D.int.injEq, D.str.injEq, true_implies, Int.le_refl, bdL_len]
    exact ⟨fun _ => ⟨⟨by omega, hx⟩, hg, ⟨by omega, hx⟩, he, by omega, hI⟩, fun h => by omega⟩
theorem extends_ok (c b : List Bd) (hl : c.length ≤ 1000000) (hw : ∀ x ∈ c, x.wf 281474976710656) (hd : ∀ x ∈ c, x.v.depth ≤ 1000000000) (hf : ∀ x ∈ c, x.v.few 1000) (hbl : b.length ≤ 281474976710656) (hbw : ∀ x ∈ b, x.v.wf 281474976710656) (H : ∀ x ∈ b, getV c x.n = some x.v) : FnOK Tryz.prog 14 [.slice (bdL c) [], .slice (bdL b) []] (.bool true) := by
  refine FnOK.tree hdraw fp14 mCtr_ok (MEx_eq (bdL c) (bdL b)) ?_
  unfold MEx
  rw [ok_jmp]
  exact ex_at c b hl hw hd hf hbl hbw H _ 0 rfl (Nat.zero_le _)
abbrev AtL (i : Nat) (s : St) : Prop := At Tryz.prog 0 (frg sc5 i) s (FinQ true 0 rs5 fun r _ => r = .bool true)
/-- The operators agree. -/
theorem l8_at (t v : Tm) (ht : t.wf 281474976710656) (hv : v.wf 281474976710656) : AtL 8 ⟨tmT, [(0, .cells t.cells), (1, .cells v.cells)]⟩ := by
  have T := fun op hop r hr => test_ok op hop t v ht hv r hr
  have U := fun op hop r hr => test_ok op hop v t hv ht r hr
  have hn := cmp_neg t v
  have hr := cmp_range t v
  rw [hn] at U
  generalize t.cmp v = c at T U hr
  obtain ⟨k, n, s, a⟩ := t
  obtain ⟨kv, nv, sv, av⟩ := v
  rcases hr with rfl | rfl | rfl
  · refine At.tree mCtr_ok (ML8b_eq k n s (Tm.cellsL a) kv nv sv (Tm.cellsL av)) ?_
    unfold ML8b
    refine ⟨T 1 (by decide) _ rfl, T 3 (by decide) _ rfl, T 5 (by decide) _ rfl, ?_⟩
    rw [ok_jmp]
    refine At.tree mCtr_ok (ML9b_eq k n s (Tm.cellsL a) kv nv sv (Tm.cellsL av)) ?_
    unfold ML9b
    rw [ok_jmp]
    refine At.tree mCtr_ok (MLXb_eq k n s (Tm.cellsL a) kv nv sv (Tm.cellsL av)) ?_
    unfold MLXb
    exact ⟨T 2 (by decide) _ rfl, T 4 (by decide) _ rfl, T 6 (by decide) _ rfl, U 5 (by decide) _ rfl, T 0 (by decide) _ rfl, T 7 (by decide) _ rfl, rfl⟩
  · refine At.tree mCtr_ok (ML8a_eq k n s (Tm.cellsL a) kv nv sv (Tm.cellsL av)) ?_
    unfold ML8a
    refine ⟨T 1 (by decide) _ rfl, T 3 (by decide) _ rfl, T 5 (by decide) _ rfl, ?_⟩
    rw [ok_jmp]
    refine At.tree mCtr_ok (ML9a_eq k n s (Tm.cellsL a) kv nv sv (Tm.cellsL av)) ?_
    unfold ML9a
    rw [ok_jmp]
    refine At.tree mCtr_ok (MLXa_eq k n s (Tm.cellsL a) kv nv sv (Tm.cellsL av)) ?_
    unfold MLXa
    exact ⟨T 2 (by decide) _ rfl, T 4 (by decide) _ rfl, T 6 (by decide) _ rfl, U 5 (by decide) _ rfl, T 0 (by decide) _ rfl, T 7 (by decide) _ rfl, rfl⟩
  · refine At.tree mCtr_ok (ML8c_eq k n s (Tm.cellsL a) kv nv sv (Tm.cellsL av)) ?_
    unfold ML8c
    refine ⟨T 1 (by decide) _ rfl, T 3 (by decide) _ rfl, T 5 (by decide) _ rfl, ?_⟩
    rw [ok_jmp]
    refine At.tree mCtr_ok (ML9c_eq k n s (Tm.cellsL a) kv nv sv (Tm.cellsL av)) ?_
    unfold ML9c
    rw [ok_jmp]
    refine At.tree mCtr_ok (MLXc_eq k n s (Tm.cellsL a) kv nv sv (Tm.cellsL av)) ?_
    unfold MLXc
    exact ⟨T 2 (by decide) _ rfl, T 4 (by decide) _ rfl, T 6 (by decide) _ rfl, U 5 (by decide) _ rfl, T 0 (by decide) _ rfl, T 7 (by decide) _ rfl, rfl⟩
end Go.Proofs.YtobgkdlghljdlaaGreatDoor
