/- SafetyCloses RETURNS true, awake given. -/
import Derived.Test.YtiafmjolbacdaaaGreatSafM
set_option linter.unusedSectionVars false
set_option linter.unusedVariables false
set_option linter.unusedSimpArgs false
set_option linter.deprecated false
set_option maxRecDepth 100000
namespace Go.Proofs.YtiafmjolbacdaaaGreat
open Go.Sx Go.RowKit
theorem ltL_one {l : List Lt} {i : Nat} (h : i < l.length) : List.drop i (List.take (i + 1) (ltL l ++ [])) = ltL [l[i]] ∧ List.drop (i + 1) (ltL l ++ []) = ltL (l.drop (i + 1)) := by
  rw [List.append_nil]
  refine ⟨?_, by simp [ltL, List.map_drop]⟩
  rw [List.drop_take, show i + 1 - i = 1 by omega]
  simp only [ltL, ← List.map_drop, drop_cons h, List.map_cons, List.take_succ_cons, List.take_zero, List.map_nil]
theorem alL (l : List Lt) : allLen 13 (ltL l ++ []) := by
  intro q hq
  rw [List.append_nil] at hq
  obtain ⟨t, _, rfl⟩ := List.mem_map.1 hq
  exact ltc_len t
theorem ov_var {t : Tm} (h : t.kd = 3) : t.nm ∈ t.ov := by
  obtain ⟨k, n, s, l⟩ := t
  have h : k = 3 := h
  subst h
  simp [Tm.ov, Tm.nm]
theorem ovL_mem {l : List Tm} {t : Tm} (h : t ∈ l) {x : Nm} (hx : x ∈ t.ov) : x ∈ Tm.ovL l := by
  induction l with
  | nil => cases h
  | cons a r ih =>
    rw [Tm.ovL, List.mem_append]
    rcases List.mem_cons.1 h with rfl | h
    · exact .inl hx
    · exact .inr (ih h)
theorem pool_le {l : List Lt} {x : Lt} (h : x ∈ l) : x.pool.length ≤ (l.flatMap Lt.pool).length := by
  obtain ⟨a, b, rfl⟩ := List.append_of_mem h
  rw [List.flatMap_append, List.flatMap_cons, List.length_append, List.length_append]
  omega
abbrev QC : Exit → St → Prop := FinQ true 0 rs3 fun r _ => r = .bool true
section
variable (ls : List Lt) (g : List Nm) (more : Nm) (hl : ls.length ≤ 281474976710656) (hok : ∀ x ∈ ls, okL x) (hwf : ∀ x ∈ ls, x.wf 281474976710656) (hg : g.length ≤ 100) (hp : (ls.flatMap Lt.pool).length ≤ 1000) (A B : List Nm) (hA : boundS ls g = A) (hB : boundS ls (g ++ [more]) = B) (hAl : A.length ≤ 10000) (hBl : B.length ≤ 10000)
include hl hok hwf hg hp hA hB hAl hBl
theorem c5_at (i : Nat) (hi : i < ls.length) (KN : At Tryz.prog 0 (cut sc3 2) (tmC (ltL ls) (strC g) more (strC A) (strC B) [(11, .int .i64 (i + 1))]) QC) : ∀ (m j : Nat), ls[i].a.length - j = m → j ≤ ls[i].a.length →
    At Tryz.prog 0 (cut sc3 4) (tmC (ltL ls) (strC g) more (strC A) (strC B) [(11, .int .i64 i), (14, .int .i64 j)]) QC := by
  have hx := ltL_get hi
  have hxm := List.getElem_mem hi
  have hal := (hwf _ hxm).2.2.1
  have hst : ls[i].k = 1 → ls[i].no = false → ∀ t ∈ ls[i].a, t.kd = 3 → t.nm ∈ A := fun h1 h2 t ht h3 => by
    have hc := boundS_cl ls g _ hxm t.nm
    rw [hA] at hc
    refine hc ?_
    unfold stepS
    rw [if_neg (by rw [h2]; decide), if_pos h1]
    exact addS_mem.2 (.inr (ovL_mem ht (ov_var h3)))
  generalize ls[i] = x at hx hal hst
  obtain ⟨k, no, p, a, op, ⟨kx, nx, sx, ax⟩, ⟨ky, ny, sy, ay⟩⟩ := x
  intro m
  induction m with
  | zero =>
    intro j hm hj
    refine At.tree (dCtr_ok qnone_ok) (PC5_eq (ltL ls) (strC g) (strC A) (strC B) more i j k no p (Tm.cellsL a) op kx nx sx (Tm.cellsL ax) ky ny sy (Tm.cellsL ay) 0 0 [] [] true) ?_
    unfold PC5
    simp only [ok_br, ok_owe, ok_ret, ok_jmp, decide_eq_true_eq, decide_eq_false_iff_not, Int.toNat_natCast, true_and, and_true, Bool.not_eq_true', Bool.not_eq_false', List.drop_zero, List.take_length, D.bool.injEq, D.int.injEq, D.str.injEq, true_implies, Int.le_refl, cellsL_length]
    simp only at hm hj hal
    exact ⟨⟨by omega, hx⟩, fun h => by omega, fun _ => ⟨by omega, KN⟩⟩
  | succ m ih =>
    intro j hm hj
    simp only at hm hj hal hst
    have h1 : j < a.length := by omega
    have hI := ih (j + 1) (by simp only; omega) (by simp only; omega)
    have hc := cellsL_get h1
    have hv := fun e1 e2 => hst e1 e2 _ (List.getElem_mem h1)
    generalize a[j] = t at hc hv
    obtain ⟨kt, nt, st, at_⟩ := t
    have hh := lhas_ok A st (by omega)
    refine At.tree (dCtr_ok qnone_ok) (PC5_eq (ltL ls) (strC g) (strC A) (strC B) more i j k no p (Tm.cellsL a) op kx nx sx (Tm.cellsL ax) ky ny sy (Tm.cellsL ay) kt nt st (Tm.cellsL at_) (decide (st ∈ A))) ?_
    unfold PC5
    simp only [ok_br, ok_owe, ok_ret, ok_jmp, decide_eq_true_eq, decide_eq_false_iff_not, Int.toNat_natCast, true_and, and_true, Bool.not_eq_true', Bool.not_eq_false', List.drop_zero, List.take_length, D.bool.injEq, D.int.injEq, D.str.injEq, true_implies, Int.le_refl, cellsL_length]
    refine ⟨⟨by omega, hx⟩, fun _ => ⟨⟨by omega, hx⟩, ⟨by omega, hc⟩, ⟨by omega, hx⟩, fun hk => ⟨⟨by omega, hx⟩, fun hn => ⟨fun h3 => ⟨hh, fun hb => ?_, fun _ => ⟨by omega, hI⟩⟩, fun _ => ⟨by omega, hI⟩⟩, fun _ => ⟨by omega, hI⟩⟩, fun _ => ⟨by omega, hI⟩⟩, fun h => by omega⟩
    have e : st ∈ A := hv (by omega) hn (by show kt = 3; omega)
    exact absurd e hb
theorem c4_at (i : Nat) (hi : i < ls.length) (KN : At Tryz.prog 0 (cut sc3 2) (tmC (ltL ls) (strC g) more (strC A) (strC B) [(11, .int .i64 (i + 1))]) QC) (O : List Nm) (hO : ∀ y ∈ O, y ∈ A) (hOl : O.length ≤ 10000) : ∀ (m j : Nat), O.length - j = m → j ≤ O.length →
    At Tryz.prog 0 (cut sc3 3) (tmC (ltL ls) (strC g) more (strC A) (strC B) [(11, .int .i64 i), (12, .slice (strC O) []), (13, .int .i64 j)]) QC := by
  have K5 := c5_at ls g more hl hok hwf hg hp A B hA hB hAl hBl i hi KN _ 0 rfl (Nat.zero_le _)
  intro m
  induction m with
  | zero =>
    intro j hm hj
    refine At.tree (dCtr_ok qnone_ok) (PC4_eq (ltL ls) (strC g) (strC A) (strC B) (strC O) more i j [] true) ?_
    unfold PC4
    simp only [ok_br, ok_owe, ok_ret, ok_jmp, decide_eq_true_eq, decide_eq_false_iff_not, Int.toNat_natCast, true_and, and_true, Bool.not_eq_true', Bool.not_eq_false', List.drop_zero, List.take_length, D.bool.injEq, D.int.injEq, D.str.injEq, true_implies, Int.le_refl, strC_len]
    exact ⟨fun h => by omega, fun _ => K5⟩
  | succ m ih =>
    intro j hm hj
    have h1 : j < O.length := by omega
    have hI := ih (j + 1) (by omega) (by omega)
    have hh := lhas_ok A O[j] (by omega)
    rw [decide_eq_true (hO _ (List.getElem_mem h1))] at hh
    refine At.tree (dCtr_ok qnone_ok) (PC4_eq (ltL ls) (strC g) (strC A) (strC B) (strC O) more i j O[j] true) ?_
    unfold PC4
    simp only [ok_br, ok_owe, ok_ret, ok_jmp, decide_eq_true_eq, decide_eq_false_iff_not, Int.toNat_natCast, true_and, and_true, Bool.not_eq_true', Bool.not_eq_false', List.drop_zero, List.take_length, D.bool.injEq, D.int.injEq, D.str.injEq, true_implies, Int.le_refl, strC_len]
    exact ⟨fun _ => ⟨⟨by omega, strC_gt h1⟩, hh, fun h => (by cases h), by omega, hI⟩, fun h => by omega⟩
theorem c3_at : ∀ (m i : Nat), ls.length - i = m → i ≤ ls.length →
    At Tryz.prog 0 (cut sc3 2) (tmC (ltL ls) (strC g) more (strC A) (strC B) [(11, .int .i64 i)]) QC := by
  intro m
  induction m with
  | zero =>
    intro i hm hi
    have hF := Bound_ok ls hl hok A (by omega) (by omega)
    have hag := boundS_again ls g
    rw [hA] at hag
    rw [hag] at hF
    have hS := same_ok A (by omega)
    have hm1 : more ∈ B := by rw [← hB]; exact boundS_given (by simp)
    have hH := lhas_ok B more (by omega)
    rw [decide_eq_true hm1] at hH
    refine At.tree (dCtr_ok qnone_ok) (PC3_eq (ltL ls) (strC g) (strC A) (strC B) [] [] [] (strC A) more i true true) ?_
    unfold PC3
    simp only [ok_br, ok_owe, ok_ret, ok_jmp, decide_eq_true_eq, decide_eq_false_iff_not, Int.toNat_natCast, true_and, and_true, Bool.not_eq_true', Bool.not_eq_false', List.drop_zero, List.take_length, D.bool.injEq, D.int.injEq, D.str.injEq, true_implies, Int.le_refl, ltL_len]
    exact ⟨fun h => by omega, fun _ => ⟨hF, hS, hH, fun h => (by cases h)⟩⟩
  | succ m ih =>
    intro i hm hi
    have h1 : i < ls.length := by omega
    have hI := ih (i + 1) (by omega) (by omega)
    have hxm := List.getElem_mem h1
    have hpl : ([ls[i]].flatMap Lt.pool).length ≤ 1000 := by
      refine Nat.le_trans ?_ hp
      simp only [List.flatMap_cons, List.flatMap_nil, List.append_nil]
      exact pool_le hxm
    have hB1 := Bound_ok [ls[i]] (by simp) (fun x hx => by rw [List.mem_singleton] at hx; exact hx ▸ hok _ hxm) g (by omega) (by omega)
    have hO : ∀ y ∈ boundS [ls[i]] g, y ∈ A := by
      rw [← hA]
      exact boundS_in ((boundS_cl ls g).of (fun x hx => by rw [List.mem_singleton] at hx; exact hx ▸ hxm) fun _ => Iff.rfl) fun x hx => boundS_given hx
    have hOl : (boundS [ls[i]] g).length ≤ 10000 := by
      have h2 := closeS_len [ls[i]] (addS_nd (l := g) List.nodup_nil)
      have h3 := (addS_len g []).2
      have h4 : (boundS [ls[i]] g).length = (closeS (addS [] g) [ls[i]]).length := (srt_perm _).length_eq
      simp only [List.length_nil] at h3
      omega
    have hone := ltL_one h1
    have K4 := c4_at ls g more hl hok hwf hg hp A B hA hB hAl hBl i h1 hI _ hO hOl _ 0 rfl (Nat.zero_le _)
    refine At.tree (dCtr_ok qnone_ok) (PC3_eq (ltL ls) (strC g) (strC A) (strC B) (ltL [ls[i]]) (ltL (ls.drop (i + 1))) (strC (boundS [ls[i]] g)) [] more i true true) ?_
    unfold PC3
    simp only [ok_br, ok_owe, ok_ret, ok_jmp, decide_eq_true_eq, decide_eq_false_iff_not, Int.toNat_natCast, true_and, and_true, Bool.not_eq_true', Bool.not_eq_false', List.drop_zero, List.take_length, D.bool.injEq, D.int.injEq, D.str.injEq, true_implies, Int.le_refl, ltL_len]
    refine ⟨fun _ => ⟨by omega, ⟨alL ls, by omega, by omega, ?_⟩, ?_, FnOK.ext hB1, K4⟩, fun h => by omega⟩
    · rw [List.append_nil, ltL_len]; omega
    · rw [show ((i : Int) + 1).toNat = i + 1 by omega]
      exact hone
theorem c2_at : ∀ (m i : Nat), A.length - i = m → i ≤ A.length →
    At Tryz.prog 0 (cut sc3 1) (tmC (ltL ls) (strC g) more (strC A) (strC B) [(10, .int .i64 i)]) QC := by
  have K3 := c3_at ls g more hl hok hwf hg hp A B hA hB hAl hBl _ 0 rfl (Nat.zero_le _)
  have hAB : ∀ x ∈ A, x ∈ B := by
    rw [← hA, ← hB]
    exact boundS_in (boundS_cl ls _) fun x hx => boundS_given (List.mem_append_left _ hx)
  have hlt := boundS_lt ls g
  rw [hA] at hlt
  intro m
  induction m with
  | zero =>
    intro i hm hi
    refine At.tree (dCtr_ok qnone_ok) (PC2_eq (ltL ls) (strC g) (strC A) (strC B) more i [] [] true) ?_
    unfold PC2
    simp only [ok_br, ok_owe, ok_ret, ok_jmp, decide_eq_true_eq, decide_eq_false_iff_not, Int.toNat_natCast, true_and, and_true, Bool.not_eq_true', Bool.not_eq_false', List.drop_zero, List.take_length, D.bool.injEq, D.int.injEq, D.str.injEq, true_implies, Int.le_refl, strC_len]
    exact ⟨fun h => by omega, fun _ => K3⟩
  | succ m ih =>
    intro i hm hi
    have h1 : i < A.length := by omega
    have hI := ih (i + 1) (by omega) (by omega)
    have hh := lhas_ok B A[i] (by omega)
    rw [decide_eq_true (hAB _ (List.getElem_mem h1))] at hh
    have hg1 := strC_gt h1
    cases i with
    | zero =>
      refine At.tree (dCtr_ok qnone_ok) (PC2_eq (ltL ls) (strC g) (strC A) (strC B) more (0 : Nat) A[0] [] true) ?_
      unfold PC2
      simp only [ok_br, ok_owe, ok_ret, ok_jmp, decide_eq_true_eq, decide_eq_false_iff_not, Int.toNat_natCast, true_and, and_true, Bool.not_eq_true', Bool.not_eq_false', List.drop_zero, List.take_length, D.bool.injEq, D.int.injEq, D.str.injEq, true_implies, Int.le_refl, strC_len]
      exact ⟨fun _ => ⟨⟨by omega, hg1⟩, hh, fun h => (by cases h), ⟨fun h => absurd h (by decide), fun _ => ⟨by omega, hI⟩⟩⟩, fun h => by omega⟩
    | succ i =>
      have h2 : i < A.length := by omega
      have hs := List.pairwise_iff_getElem.1 hlt i (i + 1) h2 h1 (Nat.lt_succ_self i)
      have hle : (Op.bytesLess A[i + 1] A[i] || decide (A[i + 1] = A[i])) = false := by
        rw [blt, Bool.or_eq_false_iff]
        exact ⟨decide_eq_false fun h => List.lt_asymm hs h, decide_eq_false fun e => by rw [e] at hs; exact List.lt_irrefl _ hs⟩
      refine At.tree (dCtr_ok qnone_ok) (PC2_eq (ltL ls) (strC g) (strC A) (strC B) more ((i + 1 : Nat) : Int) A[i + 1] A[i] true) ?_
      unfold PC2
      rw [hle]
      simp only [ok_br, ok_owe, ok_ret, ok_jmp, decide_eq_true_eq, decide_eq_false_iff_not, Int.toNat_natCast, true_and, and_true, Bool.not_eq_true', Bool.not_eq_false', List.drop_zero, List.take_length, D.bool.injEq, D.int.injEq, D.str.injEq, true_implies, Int.le_refl, strC_len]
      refine ⟨fun _ => ⟨⟨by omega, hg1⟩, hh, fun h => (by cases h), ⟨fun _ => ⟨⟨by omega, hg1⟩, by omega, ⟨by omega, ?_⟩, fun h => (by cases h), by omega, hI⟩, fun h => absurd (by omega) h⟩⟩, fun h => by omega⟩
      rw [show (((i + 1 : Nat) : Int) - 1).toNat = i by omega]
      exact strC_gt h2
theorem c1_at : ∀ (m i : Nat), g.length - i = m → i ≤ g.length →
    At Tryz.prog 0 (cut sc3 0) (tmC (ltL ls) (strC g) more (strC A) (strC B) [(9, .int .i64 i)]) QC := by
  have K2 := c2_at ls g more hl hok hwf hg hp A B hA hB hAl hBl _ 0 rfl (Nat.zero_le _)
  intro m
  induction m with
  | zero =>
    intro i hm hi
    refine At.tree (dCtr_ok qnone_ok) (PC1_eq (ltL ls) (strC g) (strC A) (strC B) more i [] true) ?_
    unfold PC1
    simp only [ok_br, ok_owe, ok_ret, ok_jmp, decide_eq_true_eq, decide_eq_false_iff_not, Int.toNat_natCast, true_and, and_true, Bool.not_eq_true', Bool.not_eq_false', List.drop_zero, List.take_length, D.bool.injEq, D.int.injEq, D.str.injEq, true_implies, Int.le_refl, strC_len]
    exact ⟨fun h => by omega, fun _ => K2⟩
  | succ m ih =>
    intro i hm hi
    have h1 : i < g.length := by omega
    have hI := ih (i + 1) (by omega) (by omega)
    have hh := lhas_ok A g[i] (by omega)
    rw [decide_eq_true (by rw [← hA]; exact boundS_given (List.getElem_mem h1))] at hh
    refine At.tree (dCtr_ok qnone_ok) (PC1_eq (ltL ls) (strC g) (strC A) (strC B) more i g[i] true) ?_
    unfold PC1
    simp only [ok_br, ok_owe, ok_ret, ok_jmp, decide_eq_true_eq, decide_eq_false_iff_not, Int.toNat_natCast, true_and, and_true, Bool.not_eq_true', Bool.not_eq_false', List.drop_zero, List.take_length, D.bool.injEq, D.int.injEq, D.str.injEq, true_implies, Int.le_refl, strC_len]
    exact ⟨fun _ => ⟨⟨by omega, strC_gt h1⟩, hh, fun h => (by cases h), by omega, hI⟩, fun h => by omega⟩
end
theorem okL_of {x : Lt} (hw : x.wf 281474976710656) (hf : x.few 400) : okL x := by
  obtain ⟨_, _, h1, h2, _, h3, h4⟩ := hw
  obtain ⟨f1, f2, f3⟩ := hf
  exact ⟨h1, h2, by omega, ⟨h3, by omega⟩, ⟨h4, by omega⟩⟩
theorem closes_of (ha : FnOK Tryz.prog 7 [] (.bool true)) (ls : List Lt) (g : List Nm) (more : Nm) (hl : ls.length ≤ 281474976710656) (hwf : ∀ x ∈ ls, x.wf 281474976710656) (hg : g.length ≤ 281474976710656) :
    FnOK Tryz.prog 3 [.slice (ltL ls) [], .slice (strC g) [], .str more] (.bool true) := by
  have hz := szl_ok ls [] hl hwf 400 (by omega)
  by_cases hc : szLts ls 400 0 ≤ 400 ∧ g.length ≤ 100
  · obtain ⟨hc1, hc2⟩ := hc
    obtain ⟨hfew, hpl⟩ := szLts_few ls 400 0 (Int.le_refl _) hc1
    have hok : ∀ x ∈ ls, okL x := fun x hx => okL_of (hwf x hx) (hfew x hx)
    have hln : ∀ q : List Nm, q.length ≤ 101 → (boundS ls q).length ≤ 10000 := fun q hq => by
      have h2 := closeS_len ls (addS_nd (l := q) List.nodup_nil)
      have h3 := (addS_len q []).2
      have h4 : (boundS ls q).length = (closeS (addS [] q) ls).length := (srt_perm _).length_eq
      simp only [List.length_nil] at h3
      omega
    have hA := Bound_ok ls hl hok g (by omega) (by omega)
    have hB := Bound_ok ls hl hok (g ++ [more]) (by simp only [List.length_append, List.length_cons, List.length_nil]; omega) (by omega)
    have K1 := c1_at ls g more hl hok hwf hc2 (by omega) (boundS ls g) (boundS ls (g ++ [more])) rfl rfl (hln g (by omega)) (hln _ (by simp only [List.length_append, List.length_cons, List.length_nil]; omega)) _ 0 rfl (Nat.zero_le _)
    rw [strC_app] at hB
    refine FnOK.tree hdraw fp3 (dCtr_ok qnone_ok) (PC0_eq (ltL ls) (strC g) (strC (boundS ls g)) (strC (boundS ls (g ++ [more]))) more (szLts ls 400 0)) ?_
    unfold PC0
    simp only [ok_br, ok_owe, ok_ret, ok_jmp, decide_eq_true_eq, decide_eq_false_iff_not, Int.toNat_natCast, true_and, and_true, Bool.not_eq_true', Bool.not_eq_false', List.drop_zero, List.take_length, D.bool.injEq, D.int.injEq, D.str.injEq, true_implies, Int.le_refl, strC_len, List.nil_append]
    refine ⟨ha, hz, fun h => by omega, fun _ => ⟨fun h => by omega, fun _ => ⟨hA, ⟨alS g, by omega⟩, ⟨alS [more], by omega⟩, hB, K1⟩⟩⟩
  · refine FnOK.tree hdraw fp3 (dCtr_ok qnone_ok) (PC0_eq (ltL ls) (strC g) [] [] more (szLts ls 400 0)) ?_
    unfold PC0
    simp only [ok_br, ok_owe, ok_ret, ok_jmp, decide_eq_true_eq, decide_eq_false_iff_not, Int.toNat_natCast, true_and, and_true, Bool.not_eq_true', Bool.not_eq_false', List.drop_zero, List.take_length, D.bool.injEq, D.int.injEq, D.str.injEq, true_implies, Int.le_refl, strC_len, List.nil_append]
    exact ⟨ha, hz, fun _ => trivial, fun h => ⟨fun _ => trivial, fun h2 => absurd ⟨by omega, by omega⟩ hc⟩⟩
end Go.Proofs.YtiafmjolbacdaaaGreat
