/- SafetyOrder RETURNS true, awake given. -/
import Derived.Test.YtiafmjolbacdaaaGreatSoB
set_option linter.unusedSectionVars false
set_option linter.unusedVariables false
set_option linter.unusedSimpArgs false
set_option linter.deprecated false
set_option maxRecDepth 100000
namespace Go.Proofs.YtiafmjolbacdaaaGreat
open Go.Sx Go.RowKit
theorem set_mid {α : Type} (A B : List α) (x y : α) : (A ++ x :: B).set A.length y = A ++ y :: B := by
  induction A with
  | nil => rfl
  | cons a r ih => simp [List.set, ih]
def rowsI (L : List Bo) (i : Nat) : List (List D) := boL ((L.take i).map revB ++ L.drop i)
theorem rowsI_len (L : List Bo) (i : Nat) : (rowsI L i).length = L.length := by
  unfold rowsI
  rw [boL_len, List.length_append, List.length_map, List.length_take, List.length_drop]; omega
theorem rowsI_get {L : List Bo} {i : Nat} (h : i < L.length) : (rowsI L i)[i]? = some L[i].cs := by
  unfold rowsI boL
  rw [List.getElem?_map, List.getElem?_append_right (by rw [List.length_map, List.length_take]; omega), List.length_map, List.length_take, Nat.min_eq_left (by omega), Nat.sub_self, List.getElem?_drop]
  simp [h]
theorem rowsI_set {L : List Bo} {i : Nat} (h : i < L.length) : (rowsI L i).set i (revB L[i]).cs = rowsI L (i + 1) := by
  have hl : (((L.take i).map revB).map Bo.cs).length = i := by rw [List.length_map, List.length_map, List.length_take]; omega
  have e1 : rowsI L i = ((L.take i).map revB).map Bo.cs ++ L[i].cs :: (L.drop (i + 1)).map Bo.cs := by
    unfold rowsI boL
    rw [drop_cons h, List.map_append, List.map_cons]
  have e2 : rowsI L (i + 1) = ((L.take i).map revB).map Bo.cs ++ (revB L[i]).cs :: (L.drop (i + 1)).map Bo.cs := by
    unfold rowsI boL
    rw [List.take_add_one, List.getElem?_eq_getElem h]
    simp only [List.map_append, Option.toList_some, List.map_cons, List.map_nil, List.append_assoc, List.cons_append, List.nil_append]
  rw [e1, e2]
  conv => lhs; arg 2; rw [← hl]
  exact set_mid _ _ _ _
theorem elL_app (a b : List El) : elL (a ++ b) = elL a ++ elL b := by simp [elL]
theorem heL_app (a b : List He) : heL (a ++ b) = heL a ++ heL b := by simp [heL]
section
variable (k : Nat) (hs : List He) (a1 : Nat) (a2 : Int) (a3 : Nm) (a4 : List Tm) (b1 : Nat) (b2 : Int) (b3 : Nm) (b4 : List Tm) (bs : List Bo) (c1 : Nat) (c2 : Int) (c3 : Nm) (c4 : List Tm) (d1 : Nat) (d2 : Int) (d3 : Nm) (d4 : List Tm) (ts : List Tm)
variable (hw : Ru.wf 281474976710656 ⟨k, hs, .mk a1 a2 a3 a4, .mk b1 b2 b3 b4, bs, .mk c1 c2 c3 c4, .mk d1 d2 d3 d4, ts⟩) (hf : fewR 400 ⟨k, hs, .mk a1 a2 a3 a4, .mk b1 b2 b3 b4, bs, .mk c1 c2 c3 c4, .mk d1 d2 d3 d4, ts⟩) (q : Nat) (hq : q ≤ bs.length)
abbrev rR : List D := rC k (heL hs) (boL bs) (Tm.cellsL ts) a1 a2 a3 (Tm.cellsL a4) b1 b2 b3 (Tm.cellsL b4) c1 c2 c3 (Tm.cellsL c4) d1 d2 d3 (Tm.cellsL d4)
abbrev xR (h b : D) : List D := xC k h b (Tm.cellsL ts) a1 a2 a3 (Tm.cellsL a4) b1 b2 b3 (Tm.cellsL b4) c1 c2 c3 (Tm.cellsL c4) d1 d2 d3 (Tm.cellsL d4)
abbrev QO : Exit → St → Prop := FinQ true 0 rs4 fun d _ => d = .bool true
include hw hf
theorem ord_fin : FnOK Tryz.prog 15 [.agg (xR k a1 a2 a3 a4 b1 b2 b3 b4 c1 c2 c3 c4 d1 d2 d3 d4 ts (.slice (heL (hs.reverse.map revH)) []) (.slice (rowsI (rotB bs q) bs.length) []))] (.slice (strC (srt (unsafeS ⟨k, hs, .mk a1 a2 a3 a4, .mk b1 b2 b3 b4, bs, .mk c1 c2 c3 c4, .mk d1 d2 d3 d4, ts⟩))) []) ∧ FnOK Tryz.prog 15 [.agg (rR k hs a1 a2 a3 a4 b1 b2 b3 b4 bs c1 c2 c3 c4 d1 d2 d3 d4 ts)] (.slice (strC (srt (unsafeS ⟨k, hs, .mk a1 a2 a3 a4, .mk b1 b2 b3 b4, bs, .mk c1 c2 c3 c4, .mk d1 d2 d3 d4, ts⟩))) []) ∧ FnOK Tryz.prog 11 [.slice (strC (srt (unsafeS ⟨k, hs, .mk a1 a2 a3 a4, .mk b1 b2 b3 b4, bs, .mk c1 c2 c3 c4, .mk d1 d2 d3 d4, ts⟩))) [], .slice (strC (srt (unsafeS ⟨k, hs, .mk a1 a2 a3 a4, .mk b1 b2 b3 b4, bs, .mk c1 c2 c3 c4, .mk d1 d2 d3 d4, ts⟩))) []] (.bool true) ∧
    FnOK Tryz.prog 16 [.agg (xR k a1 a2 a3 a4 b1 b2 b3 b4 c1 c2 c3 c4 d1 d2 d3 d4 ts (.slice (heL (hs.reverse.map revH)) []) (.slice (rowsI (rotB bs q) bs.length) []))] (.slice (strC (srt (globalS ⟨k, hs, .mk a1 a2 a3 a4, .mk b1 b2 b3 b4, bs, .mk c1 c2 c3 c4, .mk d1 d2 d3 d4, ts⟩))) []) ∧ FnOK Tryz.prog 16 [.agg (rR k hs a1 a2 a3 a4 b1 b2 b3 b4 bs c1 c2 c3 c4 d1 d2 d3 d4 ts)] (.slice (strC (srt (globalS ⟨k, hs, .mk a1 a2 a3 a4, .mk b1 b2 b3 b4, bs, .mk c1 c2 c3 c4, .mk d1 d2 d3 d4, ts⟩))) []) ∧ FnOK Tryz.prog 11 [.slice (strC (srt (globalS ⟨k, hs, .mk a1 a2 a3 a4, .mk b1 b2 b3 b4, bs, .mk c1 c2 c3 c4, .mk d1 d2 d3 d4, ts⟩))) [], .slice (strC (srt (globalS ⟨k, hs, .mk a1 a2 a3 a4, .mk b1 b2 b3 b4, bs, .mk c1 c2 c3 c4, .mk d1 d2 d3 d4, ts⟩))) []] (.bool true) := by
  have hok := okR_of hw hf
  have hu := unsafe_few hf
  have hg := global_few hf
  have e1 : srt (unsafeS (Ru.turn ⟨k, hs, .mk a1 a2 a3 a4, .mk b1 b2 b3 b4, bs, .mk c1 c2 c3 c4, .mk d1 d2 d3 d4, ts⟩ q)) = srt (unsafeS ⟨k, hs, .mk a1 a2 a3 a4, .mk b1 b2 b3 b4, bs, .mk c1 c2 c3 c4, .mk d1 d2 d3 d4, ts⟩) := srt_same (unsafeS_nd _) (unsafeS_nd _) fun x => turn_unsafe
  have e2 : srt (globalS (Ru.turn ⟨k, hs, .mk a1 a2 a3 a4, .mk b1 b2 b3 b4, bs, .mk c1 c2 c3 c4, .mk d1 d2 d3 d4, ts⟩ q)) = srt (globalS ⟨k, hs, .mk a1 a2 a3 a4, .mk b1 b2 b3 b4, bs, .mk c1 c2 c3 c4, .mk d1 d2 d3 d4, ts⟩) := srt_same (globalS_nd _) (globalS_nd _) fun x => turn_global
  have l1 : (unsafeS (Ru.turn ⟨k, hs, .mk a1 a2 a3 a4, .mk b1 b2 b3 b4, bs, .mk c1 c2 c3 c4, .mk d1 d2 d3 d4, ts⟩ q)).length ≤ 200000000 := Nat.le_trans (List.Nodup.length_le_of_subset (unsafeS_nd _) fun x hx => turn_unsafe.1 hx) hu
  have l2 : (globalS (Ru.turn ⟨k, hs, .mk a1 a2 a3 a4, .mk b1 b2 b3 b4, bs, .mk c1 c2 c3 c4, .mk d1 d2 d3 d4, ts⟩ q)).length ≤ 200000000 := Nat.le_trans (List.Nodup.length_le_of_subset (globalS_nd _) fun x hx => turn_global.1 hx) hg
  have h1 := Unsafe_ok (Ru.turn ⟨k, hs, .mk a1 a2 a3 a4, .mk b1 b2 b3 b4, bs, .mk c1 c2 c3 c4, .mk d1 d2 d3 d4, ts⟩ q) (okR_turn hok q) (by omega)
  have h2 := Unsafe_ok ⟨k, hs, .mk a1 a2 a3 a4, .mk b1 b2 b3 b4, bs, .mk c1 c2 c3 c4, .mk d1 d2 d3 d4, ts⟩ hok (by omega)
  have h4 := Global_ok (Ru.turn ⟨k, hs, .mk a1 a2 a3 a4, .mk b1 b2 b3 b4, bs, .mk c1 c2 c3 c4, .mk d1 d2 d3 d4, ts⟩ q) (okR_turn hok q) (by omega)
  have h5 := Global_ok ⟨k, hs, .mk a1 a2 a3 a4, .mk b1 b2 b3 b4, bs, .mk c1 c2 c3 c4, .mk d1 d2 d3 d4, ts⟩ hok (by omega)
  rw [e1] at h1
  rw [e2] at h4
  have hr : rowsI (rotB bs q) bs.length = boL ((rotB bs q).map revB) := by
    unfold rowsI
    have e : bs.length = (rotB bs q).length := (rotB_len bs q).symm
    rw [e, List.take_length, List.drop_length, List.append_nil]
  have h3 := same_ok (srt (unsafeS ⟨k, hs, .mk a1 a2 a3 a4, .mk b1 b2 b3 b4, bs, .mk c1 c2 c3 c4, .mk d1 d2 d3 d4, ts⟩)) (by rw [(srt_perm _).length_eq]; omega)
  have h6 := same_ok (srt (globalS ⟨k, hs, .mk a1 a2 a3 a4, .mk b1 b2 b3 b4, bs, .mk c1 c2 c3 c4, .mk d1 d2 d3 d4, ts⟩)) (by rw [(srt_perm _).length_eq]; omega)
  rw [hr]
  exact ⟨h1, h2, h3, h4, h5, h6⟩
theorem ord_hB : ∀ (m : Nat) (j : Int), j = m - 1 → m ≤ hs.length →
    At Tryz.prog 0 (cut sc4 2) ⟨[(2, .ptr 0 0), (5, .ptr 1 0), (11, .int .i64 j)], [(0, .cells (rR k hs a1 a2 a3 a4 b1 b2 b3 b4 bs c1 c2 c3 c4 d1 d2 d3 d4 ts)), (1, .cells (xR k a1 a2 a3 a4 b1 b2 b3 b4 c1 c2 c3 c4 d1 d2 d3 d4 ts (.vec 2) (.vec 3))), (2, .arr true 3 50 (heL ((hs.drop m).reverse.map revH))), (3, .arr true 23 46 (rowsI (rotB bs q) bs.length))]⟩ QO := by
  have hfin := ord_fin k hs a1 a2 a3 a4 b1 b2 b3 b4 bs c1 c2 c3 c4 d1 d2 d3 d4 ts hw hf q
  have hhl := hf.hl
  simp only at hhl
  have hfh := hf.h
  simp only at hfh
  intro m
  induction m with
  | zero =>
    intro j hj hm
    obtain ⟨h1, h2, h3, h4, h5, h6⟩ := hfin
    refine At.tree (dCtr_ok qnone_ok) (PO4_eq k (heL hs) (boL bs) (Tm.cellsL ts) a1 a2 a3 (Tm.cellsL a4) b1 b2 b3 (Tm.cellsL b4) c1 c2 c3 (Tm.cellsL c4) d1 d2 d3 (Tm.cellsL d4) (rowsI (rotB bs q) bs.length) (heL ((hs.drop 0).reverse.map revH)) j [] [] [] [] (strC (srt (unsafeS ⟨k, hs, .mk a1 a2 a3 a4, .mk b1 b2 b3 b4, bs, .mk c1 c2 c3 c4, .mk d1 d2 d3 d4, ts⟩))) (strC (srt (unsafeS ⟨k, hs, .mk a1 a2 a3 a4, .mk b1 b2 b3 b4, bs, .mk c1 c2 c3 c4, .mk d1 d2 d3 d4, ts⟩))) (strC (srt (globalS ⟨k, hs, .mk a1 a2 a3 a4, .mk b1 b2 b3 b4, bs, .mk c1 c2 c3 c4, .mk d1 d2 d3 d4, ts⟩))) (strC (srt (globalS ⟨k, hs, .mk a1 a2 a3 a4, .mk b1 b2 b3 b4, bs, .mk c1 c2 c3 c4, .mk d1 d2 d3 d4, ts⟩))) true true) ?_
    unfold PO4
    simp only [ok_br, ok_owe, ok_ret, ok_jmp, decide_eq_true_eq, decide_eq_false_iff_not, Int.toNat_natCast, true_and, and_true, Bool.not_eq_true', Bool.not_eq_false', List.drop_zero, List.take_length, D.bool.injEq, D.int.injEq, D.str.injEq, true_implies, Int.le_refl]
    exact ⟨fun h => by omega, fun _ => ⟨h1, h2, h3, ⟨h4, h5, h6⟩, fun h => (by cases h)⟩⟩
  | succ m ih =>
    intro j hj hm
    have h1 : m < hs.length := by omega
    have hI := ih (j - 1) (by omega) (by omega)
    have hg := heL_get h1
    have hfc := (hfh _ (List.getElem_mem h1)).2.1
    rw [drop_cons h1, List.reverse_cons, List.map_append, heL_app] at hI
    obtain rfl : j = m := by omega
    have hlen : (heL ((hs.drop (m + 1)).reverse.map revH)).length ≤ 1000 := by
      rw [heL_len, List.length_map, List.length_reverse, List.length_drop]; omega
    generalize heL ((hs.drop (m + 1)).reverse.map revH) = H at hI hlen ⊢
    generalize hs[m] = x at hg hI hfc
    obtain ⟨p, ha, hc⟩ := x
    have hrv := reversed_ok hc (by simp only at hfc; omega)
    refine At.tree (dCtr_ok qnone_ok) (PO4_eq k (heL hs) (boL bs) (Tm.cellsL ts) a1 a2 a3 (Tm.cellsL a4) b1 b2 b3 (Tm.cellsL b4) c1 c2 c3 (Tm.cellsL c4) d1 d2 d3 (Tm.cellsL d4) (rowsI (rotB bs q) bs.length) H m p (Tm.cellsL ha) (ltL hc) (ltL hc.reverse) [] [] [] [] true true) ?_
    unfold PO4
    simp only [ok_br, ok_owe, ok_ret, ok_jmp, decide_eq_true_eq, decide_eq_false_iff_not, Int.toNat_natCast, true_and, and_true, Bool.not_eq_true', Bool.not_eq_false', List.drop_zero, List.take_length, D.bool.injEq, D.int.injEq, D.str.injEq, true_implies, Int.le_refl]
    refine ⟨fun _ => ⟨⟨by omega, hg⟩, ⟨by omega, hg⟩, hrv, ⟨?_, by omega⟩, by omega, hI⟩, fun h => by omega⟩
    intro y hy
    rw [List.mem_singleton] at hy
    subst hy
    rfl
theorem ord_hA (j : Int) (hj : j = hs.length - 1) :
    At Tryz.prog 0 (cut sc4 2) ⟨[(2, .ptr 0 0), (5, .ptr 1 0), (11, .int .i64 j)], [(0, .cells (rR k hs a1 a2 a3 a4 b1 b2 b3 b4 bs c1 c2 c3 c4 d1 d2 d3 d4 ts)), (1, .cells (xR k a1 a2 a3 a4 b1 b2 b3 b4 c1 c2 c3 c4 d1 d2 d3 d4 ts .nils (.vec 2))), (2, .arr true 23 46 (rowsI (rotB bs q) bs.length))]⟩ QO := by
  by_cases h0 : hs.length = 0
  · obtain ⟨h1, h2, h3, h4, h5, h6⟩ := ord_fin k hs a1 a2 a3 a4 b1 b2 b3 b4 bs c1 c2 c3 c4 d1 d2 d3 d4 ts hw hf q
    have hh : hs = [] := List.length_eq_zero_iff.1 h0
    have e : heL (hs.reverse.map revH) = [] := by rw [hh]; rfl
    rw [e] at h1 h4
    refine At.tree (dCtr_ok qnone_ok) (PO3_eq k (heL hs) (boL bs) (Tm.cellsL ts) a1 a2 a3 (Tm.cellsL a4) b1 b2 b3 (Tm.cellsL b4) c1 c2 c3 (Tm.cellsL c4) d1 d2 d3 (Tm.cellsL d4) (rowsI (rotB bs q) bs.length) j [] [] [] [] (strC (srt (unsafeS ⟨k, hs, .mk a1 a2 a3 a4, .mk b1 b2 b3 b4, bs, .mk c1 c2 c3 c4, .mk d1 d2 d3 d4, ts⟩))) (strC (srt (unsafeS ⟨k, hs, .mk a1 a2 a3 a4, .mk b1 b2 b3 b4, bs, .mk c1 c2 c3 c4, .mk d1 d2 d3 d4, ts⟩))) (strC (srt (globalS ⟨k, hs, .mk a1 a2 a3 a4, .mk b1 b2 b3 b4, bs, .mk c1 c2 c3 c4, .mk d1 d2 d3 d4, ts⟩))) (strC (srt (globalS ⟨k, hs, .mk a1 a2 a3 a4, .mk b1 b2 b3 b4, bs, .mk c1 c2 c3 c4, .mk d1 d2 d3 d4, ts⟩))) true true) ?_
    unfold PO3
    simp only [ok_br, ok_owe, ok_ret, ok_jmp, decide_eq_true_eq, decide_eq_false_iff_not, Int.toNat_natCast, true_and, and_true, Bool.not_eq_true', Bool.not_eq_false', List.drop_zero, List.take_length, D.bool.injEq, D.int.injEq, D.str.injEq, true_implies, Int.le_refl]
    exact ⟨fun h => by omega, fun _ => ⟨h1, h2, h3, ⟨h4, h5, h6⟩, fun h => (by cases h)⟩⟩
  · obtain ⟨m, hm⟩ : ∃ m, hs.length = m + 1 := ⟨hs.length - 1, by omega⟩
    have h1 : m < hs.length := by omega
    have hI := ord_hB k hs a1 a2 a3 a4 b1 b2 b3 b4 bs c1 c2 c3 c4 d1 d2 d3 d4 ts hw hf q m (j - 1) (by omega) (by omega)
    have hg := heL_get h1
    have hfc := (hf.h _ (List.getElem_mem h1)).2.1
    have hhl := hf.hl
    simp only at hhl
    rw [drop_cons h1, List.drop_eq_nil_of_le (by omega : hs.length ≤ m + 1)] at hI
    obtain rfl : j = m := by omega
    generalize hs[m] = x at hg hI hfc
    obtain ⟨p, ha, hc⟩ := x
    have hrv := reversed_ok hc (by simp only at hfc; omega)
    refine At.tree (dCtr_ok qnone_ok) (PO3_eq k (heL hs) (boL bs) (Tm.cellsL ts) a1 a2 a3 (Tm.cellsL a4) b1 b2 b3 (Tm.cellsL b4) c1 c2 c3 (Tm.cellsL c4) d1 d2 d3 (Tm.cellsL d4) (rowsI (rotB bs q) bs.length) m p (Tm.cellsL ha) (ltL hc) (ltL hc.reverse) [] [] [] [] true true) ?_
    unfold PO3
    simp only [ok_br, ok_owe, ok_ret, ok_jmp, decide_eq_true_eq, decide_eq_false_iff_not, Int.toNat_natCast, true_and, and_true, Bool.not_eq_true', Bool.not_eq_false', List.drop_zero, List.take_length, D.bool.injEq, D.int.injEq, D.str.injEq, true_implies, Int.le_refl]
    refine ⟨fun _ => ⟨⟨by omega, hg⟩, ⟨by omega, hg⟩, hrv, ⟨?_, by omega⟩, by omega, hI⟩, fun h => by omega⟩
    intro y hy
    rw [List.mem_singleton] at hy
    subst hy
    rfl
theorem ord_el (i : Nat) (rows : List (List D)) (hir : i < rows.length) (hrl : rows.length ≤ 1000) (b : Bo) (hb : rows[i]? = some b.cs) (hel : b.e.length ≤ 1000) (hec : ∀ y ∈ b.e, y.c.length ≤ 1000)
    (K : At Tryz.prog 0 (cut sc4 0) ⟨[(2, .ptr 0 0), (5, .ptr 1 0), (7, .int .i64 (i + 1))], obO (rR k hs a1 a2 a3 a4 b1 b2 b3 b4 bs c1 c2 c3 c4 d1 d2 d3 d4 ts) (xR k a1 a2 a3 a4 b1 b2 b3 b4 c1 c2 c3 c4 d1 d2 d3 d4 ts (.slice (heL hs) []) (.vec 2)) (rows.set i ({ b with e := b.e.reverse.map revE } : Bo).cs)⟩ QO) : ∀ (m : Nat) (j : Int), j = m - 1 → m ≤ b.e.length →
    At Tryz.prog 0 (cut sc4 1) ⟨[(2, .ptr 0 0), (5, .ptr 1 0), (7, .int .i64 i), (8, .vec 2), (9, .int .i64 j)], obO2 (rR k hs a1 a2 a3 a4 b1 b2 b3 b4 bs c1 c2 c3 c4 d1 d2 d3 d4 ts) (xR k a1 a2 a3 a4 b1 b2 b3 b4 c1 c2 c3 c4 d1 d2 d3 d4 ts (.slice (heL hs) []) (.vec 3)) (elL ((b.e.drop m).reverse.map revE)) rows⟩ QO := by
  obtain ⟨bk, ⟨lk, ln, lp, la, lo, ⟨x1, x2, x3, x4⟩, ⟨y1, y2, y3, y4⟩⟩, bc, bno, bf, be, bop, ⟨t1, t2, t3, t4⟩⟩ := b
  simp only at hel hec
  intro m
  induction m with
  | zero =>
    intro j hj hm
    have hgd : rows.getD i [] = Bo.cs ⟨bk, ⟨lk, ln, lp, la, lo, .mk x1 x2 x3 x4, .mk y1 y2 y3 y4⟩, bc, bno, bf, be, bop, .mk t1 t2 t3 t4⟩ := by
      rw [List.getD_eq_getElem?_getD, hb]; rfl
    refine At.tree (dCtr_ok qnone_ok) (PO2_eq k (heL hs) (boL bs) (Tm.cellsL ts) a1 a2 a3 (Tm.cellsL a4) b1 b2 b3 (Tm.cellsL b4) c1 c2 c3 (Tm.cellsL c4) d1 d2 d3 (Tm.cellsL d4) (elL ((be.drop 0).reverse.map revE)) rows i j bk lk ln lp (Tm.cellsL la) lo x1 x2 x3 (Tm.cellsL x4) y1 y2 y3 (Tm.cellsL y4) (ltL bc) bno bf (elL be) bop t1 t2 t3 (Tm.cellsL t4) [] [] []) ?_
    unfold PO2
    simp only [ok_br, ok_owe, ok_ret, ok_jmp, decide_eq_true_eq, decide_eq_false_iff_not, Int.toNat_natCast, true_and, and_true, Bool.not_eq_true', Bool.not_eq_false', List.drop_zero, List.take_length, D.bool.injEq, D.int.injEq, D.str.injEq, true_implies, Int.le_refl]
    refine ⟨fun h => by omega, fun _ => ?_⟩
    refine At.tree (dCtr_ok qnone_ok) (PO5_eq k (heL hs) (boL bs) (Tm.cellsL ts) a1 a2 a3 (Tm.cellsL a4) b1 b2 b3 (Tm.cellsL b4) c1 c2 c3 (Tm.cellsL c4) d1 d2 d3 (Tm.cellsL d4) (elL (be.reverse.map revE)) rows i) ?_
    unfold PO5
    simp only [ok_br, ok_owe, ok_ret, ok_jmp, decide_eq_true_eq, decide_eq_false_iff_not, Int.toNat_natCast, true_and, and_true, Bool.not_eq_true', Bool.not_eq_false', List.drop_zero, List.take_length, D.bool.injEq, D.int.injEq, D.str.injEq, true_implies, Int.le_refl]
    refine ⟨⟨by omega, by omega⟩, hir, by omega, ?_⟩
    rw [hgd]
    exact K
  | succ m ih =>
    intro j hj hm
    have h1 : m < be.length := by simp only at hm; omega
    have hI := ih (j - 1) (by omega) (by omega)
    have hg := elL_get h1
    have hfc := hec _ (List.getElem_mem h1)
    simp only at hI ⊢
    rw [drop_cons h1, List.reverse_cons, List.map_append, elL_app] at hI
    obtain rfl : j = m := by omega
    have hlen : (elL ((be.drop (m + 1)).reverse.map revE)).length ≤ 1000 := by
      rw [elL_len, List.length_map, List.length_reverse, List.length_drop]; omega
    generalize elL ((be.drop (m + 1)).reverse.map revE) = E at hI hlen ⊢
    generalize be[m] = x at hg hI hfc
    obtain ⟨et, ec⟩ := x
    have hrv := reversed_ok ec (by simp only at hfc; omega)
    refine At.tree (dCtr_ok qnone_ok) (PO2_eq k (heL hs) (boL bs) (Tm.cellsL ts) a1 a2 a3 (Tm.cellsL a4) b1 b2 b3 (Tm.cellsL b4) c1 c2 c3 (Tm.cellsL c4) d1 d2 d3 (Tm.cellsL d4) E rows i m bk lk ln lp (Tm.cellsL la) lo x1 x2 x3 (Tm.cellsL x4) y1 y2 y3 (Tm.cellsL y4) (ltL bc) bno bf (elL be) bop t1 t2 t3 (Tm.cellsL t4) (Tm.cellsL et) (ltL ec) (ltL ec.reverse)) ?_
    unfold PO2
    simp only [ok_br, ok_owe, ok_ret, ok_jmp, decide_eq_true_eq, decide_eq_false_iff_not, Int.toNat_natCast, true_and, and_true, Bool.not_eq_true', Bool.not_eq_false', List.drop_zero, List.take_length, D.bool.injEq, D.int.injEq, D.str.injEq, true_implies, Int.le_refl]
    refine ⟨fun _ => ⟨⟨by omega, by omega⟩, hb, ⟨by omega, hg⟩, hrv, ⟨?_, by omega⟩, by omega, hI⟩, fun h => by omega⟩
    intro y hy
    rw [List.mem_singleton] at hy
    subst hy
    rfl
theorem ord_b : ∀ (m i : Nat), bs.length - i = m → i ≤ bs.length →
    At Tryz.prog 0 (cut sc4 0) ⟨[(2, .ptr 0 0), (5, .ptr 1 0), (7, .int .i64 i)], obO (rR k hs a1 a2 a3 a4 b1 b2 b3 b4 bs c1 c2 c3 c4 d1 d2 d3 d4 ts) (xR k a1 a2 a3 a4 b1 b2 b3 b4 c1 c2 c3 c4 d1 d2 d3 d4 ts (.slice (heL hs) []) (.vec 2)) (rowsI (rotB bs q) i)⟩ QO := by
  have hbl := hf.bl
  have hhl := hf.hl
  simp only at hbl hhl
  have hrl := rotB_len bs q
  intro m
  induction m with
  | zero =>
    intro i hm hi
    obtain rfl : i = bs.length := by omega
    have hA := ord_hA k hs a1 a2 a3 a4 b1 b2 b3 b4 bs c1 c2 c3 c4 d1 d2 d3 d4 ts hw hf q ((hs.length : Int) - 1) rfl
    refine At.tree (dCtr_ok qnone_ok) (PO1_eq k (heL hs) (boL bs) (Tm.cellsL ts) a1 a2 a3 (Tm.cellsL a4) b1 b2 b3 (Tm.cellsL b4) c1 c2 c3 (Tm.cellsL c4) d1 d2 d3 (Tm.cellsL d4) (rowsI (rotB bs q) bs.length) bs.length 0 0 true [] [] 0 0 0 [] [] 0 0 [] [] [] true 0 [] 0 0 0 [] [] []) ?_
    unfold PO1
    simp only [ok_br, ok_owe, ok_ret, ok_jmp, decide_eq_true_eq, decide_eq_false_iff_not, Int.toNat_natCast, true_and, and_true, Bool.not_eq_true', Bool.not_eq_false', List.drop_zero, List.take_length, D.bool.injEq, D.int.injEq, D.str.injEq, true_implies, Int.le_refl, rowsI_len, heL_len, hrl]
    exact ⟨fun h => by omega, fun _ => ⟨by omega, hA⟩⟩
  | succ m ih =>
    intro i hm hi
    have hiL : i < (rotB bs q).length := by omega
    have hI := ih (i + 1) (by omega) (by omega)
    have hg := rowsI_get hiL
    have hst := rowsI_set hiL
    have hlen := rowsI_len (rotB bs q) i
    obtain ⟨f1, f2, f3, f4, f5⟩ := hf.b _ (rotB_mem.1 (List.getElem_mem hiL))
    rw [← hst] at hI
    generalize rowsI (rotB bs q) i = rows at hI hg hlen ⊢
    generalize (rotB bs q)[i] = x at hI hg f2 f4 f5
    have hir : i < rows.length := by omega
    have hE := ord_el k hs a1 a2 a3 a4 b1 b2 b3 b4 bs c1 c2 c3 c4 d1 d2 d3 d4 ts hw hf i (rows.set i ({ x with c := x.c.reverse } : Bo).cs) (by rw [List.length_set]; exact hir) (by rw [List.length_set]; omega) { x with c := x.c.reverse } (List.getElem?_set_self hir) (by simp only; omega) (fun y hy => by have := (f5 y hy).2.1; omega) (by rw [List.set_set]; exact hI) x.e.length ((x.e.length : Int) - 1) rfl (Nat.le_refl _)
    have hrv := reversed_ok x.c (by have := f2.1; omega)
    have hxe := f4
    obtain ⟨bk, ⟨lk, ln, lp, la, lo, ⟨x1, x2, x3, x4⟩, ⟨y1, y2, y3, y4⟩⟩, bc, bno, bf, be, bop, ⟨t1, t2, t3, t4⟩⟩ := x
    simp only at hrv hxe
    have hgd : rows.getD i [] = Bo.cs ⟨bk, ⟨lk, ln, lp, la, lo, .mk x1 x2 x3 x4, .mk y1 y2 y3 y4⟩, bc, bno, bf, be, bop, .mk t1 t2 t3 t4⟩ := by
      rw [List.getD_eq_getElem?_getD, hg]; rfl
    simp only [List.drop_length, List.reverse_nil, List.map_nil] at hE
    refine At.tree (dCtr_ok qnone_ok) (PO1_eq k (heL hs) (boL bs) (Tm.cellsL ts) a1 a2 a3 (Tm.cellsL a4) b1 b2 b3 (Tm.cellsL b4) c1 c2 c3 (Tm.cellsL c4) d1 d2 d3 (Tm.cellsL d4) rows i bk lk ln lp (Tm.cellsL la) lo x1 x2 x3 (Tm.cellsL x4) y1 y2 y3 (Tm.cellsL y4) (ltL bc) bno bf (elL be) bop t1 t2 t3 (Tm.cellsL t4) (ltL bc.reverse)) ?_
    unfold PO1
    simp only [ok_br, ok_owe, ok_ret, ok_jmp, decide_eq_true_eq, decide_eq_false_iff_not, Int.toNat_natCast, true_and, and_true, Bool.not_eq_true', Bool.not_eq_false', List.drop_zero, List.take_length, D.bool.injEq, D.int.injEq, D.str.injEq, true_implies, Int.le_refl, elL_len, List.length_set]
    rw [hgd]
    exact ⟨fun _ => ⟨⟨by omega, by omega⟩, hg, hrv, ⟨by omega, by omega⟩, by omega, ⟨by omega, by omega⟩, List.getElem?_set_self hir, by omega, hE⟩, fun h => by omega⟩
end
theorem order_of (haw : FnOK Tryz.prog 7 [] (.bool true)) (r : Ru) (hw : r.wf 281474976710656) (turn : Int) : FnOK Tryz.prog 4 [.agg r.cs, .int .i64 turn] (.bool true) := by
  have hsz := szr_ok r hw 400 (by omega)
  by_cases hbig : 400 < szRu r 400
  · generalize szRu r 400 = n at hsz hbig
    obtain ⟨k, hs, ⟨a1, a2, a3, a4⟩, ⟨b1, b2, b3, b4⟩, bs, ⟨c1, c2, c3, c4⟩, ⟨d1, d2, d3, d4⟩, ts⟩ := r
    refine FnOK.tree hdraw fp4 (dCtr_ok qnone_ok) (PO0_eq k (heL hs) (boL bs) (Tm.cellsL ts) a1 a2 a3 (Tm.cellsL a4) b1 b2 b3 (Tm.cellsL b4) c1 c2 c3 (Tm.cellsL c4) d1 d2 d3 (Tm.cellsL d4) turn n 0) ?_
    unfold PO0
    simp only [ok_br, ok_owe, ok_ret, ok_jmp, decide_eq_true_eq, decide_eq_false_iff_not, Int.toNat_natCast, true_and, and_true, Bool.not_eq_true', Bool.not_eq_false', List.drop_zero, List.take_length, D.bool.injEq, D.int.injEq, D.str.injEq, true_implies, Int.le_refl]
    exact ⟨haw, hsz, fun _ => trivial, fun h => absurd hbig h⟩
  · have hf := szRu_few (show szRu r 400 ≤ 400 by omega)
    generalize szRu r 400 = n at hsz hbig
    obtain ⟨k, hs, ⟨a1, a2, a3, a4⟩, ⟨b1, b2, b3, b4⟩, bs, ⟨c1, c2, c3, c4⟩, ⟨d1, d2, d3, d4⟩, ts⟩ := r
    have hbl := hf.bl
    simp only at hbl
    have hN : 1 ≤ max (bs.length : Int) 1 ∧ max (bs.length : Int) 1 ≤ 1000 := by omega
    generalize hNe : max (bs.length : Int) 1 = N at hN
    have hpk := pick_ok turn N hN.1 (by omega)
    have hpl := pkI_lt (x := turn) hN.1
    generalize pkI turn N = p at hpk hpl
    obtain ⟨q, rfl⟩ : ∃ q : Nat, p = q := ⟨p.toNat, by omega⟩
    have hq : q ≤ bs.length := by omega
    have hB := ord_b k hs a1 a2 a3 a4 b1 b2 b3 b4 bs c1 c2 c3 c4 d1 d2 d3 d4 ts hw hf q _ 0 rfl (Nat.zero_le _)
    have e0 : rowsI (rotB bs q) 0 = [] ++ (boL bs).drop q ++ (boL bs).take q := by
      unfold rowsI rotB boL
      simp [List.map_drop, List.map_take]
    have e1 : (if 1 > (bs.length : Int) then 1 else (bs.length : Int)) = N := by
      rw [← hNe]
      split <;> omega
    rw [e0] at hB
    refine FnOK.tree hdraw fp4 (dCtr_ok qnone_ok) (PO0_eq k (heL hs) (boL bs) (Tm.cellsL ts) a1 a2 a3 (Tm.cellsL a4) b1 b2 b3 (Tm.cellsL b4) c1 c2 c3 (Tm.cellsL c4) d1 d2 d3 (Tm.cellsL d4) turn n q) ?_
    unfold PO0
    simp only [ok_br, ok_owe, ok_ret, ok_jmp, decide_eq_true_eq, decide_eq_false_iff_not, Int.toNat_natCast, true_and, and_true, Bool.not_eq_true', Bool.not_eq_false', List.drop_zero, List.take_length, D.bool.injEq, D.int.injEq, D.str.injEq, true_implies, Int.le_refl, boL_len, List.append_nil, if_true, e1, List.length_append, List.length_drop, List.length_take, List.length_nil]
    have t1 : (boL bs).take bs.length = boL bs := by rw [← boL_len bs, List.take_length]
    rw [t1]
    refine ⟨haw, hsz, fun h => absurd h hbig, fun _ => ⟨hpk, ⟨al23 bs, by omega, by omega⟩, ⟨?_, by omega⟩, ⟨al23 bs, by omega, by omega⟩, ⟨?_, by omega⟩, hB⟩⟩
    · intro y hy
      exact al23 bs y (List.mem_of_mem_drop hy)
    · intro y hy
      exact al23 bs y (List.mem_of_mem_take hy)
end Go.Proofs.YtiafmjolbacdaaaGreat
