/- within, element, global, proved. -/
import Derived.Test.YtiafmjolbacdaaaGreatSafU
set_option linter.unusedSectionVars false
set_option linter.unusedVariables false
set_option linter.unusedSimpArgs false
set_option linter.deprecated false
set_option maxRecDepth 100000
namespace Go.Proofs.YtiafmjolbacdaaaGreat
open Go.Sx Go.RowKit
theorem withinT_app (a b : List Lt) : withinT (a ++ b) = withinT a ++ withinT b := by simp [withinT]
theorem al4 (l : List Tm) : allLen 4 (Tm.cellsL l) := by
  intro q hq
  rw [cellsL_map] at hq
  obtain ⟨t, _, rfl⟩ := List.mem_map.1 hq
  exact cells_length t
theorem cellsL_app (a b : List Tm) : Tm.cellsL (a ++ b) = Tm.cellsL a ++ Tm.cellsL b := by simp [cellsL_map]
theorem within_at (l : List Lt) (hl : l.length ≤ 281474976710656) (hz : (withinT l).length ≤ 1073741824) : ∀ (m i : Nat), l.length - i = m → i ≤ l.length →
    At Tryz.prog 0 (cut sc41 0) (hdWi (ltL l) [] (Tm.cellsL (withinT (l.take i))) l.length i) (FinQ false 0 rs41 fun r ob => r = .func (.func fT) [] [.ptr 0 0] ∧ ob = [(0, .cells [.slice (Tm.cellsL (withinT l)) []])]) := by
  intro m
  induction m with
  | zero =>
    intro i hm hi
    refine At.tree (ctr_ok libT_ok varQ_ok) (CWi2_eq (ltL l) [] (Tm.cellsL (withinT (l.take i))) l.length i 0 true [] [] 0 0 0 [] [] 0 0 [] []) ?_
    unfold CWi2
    rw [List.take_of_length_le (by omega : l.length ≤ i), ok_br]
    refine ⟨fun h => ?_, fun _ => ?_⟩
    · have := of_decide_eq_true h
      omega
    · rw [ok_owe, ok_ret]
      exact ⟨trivial, rfl, rfl⟩
  | succ m ih =>
    intro i hm hi
    have h1 : i < l.length := by omega
    have hI := ih (i + 1) (by omega) (by omega)
    have hg := ltL_get h1
    have hw : withinT (l.take (i + 1)) = withinT (l.take i) ++ (l[i].a ++ [l[i].l, l[i].r]) := by
      rw [List.take_add_one, List.getElem?_eq_getElem h1, withinT_app]
      simp [withinT]
    have hlen : (withinT (l.take (i + 1))).length ≤ 1073741824 := by
      have e : withinT l = withinT (l.take (i + 1)) ++ withinT (l.drop (i + 1)) := by rw [← withinT_app, List.take_append_drop]
      rw [e, List.length_append] at hz
      omega
    rw [hw] at hI hlen
    generalize withinT (l.take i) = R at hI hlen ⊢
    generalize l[i] = x at hg hI hlen
    obtain ⟨k, no, p, a, op, ⟨kx, nx, sx, ax⟩, ⟨ky, ny, sy, ay⟩⟩ := x
    simp only [List.length_append, List.length_cons, List.length_nil] at hlen
    rw [← List.append_assoc, cellsL_app, cellsL_app] at hI
    refine At.tree (ctr_ok libT_ok varQ_ok) (CWi2_eq (ltL l) [] (Tm.cellsL R) l.length i k no p (Tm.cellsL a) op kx nx sx (Tm.cellsL ax) ky ny sy (Tm.cellsL ay)) ?_
    unfold CWi2
    rw [ok_br]
    refine ⟨fun _ => ?_, fun h => ?_⟩
    · rw [ok_owe, Int.toNat_natCast, ok_owe, ok_owe, ok_owe, ok_jmp, List.length_append, cellsL_length, cellsL_length]
      exact ⟨⟨by omega, hg⟩, ⟨al4 a, by omega⟩, ⟨al4 [.mk kx nx sx ax, .mk ky ny sy ay], by omega⟩, by omega, hI⟩
    · have := of_decide_eq_false h; omega
def okC (l : List Lt) : Prop := l.length ≤ 1000000 ∧ (∀ x ∈ l, okL x) ∧ (withinT l).length ≤ 1073741824
theorem okC_T {l : List Lt} (h : okC l) : okT (withinT l) := by
  refine ⟨by have := h.2.2; omega, fun t ht => ?_⟩
  obtain ⟨x, hx, ht⟩ := List.mem_flatMap.1 ht
  obtain ⟨h1, h2, h3, h4, h5⟩ := h.2.1 x hx
  rcases List.mem_append.1 ht with ht | ht
  · exact ⟨wfL_all.1 h2 t ht, Nat.le_trans (vsL_mem ht) h3⟩
  · rcases List.mem_cons.1 ht with rfl | ht
    · exact h4
    · rw [List.mem_singleton] at ht
      exact ht ▸ h5
theorem within_ok (l : List Lt) (hc : okC l) : CallL Tryz.prog (.func (.func 41) [] []) [.slice (ltL l) []] [] fun r ob => r = .func (.func fT) [] [.ptr 0 0] ∧ ob = [(0, .cells [.slice (Tm.cellsL (withinT l)) []])] := by
  have h1 := hc.1
  refine CallL.tree hdraw fp41 (ctr_ok libT_ok qnone_ok) (CWi_eq (ltL l) []) ?_
  unfold CWi
  rw [ok_jmp, ltL_len]
  exact within_at l (by omega) hc.2.2 _ 0 rfl (Nat.zero_le _)
theorem element_ok (G U : List Nm) (c : List Lt) (names : List Tm) (hc : okC c) (hn : okT names) (hG : G.Nodup) : CallL Tryz.prog (.func (.func 40) [] []) [.agg [.map 0, .map 1], .slice (ltL c) [], .func (.func fT) [] [.ptr 2 0]] [(0, setO G), (1, setO U), (2, .cells [.slice (Tm.cellsL names) []])] fun r ob => r = .tuple [] ∧ ob = [(0, setO G), (1, setO (elemS G U c (varsL names))), (2, .cells [.slice (Tm.cellsL names) []])] := by
  have hb := bound_ok c (by have := hc.1; omega) hc.2.1 G hG
  have h1 := checkT_ok names hn G U (closeS G c)
  have hw := within_ok c hc
  have h2 := checkT_ok (withinT c) (okC_T hc) G (ckS U (varsL names) (closeS G c)) (closeS G c)
  show CallL _ _ _ _ fun r ob => r = .tuple [] ∧ ob = [(0, setO G), (1, setO (ckS (ckS U (varsL names) (closeS G c)) (varsL (withinT c)) (closeS G c))), (2, .cells [.slice (Tm.cellsL names) []])]
  generalize closeS G c = B at hb h1 h2 ⊢
  generalize ckS U (varsL names) B = U1 at h1 h2 ⊢
  generalize ckS U1 (varsL (withinT c)) B = U2 at h2 ⊢
  refine CallL.tree hdraw fp40 (ctrS_ok libT_ok (byT_ok ?_)) (CEl_eq (kS G) (uS G) (kS U) (uS U) (kS B) (uS B) (kS U1) (uS U1) (kS U2) (uS U2) (ltL c) (Tm.cellsL names) (Tm.cellsL (withinT c))) ?_
  · intro x hx
    simp only [List.mem_cons, List.not_mem_nil, or_false] at hx
    rcases hx with rfl | rfl | rfl | rfl
    · exact asmO_ok _ _
    · exact asmA_ok _ _
    · exact asmW_ok _
    · exact asmA_ok _ _
  · unfold CEl
    rw [ok_owe, ok_owe, ok_owe, ok_owe, ok_ret]
    exact ⟨hb, h1, hw, h2, rfl, rfl⟩
structure okR (r : Ru) : Prop where
  t4 : okT [r.lo, r.up, r.w, r.lv]
  tt : okT r.t
  hl : r.h.length ≤ 281474976710656
  h : ∀ x ∈ r.h, okT x.a ∧ okC x.c
  bl : r.b.length ≤ 1000000
  b : ∀ x ∈ r.b, okC [x.l] ∧ okT [x.b] ∧ okC x.c ∧ x.e.length ≤ 281474976710656 ∧ ∀ y ∈ x.e, okT y.t ∧ okC y.c
theorem global_b (bs : List Bo) (hl : bs.length ≤ 1000000) (hb : ∀ x ∈ bs, okC [x.l] ∧ okT [x.b]) : ∀ (m i : Nat) (S : List Nm), bs.length - i = m → i ≤ bs.length →
    At Tryz.prog 0 (cut sc30 1) (hdGb (boL bs) bs.length i (kS S) (uS S)) (FinQ false 0 rs30 fun r ob => r = .map 0 ∧ ob = [(0, setO ((bs.drop i).foldl gBody S))]) := by
  have hby : ∀ (vk vc : List D) (w : List (List D)), ∀ x ∈ [((63 : Nat), asmW w), (64, asmA (.tuple []) (updM vk vc)), (71, varQ), (72, asmA (.tuple []) (updM vk vc))], x.2.OK := fun vk vc w x hx => by
    simp only [List.mem_cons, List.not_mem_nil, or_false] at hx
    rcases hx with rfl | rfl | rfl | rfl
    · exact asmW_ok _
    · exact asmA_ok _ _
    · exact varQ_ok
    · exact asmA_ok _ _
  intro m
  induction m with
  | zero =>
    intro i S hm hi
    refine At.tree (ctrS_ok libT_ok (byT_ok (hby _ _ _))) (CGb_eq (boL bs) (kS S) (uS S) [] [] bs.length i 0 0 true [] [] 0 0 0 [] [] 0 0 [] [] [] true 0 [] 0 0 0 [] [] []) ?_
    unfold CGb
    rw [List.drop_eq_nil_of_le (by omega : bs.length ≤ i), ok_br]
    refine ⟨fun h => ?_, fun _ => ⟨rfl, rfl⟩⟩
    have := of_decide_eq_true h
    omega
  | succ m ih =>
    intro i S hm hi
    have h1 : i < bs.length := by omega
    have hg := boL_get h1
    obtain ⟨o1, o2⟩ := hb _ (List.getElem_mem h1)
    rw [drop_cons h1, List.foldl_cons]
    have hI := ih (i + 1) (gBody S bs[i]) (by omega) (by omega)
    have hw := within_ok [bs[i].l] o1
    have ha1 := addT_ok (withinT [bs[i].l]) (okC_T o1) S
    have ha3 := addT_ok [bs[i].b] o2 S
    have he : gBody S bs[i] = if bs[i].k = 1 then addS S (varsL (withinT [bs[i].l])) else if bs[i].k = 3 then addS S (varsL [bs[i].b]) else S := rfl
    generalize gBody S bs[i] = S2 at hI he ⊢
    generalize bs[i] = x at hg he hw ha1 ha3
    obtain ⟨k, ⟨lk, ln, lp, la, lo, ⟨x1, x2, x3, x4⟩, ⟨y1, y2, y3, y4⟩⟩, c, no, f, e, op, ⟨t1, t2, t3, t4⟩⟩ := x
    simp only at he
    by_cases hk : k = 1
    · rw [if_pos hk] at he
      subst he
      refine At.tree (ctrS_ok libT_ok (byT_ok (hby _ _ _))) (CGb_eq (boL bs) (kS S) (uS S) (kS (addS S (varsL (withinT [⟨lk, ln, lp, la, lo, .mk x1 x2 x3 x4, .mk y1 y2 y3 y4⟩])))) (uS (addS S (varsL (withinT [⟨lk, ln, lp, la, lo, .mk x1 x2 x3 x4, .mk y1 y2 y3 y4⟩])))) bs.length i k lk ln lp (Tm.cellsL la) lo x1 x2 x3 (Tm.cellsL x4) y1 y2 y3 (Tm.cellsL y4) (ltL c) no f (elL e) op t1 t2 t3 (Tm.cellsL t4) (Tm.cellsL (withinT [⟨lk, ln, lp, la, lo, .mk x1 x2 x3 x4, .mk y1 y2 y3 y4⟩]))) ?_
      unfold CGb
      simp only [ok_br, ok_owe, ok_ret, ok_jmp, decide_eq_true_eq, decide_eq_false_iff_not, Int.toNat_natCast, true_and, and_true, Bool.not_eq_true', Bool.not_eq_false', List.drop_zero, List.take_length, D.bool.injEq, D.int.injEq, D.str.injEq, true_implies, Int.le_refl]
      exact ⟨fun _ => ⟨⟨by omega, hg⟩, fun _ => ⟨hw, ha1, by omega, hI⟩, fun h => absurd (by omega) h⟩, fun h => by omega⟩
    · rw [if_neg hk] at he
      refine At.tree (ctrS_ok libT_ok (byT_ok (hby _ _ _))) (CGb_eq (boL bs) (kS S) (uS S) (kS (addS S (varsL [.mk t1 t2 t3 t4]))) (uS (addS S (varsL [.mk t1 t2 t3 t4]))) bs.length i k lk ln lp (Tm.cellsL la) lo x1 x2 x3 (Tm.cellsL x4) y1 y2 y3 (Tm.cellsL y4) (ltL c) no f (elL e) op t1 t2 t3 (Tm.cellsL t4) []) ?_
      unfold CGb
      simp only [ok_br, ok_owe, ok_ret, ok_jmp, decide_eq_true_eq, decide_eq_false_iff_not, Int.toNat_natCast, true_and, and_true, Bool.not_eq_true', Bool.not_eq_false', List.drop_zero, List.take_length, D.bool.injEq, D.int.injEq, D.str.injEq, true_implies, Int.le_refl]
      refine ⟨fun _ => ⟨⟨by omega, hg⟩, fun h => absurd (by omega) hk, fun _ => ⟨fun h3 => ?_, fun h3 => ?_⟩⟩, fun h => by omega⟩
      · rw [if_pos (by omega)] at he
        subst he
        exact ⟨ha3, by omega, hI⟩
      · rw [if_neg (by omega)] at he
        subst he
        exact ⟨by omega, hI⟩
end Go.Proofs.YtiafmjolbacdaaaGreat
