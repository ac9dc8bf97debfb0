/- global, unsafe, proved. -/
import Derived.Test.YtiafmjolbacdaaaGreatSafV
set_option linter.unusedSectionVars false
set_option linter.unusedVariables false
set_option linter.unusedSimpArgs false
set_option linter.deprecated false
set_option maxRecDepth 100000
namespace Go.Proofs.YtiafmjolbacdaaaGreat
open Go.Sx Go.RowKit
section
variable (k : Nat) (hs : List He) (a1 : Nat) (a2 : Int) (a3 : Nm) (a4 : List Tm) (b1 : Nat) (b2 : Int) (b3 : Nm) (b4 : List Tm) (bs : List Bo) (c1 : Nat) (c2 : Int) (c3 : Nm) (c4 : List Tm) (d1 : Nat) (d2 : Int) (d3 : Nm) (d4 : List Tm) (ts : List Tm)
theorem global_h (hr : okR ⟨k, hs, .mk a1 a2 a3 a4, .mk b1 b2 b3 b4, bs, .mk c1 c2 c3 c4, .mk d1 d2 d3 d4, ts⟩) : ∀ (m i : Nat) (S : List Nm), hs.length - i = m → i ≤ hs.length →
    At Tryz.prog 0 (cut sc30 0) (hdGh (rC k (heL hs) (boL bs) (Tm.cellsL ts) a1 a2 a3 (Tm.cellsL a4) b1 b2 b3 (Tm.cellsL b4) c1 c2 c3 (Tm.cellsL c4) d1 d2 d3 (Tm.cellsL d4)) (heL hs) hs.length i (kS S) (uS S)) (FinQ false 0 rs30 fun r ob => r = .map 0 ∧ ob = [(0, setO (bs.foldl gBody ((hs.drop i).foldl (gHead k) S)))]) := by
  have hby : ∀ (vk vc wk wc : List D) (w : List (List D)), ∀ x ∈ [((40 : Nat), varQ), (41, asmA (.tuple []) (updM vk vc)), (45, asmW w), (46, asmA (.tuple []) (updM wk wc))], x.2.OK := fun vk vc wk wc w x hx => by
    simp only [List.mem_cons, List.not_mem_nil, or_false] at hx
    rcases hx with rfl | rfl | rfl | rfl
    · exact varQ_ok
    · exact asmA_ok _ _
    · exact asmW_ok _
    · exact asmA_ok _ _
  have hbl := hr.bl
  have hhl := hr.hl
  have hhx := hr.h
  simp only at hbl hhl hhx
  intro m
  induction m with
  | zero =>
    intro i S hm hi
    have hB := global_b bs hbl (fun x hx => ⟨(hr.b x hx).1, (hr.b x hx).2.1⟩) _ 0 S rfl (Nat.zero_le _)
    refine At.tree (ctrS_ok libT_ok (byT_ok (hby _ _ _ _ _))) (CGh_eq k (heL hs) (boL bs) (Tm.cellsL ts) a1 a2 a3 (Tm.cellsL a4) b1 b2 b3 (Tm.cellsL b4) c1 c2 c3 (Tm.cellsL c4) d1 d2 d3 (Tm.cellsL d4) (kS S) (uS S) [] [] [] [] hs.length i [] [] [] []) ?_
    unfold CGh
    rw [List.drop_eq_nil_of_le (by omega : hs.length ≤ i)]
    simp only [ok_br, ok_owe, ok_ret, ok_jmp, decide_eq_true_eq, decide_eq_false_iff_not, Int.toNat_natCast, true_and, and_true, Bool.not_eq_true', Bool.not_eq_false', List.drop_zero, List.take_length, D.bool.injEq, D.int.injEq, D.str.injEq, true_implies, Int.le_refl, boL_len]
    exact ⟨fun h => by omega, fun _ => hB⟩
  | succ m ih =>
    intro i S hm hi
    have h1 : i < hs.length := by omega
    have hg := heL_get h1
    obtain ⟨o1, o2⟩ := hhx _ (List.getElem_mem h1)
    rw [drop_cons h1, List.foldl_cons]
    have hI := ih (i + 1) (gHead k S hs[i]) (by omega) (by omega)
    have hw := within_ok hs[i].c o2
    have ha1 := addT_ok hs[i].a o1 S
    have ha2 := addT_ok (withinT hs[i].c) (okC_T o2) (addS S (varsL hs[i].a))
    have he : gHead k S hs[i] = if k = 2 then S else addS (addS S (varsL hs[i].a)) (varsL (withinT hs[i].c)) := rfl
    generalize gHead k S hs[i] = S2 at hI he ⊢
    generalize hs[i] = x at hg he hw ha1 ha2
    obtain ⟨p, ha, hc⟩ := x
    simp only at he hw ha1 ha2
    refine At.tree (ctrS_ok libT_ok (byT_ok (hby _ _ _ _ _))) (CGh_eq k (heL hs) (boL bs) (Tm.cellsL ts) a1 a2 a3 (Tm.cellsL a4) b1 b2 b3 (Tm.cellsL b4) c1 c2 c3 (Tm.cellsL c4) d1 d2 d3 (Tm.cellsL d4) (kS S) (uS S) (kS (addS S (varsL ha))) (uS (addS S (varsL ha))) (kS (addS (addS S (varsL ha)) (varsL (withinT hc)))) (uS (addS (addS S (varsL ha)) (varsL (withinT hc)))) hs.length i p (Tm.cellsL ha) (ltL hc) (Tm.cellsL (withinT hc))) ?_
    unfold CGh
    simp only [ok_br, ok_owe, ok_ret, ok_jmp, decide_eq_true_eq, decide_eq_false_iff_not, Int.toNat_natCast, true_and, and_true, Bool.not_eq_true', Bool.not_eq_false', List.drop_zero, List.take_length, D.bool.injEq, D.int.injEq, D.str.injEq, true_implies, Int.le_refl]
    refine ⟨fun _ => ⟨⟨by omega, hg⟩, fun h => ?_, fun h => ?_⟩, fun h => by omega⟩
    · rw [if_neg (by omega)] at he
      subst he
      exact ⟨ha1, hw, ha2, by omega, hI⟩
    · rw [if_pos (by omega)] at he
      subst he
      exact ⟨by omega, hI⟩
theorem global_ok (hr : okR ⟨k, hs, .mk a1 a2 a3 a4, .mk b1 b2 b3 b4, bs, .mk c1 c2 c3 c4, .mk d1 d2 d3 d4, ts⟩) : CallL Tryz.prog (.func (.func 30) [] []) [.agg (rC k (heL hs) (boL bs) (Tm.cellsL ts) a1 a2 a3 (Tm.cellsL a4) b1 b2 b3 (Tm.cellsL b4) c1 c2 c3 (Tm.cellsL c4) d1 d2 d3 (Tm.cellsL d4))] [] fun r ob => r = .map 0 ∧ ob = [(0, setO (globalS ⟨k, hs, .mk a1 a2 a3 a4, .mk b1 b2 b3 b4, bs, .mk c1 c2 c3 c4, .mk d1 d2 d3 d4, ts⟩))] := by
  have h1 := addT_ok [.mk a1 a2 a3 a4, .mk b1 b2 b3 b4, .mk c1 c2 c3 c4, .mk d1 d2 d3 d4] hr.t4 []
  have h2 := addT_ok ts hr.tt (addS [] (varsL [.mk a1 a2 a3 a4, .mk b1 b2 b3 b4, .mk c1 c2 c3 c4, .mk d1 d2 d3 d4]))
  have hH := global_h k hs a1 a2 a3 a4 b1 b2 b3 b4 bs c1 c2 c3 c4 d1 d2 d3 d4 ts hr _ 0 (addS (addS [] (varsL [.mk a1 a2 a3 a4, .mk b1 b2 b3 b4, .mk c1 c2 c3 c4, .mk d1 d2 d3 d4])) (varsL ts)) rfl (Nat.zero_le _)
  unfold globalS
  simp only
  generalize addS [] (varsL [.mk a1 a2 a3 a4, .mk b1 b2 b3 b4, .mk c1 c2 c3 c4, .mk d1 d2 d3 d4]) = S1 at h1 h2 hH ⊢
  generalize addS S1 (varsL ts) = S2 at h2 hH ⊢
  refine CallL.tree hdraw fp30 (ctrS_ok libT_ok (byT_ok ?_)) (CGl_eq k (heL hs) (boL bs) (Tm.cellsL ts) a1 a2 a3 (Tm.cellsL a4) b1 b2 b3 (Tm.cellsL b4) c1 c2 c3 (Tm.cellsL c4) d1 d2 d3 (Tm.cellsL d4) (kS S1) (uS S1) (kS S2) (uS S2)) ?_
  · intro x hx
    simp only [List.mem_cons, List.not_mem_nil, or_false] at hx
    rcases hx with rfl | rfl | rfl | rfl
    · exact varQ_ok
    · exact varQ_ok
    · exact asmA_ok _ _
    · exact asmA_ok _ _
  · unfold CGl
    simp only [ok_br, ok_owe, ok_ret, ok_jmp, decide_eq_true_eq, decide_eq_false_iff_not, Int.toNat_natCast, true_and, and_true, Bool.not_eq_true', Bool.not_eq_false', List.drop_zero, List.take_length, D.bool.injEq, D.int.injEq, D.str.injEq, true_implies, Int.le_refl, heL_len]
    exact ⟨h1, h2, hH⟩
abbrev endO (F : List Nm) : Ob := .gen (.mapS (kS F) (.agg [])) []
abbrev QU (F : List Nm) : Exit → St → Prop := FinQ false 0 rs29 fun r ob => r = .map 0 ∧ ob = [(0, endO F)]
variable (hr : okR ⟨k, hs, .mk a1 a2 a3 a4, .mk b1 b2 b3 b4, bs, .mk c1 c2 c3 c4, .mk d1 d2 d3 d4, ts⟩) (G : List Nm) (hG : G.Nodup)
include hr hG
theorem uh_at (body : List Lt) (hbl : body.length ≤ 281474976710656) (hbo : ∀ x ∈ body, okL x) : ∀ (m i : Nat) (U : List Nm), U.Nodup → hs.length - i = m → i ≤ hs.length →
    At Tryz.prog 0 (cut sc29 2) ⟨tmU ++ [(60, .slice (heL hs) []), (61, .int .i64 hs.length), (62, .int .i64 i)], obU (rC k (heL hs) (boL bs) (Tm.cellsL ts) a1 a2 a3 (Tm.cellsL a4) b1 b2 b3 (Tm.cellsL b4) c1 c2 c3 (Tm.cellsL c4) d1 d2 d3 (Tm.cellsL d4)) (kS G) (uS G) (kS U) (uS U) (ltL body)⟩ (QU (ckS ((hs.drop i).foldl (uHead k G) U) G (closeS [] body))) := by
  have hby : ∀ (vk vc qk qc zk : List D), ∀ x ∈ [((75 : Nat), varQ), (76, asmA (.tuple []) (updK 1 (mO vk vc))), (81, keyQ), (84, asmO (.map 1) [(0, mO [] []), (1, mO qk qc)]), (85, asmA (.tuple []) (updK 1 (.gen (.mapS zk (.agg [])) [])))], x.2.OK := fun vk vc qk qc zk x hx => by
    simp only [List.mem_cons, List.not_mem_nil, or_false] at hx
    rcases hx with rfl | rfl | rfl | rfl | rfl
    · exact varQ_ok
    · exact asmA_ok _ _
    · exact keyQ_ok
    · exact asmO_ok _ _
    · exact asmA_ok _ _
  have hhx := hr.h
  have hhl := hr.hl
  simp only at hhx hhl
  have hb := bound_ok body hbl hbo [] List.nodup_nil
  generalize closeS [] body = B at hb ⊢
  intro m
  induction m with
  | zero =>
    intro i U hU hm hi
    have hc := checkY_ok G U B hU
    refine At.tree (ctrS_ok libT_ok (byT_ok (hby _ _ _ _ _))) (CUh_eq k (heL hs) (boL bs) (Tm.cellsL ts) a1 a2 a3 (Tm.cellsL a4) b1 b2 b3 (Tm.cellsL b4) c1 c2 c3 (Tm.cellsL c4) d1 d2 d3 (Tm.cellsL d4) (kS G) (uS G) (kS U) (uS U) [] [] (kS B) (uS B) (kS (ckS U G B)) (ltL body) hs.length i [] [] []) ?_
    unfold CUh
    rw [List.drop_eq_nil_of_le (by omega : hs.length ≤ i)]
    simp only [ok_br, ok_owe, ok_ret, ok_jmp, decide_eq_true_eq, decide_eq_false_iff_not, Int.toNat_natCast, true_and, and_true, Bool.not_eq_true', Bool.not_eq_false', List.drop_zero, List.take_length, D.bool.injEq, D.int.injEq, D.str.injEq, true_implies, Int.le_refl]
    exact ⟨fun h => by omega, fun _ => ⟨hb, hc, rfl⟩⟩
  | succ m ih =>
    intro i U hU hm hi
    have h1 : i < hs.length := by omega
    have hg := heL_get h1
    obtain ⟨o1, o2⟩ := hhx _ (List.getElem_mem h1)
    rw [drop_cons h1, List.foldl_cons]
    have hU2 : (uHead k G U hs[i]).Nodup := uHead_nd k G [hs[i]] hU
    have hI := ih (i + 1) (uHead k G U hs[i]) hU2 (by omega) (by omega)
    have hel := element_ok G U hs[i].c hs[i].a o2 o1 hG
    have he : uHead k G U hs[i] = if k = 2 then elemS G U hs[i].c (varsL hs[i].a) else U := rfl
    generalize uHead k G U hs[i] = U2 at hI he ⊢
    generalize hs[i] = x at hg he hel
    obtain ⟨p, ha, hc⟩ := x
    simp only at he hel
    generalize elemS G U hc (varsL ha) = U3 at he hel
    refine At.tree (ctrS_ok libT_ok (byT_ok (hby _ _ _ _ _))) (CUh_eq k (heL hs) (boL bs) (Tm.cellsL ts) a1 a2 a3 (Tm.cellsL a4) b1 b2 b3 (Tm.cellsL b4) c1 c2 c3 (Tm.cellsL c4) d1 d2 d3 (Tm.cellsL d4) (kS G) (uS G) (kS U) (uS U) (kS U3) (uS U3) (kS B) (uS B) (kS (ckS U G B)) (ltL body) hs.length i p (Tm.cellsL ha) (ltL hc)) ?_
    unfold CUh
    simp only [ok_br, ok_owe, ok_ret, ok_jmp, decide_eq_true_eq, decide_eq_false_iff_not, Int.toNat_natCast, true_and, and_true, Bool.not_eq_true', Bool.not_eq_false', List.drop_zero, List.take_length, D.bool.injEq, D.int.injEq, D.str.injEq, true_implies, Int.le_refl]
    refine ⟨fun _ => ⟨⟨by omega, hg⟩, fun h => ?_, fun h => ?_⟩, fun h => by omega⟩
    · rw [if_pos (by omega)] at he
      subst he
      exact ⟨hel, by omega, hI⟩
    · rw [if_neg (by omega)] at he
      subst he
      exact ⟨by omega, hI⟩
theorem ue_at (body : List Lt) (i : Nat) (hi : (i : Int) + 1 ≤ 9223372036854775807) (es : List El) (hel : es.length ≤ 281474976710656) (heo : ∀ y ∈ es, okT y.t ∧ okC y.c) (F T : List Nm) (K : At Tryz.prog 0 (cut sc29 0) ⟨tmUb (boL bs) bs.length (i + 1), obU (rC k (heL hs) (boL bs) (Tm.cellsL ts) a1 a2 a3 (Tm.cellsL a4) b1 b2 b3 (Tm.cellsL b4) c1 c2 c3 (Tm.cellsL c4) d1 d2 d3 (Tm.cellsL d4)) (kS G) (uS G) (kS T) (uS T) (ltL body)⟩ (QU F)) : ∀ (m j : Nat) (U : List Nm), es.length - j = m → j ≤ es.length → (es.drop j).foldl (uElem G) U = T →
    At Tryz.prog 0 (cut sc29 1) ⟨tmUb (boL bs) bs.length i ++ [(44, .slice (elL es) []), (45, .int .i64 es.length), (46, .int .i64 j)], obU (rC k (heL hs) (boL bs) (Tm.cellsL ts) a1 a2 a3 (Tm.cellsL a4) b1 b2 b3 (Tm.cellsL b4) c1 c2 c3 (Tm.cellsL c4) d1 d2 d3 (Tm.cellsL d4)) (kS G) (uS G) (kS U) (uS U) (ltL body)⟩ (QU F) := by
  have hby : ∀ (vk vc : List D), ∀ x ∈ [((55 : Nat), varQ), (56, asmA (.tuple []) (updK 1 (mO vk vc)))], x.2.OK := fun vk vc x hx => by
    simp only [List.mem_cons, List.not_mem_nil, or_false] at hx
    rcases hx with rfl | rfl
    · exact varQ_ok
    · exact asmA_ok _ _
  intro m
  induction m with
  | zero =>
    intro j U hm hj hT
    rw [List.drop_eq_nil_of_le (by omega : es.length ≤ j)] at hT
    have hT : U = T := hT
    subst hT
    refine At.tree (ctrS_ok libT_ok (byT_ok (hby _ _))) (CUe_eq k (heL hs) (boL bs) (Tm.cellsL ts) a1 a2 a3 (Tm.cellsL a4) b1 b2 b3 (Tm.cellsL b4) c1 c2 c3 (Tm.cellsL c4) d1 d2 d3 (Tm.cellsL d4) (kS G) (uS G) (kS U) (uS U) [] [] (ltL body) bs.length i (elL es) es.length j [] []) ?_
    unfold CUe
    simp only [ok_br, ok_owe, ok_ret, ok_jmp, decide_eq_true_eq, decide_eq_false_iff_not, Int.toNat_natCast, true_and, and_true, Bool.not_eq_true', Bool.not_eq_false', List.drop_zero, List.take_length, D.bool.injEq, D.int.injEq, D.str.injEq, true_implies, Int.le_refl]
    exact ⟨fun h => by omega, fun _ => ⟨by omega, K⟩⟩
  | succ m ih =>
    intro j U hm hj hT
    have h1 : j < es.length := by omega
    have hg := elL_get h1
    obtain ⟨o1, o2⟩ := heo _ (List.getElem_mem h1)
    rw [drop_cons h1, List.foldl_cons] at hT
    have hI := ih (j + 1) (uElem G U es[j]) (by omega) (by omega) hT
    have hE := element_ok G U es[j].c es[j].t o2 o1 hG
    have he : uElem G U es[j] = elemS G U es[j].c (varsL es[j].t) := rfl
    rw [he] at hI
    generalize es[j] = x at hg hI hE
    obtain ⟨et, ec⟩ := x
    simp only at hI hE
    generalize elemS G U ec (varsL et) = U3 at hI hE
    refine At.tree (ctrS_ok libT_ok (byT_ok (hby _ _))) (CUe_eq k (heL hs) (boL bs) (Tm.cellsL ts) a1 a2 a3 (Tm.cellsL a4) b1 b2 b3 (Tm.cellsL b4) c1 c2 c3 (Tm.cellsL c4) d1 d2 d3 (Tm.cellsL d4) (kS G) (uS G) (kS U) (uS U) (kS U3) (uS U3) (ltL body) bs.length i (elL es) es.length j (Tm.cellsL et) (ltL ec)) ?_
    unfold CUe
    simp only [ok_br, ok_owe, ok_ret, ok_jmp, decide_eq_true_eq, decide_eq_false_iff_not, Int.toNat_natCast, true_and, and_true, Bool.not_eq_true', Bool.not_eq_false', List.drop_zero, List.take_length, D.bool.injEq, D.int.injEq, D.str.injEq, true_implies, Int.le_refl]
    exact ⟨fun _ => ⟨⟨by omega, hg⟩, hE, by omega, hI⟩, fun h => by omega⟩
theorem ub_at : ∀ (m i : Nat) (U : List Nm) (body : List Lt), U.Nodup → body.length ≤ i → (∀ x ∈ body, okL x) → bs.length - i = m → i ≤ bs.length →
    At Tryz.prog 0 (cut sc29 0) ⟨tmUb (boL bs) bs.length i, obU (rC k (heL hs) (boL bs) (Tm.cellsL ts) a1 a2 a3 (Tm.cellsL a4) b1 b2 b3 (Tm.cellsL b4) c1 c2 c3 (Tm.cellsL c4) d1 d2 d3 (Tm.cellsL d4)) (kS G) (uS G) (kS U) (uS U) (ltL body)⟩ (QU (ckS (hs.foldl (uHead k G) ((bs.drop i).foldl (uBody G) (U, body)).1) G (closeS [] ((bs.drop i).foldl (uBody G) (U, body)).2))) := by
  have hby : ∀ (vk vc : List D) (w : List (List D)), ∀ x ∈ [((39 : Nat), asmW w), (40, asmA (.tuple []) (updK 1 (mO vk vc)))], x.2.OK := fun vk vc w x hx => by
    simp only [List.mem_cons, List.not_mem_nil, or_false] at hx
    rcases hx with rfl | rfl
    · exact asmW_ok _
    · exact asmA_ok _ _
  have hbx := hr.b
  have hbl := hr.bl
  have hhl := hr.hl
  simp only at hbx hbl hhl
  intro m
  induction m with
  | zero =>
    intro i U body hU hbd hbo hm hi
    have hH := uh_at k hs a1 a2 a3 a4 b1 b2 b3 b4 bs c1 c2 c3 c4 d1 d2 d3 d4 ts hr G hG body (by omega) hbo _ 0 U hU rfl (Nat.zero_le _)
    refine At.tree (ctrS_ok libT_ok (byT_ok (hby _ _ _))) (CUb_eq k (heL hs) (boL bs) (Tm.cellsL ts) a1 a2 a3 (Tm.cellsL a4) b1 b2 b3 (Tm.cellsL b4) c1 c2 c3 (Tm.cellsL c4) d1 d2 d3 (Tm.cellsL d4) (kS G) (uS G) (kS U) (uS U) [] [] (ltL body) bs.length i 0 0 true [] [] 0 0 0 [] [] 0 0 [] [] [] true 0 [] 0 0 0 [] [] []) ?_
    unfold CUb
    rw [List.drop_eq_nil_of_le (by omega : bs.length ≤ i)]
    simp only [ok_br, ok_owe, ok_ret, ok_jmp, decide_eq_true_eq, decide_eq_false_iff_not, Int.toNat_natCast, true_and, and_true, Bool.not_eq_true', Bool.not_eq_false', List.drop_zero, List.take_length, D.bool.injEq, D.int.injEq, D.str.injEq, true_implies, Int.le_refl, heL_len]
    exact ⟨fun h => by omega, fun _ => hH⟩
  | succ m ih =>
    intro i U body hU hbd hbo hm hi
    have h1 : i < bs.length := by omega
    have hg := boL_get h1
    obtain ⟨o1, o2, o3, o4, o5⟩ := hbx _ (List.getElem_mem h1)
    rw [drop_cons h1, List.foldl_cons]
    have hU2 : (uBody G (U, body) bs[i]).1.Nodup := uBody_nd G [bs[i]] hU
    have hw := within_ok [bs[i].l] o1
    have hE := element_ok G U bs[i].c (withinT [bs[i].l]) o3 (okC_T o1) hG
    have he : uBody G (U, body) bs[i] = if bs[i].k = 1 then (U, body ++ [bs[i].l]) else if bs[i].k = 2 then (elemS G U bs[i].c (varsL (withinT [bs[i].l])), body) else if bs[i].k = 3 then (bs[i].e.foldl (uElem G) U, body) else (U, body) := rfl
    have hbd2 : (uBody G (U, body) bs[i]).2.length ≤ i + 1 ∧ ∀ x ∈ (uBody G (U, body) bs[i]).2, okL x := by
      rw [he]
      split
      · refine ⟨by simp only [List.length_append, List.length_cons, List.length_nil]; omega, fun x hx => ?_⟩
        rcases List.mem_append.1 hx with hx | hx
        · exact hbo x hx
        · rw [List.mem_singleton] at hx
          exact hx ▸ o1.2.1 _ (List.mem_cons_self ..)
      · split
        · exact ⟨by simp only; omega, hbo⟩
        · split
          · exact ⟨by simp only; omega, hbo⟩
          · exact ⟨by simp only; omega, hbo⟩
    have hI := ih (i + 1) (uBody G (U, body) bs[i]).1 (uBody G (U, body) bs[i]).2 hU2 hbd2.1 hbd2.2 (by omega) (by omega)
    have hEl : ∀ (F T : List Nm) (K : At Tryz.prog 0 (cut sc29 0) ⟨tmUb (boL bs) bs.length (i + 1), obU (rC k (heL hs) (boL bs) (Tm.cellsL ts) a1 a2 a3 (Tm.cellsL a4) b1 b2 b3 (Tm.cellsL b4) c1 c2 c3 (Tm.cellsL c4) d1 d2 d3 (Tm.cellsL d4)) (kS G) (uS G) (kS T) (uS T) (ltL body)⟩ (QU F)), bs[i].e.foldl (uElem G) U = T → _ := fun F T K hT => ue_at k hs a1 a2 a3 a4 b1 b2 b3 b4 bs c1 c2 c3 c4 d1 d2 d3 d4 ts hr G hG body i (by omega) bs[i].e o4 o5 F T K _ 0 U rfl (Nat.zero_le _) hT
    generalize uBody G (U, body) bs[i] = p at hI he ⊢
    generalize bs[i] = x at hg he hw hE hEl
    obtain ⟨bk, ⟨lk, ln, lp, la, lo, ⟨x1, x2, x3, x4⟩, ⟨y1, y2, y3, y4⟩⟩, bc, bno, bf, be, bop, ⟨t1, t2, t3, t4⟩⟩ := x
    simp only at he hw hE hEl
    generalize hU3 : elemS G U bc (varsL (withinT [⟨lk, ln, lp, la, lo, .mk x1 x2 x3 x4, .mk y1 y2 y3 y4⟩])) = U3 at he hE
    refine At.tree (ctrS_ok libT_ok (byT_ok (hby _ _ _))) (CUb_eq k (heL hs) (boL bs) (Tm.cellsL ts) a1 a2 a3 (Tm.cellsL a4) b1 b2 b3 (Tm.cellsL b4) c1 c2 c3 (Tm.cellsL c4) d1 d2 d3 (Tm.cellsL d4) (kS G) (uS G) (kS U) (uS U) (kS U3) (uS U3) (ltL body) bs.length i bk lk ln lp (Tm.cellsL la) lo x1 x2 x3 (Tm.cellsL x4) y1 y2 y3 (Tm.cellsL y4) (ltL bc) bno bf (elL be) bop t1 t2 t3 (Tm.cellsL t4) (Tm.cellsL (withinT [⟨lk, ln, lp, la, lo, .mk x1 x2 x3 x4, .mk y1 y2 y3 y4⟩]))) ?_
    unfold CUb
    simp only [ok_br, ok_owe, ok_ret, ok_jmp, decide_eq_true_eq, decide_eq_false_iff_not, Int.toNat_natCast, true_and, and_true, Bool.not_eq_true', Bool.not_eq_false', List.drop_zero, List.take_length, D.bool.injEq, D.int.injEq, D.str.injEq, true_implies, Int.le_refl, elL_len, ltL_len]
    refine ⟨fun _ => ⟨⟨by omega, hg⟩, fun h => ?_, fun h => ⟨fun h2 => ?_, fun h2 => ⟨fun h3 => ?_, fun h3 => ?_⟩⟩⟩, fun h => by omega⟩
    · rw [if_pos (by omega)] at he
      subst he
      have e : ltL (body ++ [⟨lk, ln, lp, la, lo, .mk x1 x2 x3 x4, .mk y1 y2 y3 y4⟩]) = ltL body ++ ltL [⟨lk, ln, lp, la, lo, .mk x1 x2 x3 x4, .mk y1 y2 y3 y4⟩] := by simp [ltL]
      simp only at hI
      rw [e] at hI
      have al : allLen 13 (ltL [⟨lk, ln, lp, la, lo, .mk x1 x2 x3 x4, .mk y1 y2 y3 y4⟩]) := fun q hq => by
        obtain ⟨t, _, rfl⟩ := List.mem_map.1 hq
        exact ltc_len t
      exact ⟨⟨al, by omega⟩, by omega, hI⟩
    · rw [if_neg (by omega), if_pos (by omega)] at he
      subst he
      exact ⟨hw, hE, by omega, hI⟩
    · rw [if_neg (by omega), if_neg (by omega), if_pos (by omega)] at he
      subst he
      exact hEl _ _ hI rfl
    · rw [if_neg (by omega), if_neg (by omega), if_neg (by omega)] at he
      subst he
      exact ⟨by omega, hI⟩
omit hG in
theorem unsafe_ok : CallL Tryz.prog (.func (.func 29) [] []) [.agg (rC k (heL hs) (boL bs) (Tm.cellsL ts) a1 a2 a3 (Tm.cellsL a4) b1 b2 b3 (Tm.cellsL b4) c1 c2 c3 (Tm.cellsL c4) d1 d2 d3 (Tm.cellsL d4))] [] fun r ob => r = .map 0 ∧ ob = [(0, endO (unsafeS ⟨k, hs, .mk a1 a2 a3 a4, .mk b1 b2 b3 b4, bs, .mk c1 c2 c3 c4, .mk d1 d2 d3 d4, ts⟩))] := by
  have hg := global_ok k hs a1 a2 a3 a4 b1 b2 b3 b4 bs c1 c2 c3 c4 d1 d2 d3 d4 ts hr
  have hnd := globalS_nd ⟨k, hs, .mk a1 a2 a3 a4, .mk b1 b2 b3 b4, bs, .mk c1 c2 c3 c4, .mk d1 d2 d3 d4, ts⟩
  unfold unsafeS
  generalize globalS ⟨k, hs, .mk a1 a2 a3 a4, .mk b1 b2 b3 b4, bs, .mk c1 c2 c3 c4, .mk d1 d2 d3 d4, ts⟩ = G at hg hnd ⊢
  have hB := ub_at k hs a1 a2 a3 a4 b1 b2 b3 b4 bs c1 c2 c3 c4 d1 d2 d3 d4 ts hr G hnd _ 0 [] [] List.nodup_nil (Nat.le_refl _) (fun x hx => by cases hx) rfl (Nat.zero_le _)
  refine CallL.tree hdraw fp29 (ctrS_ok libT_ok (byT_ok ?_)) (CUn_eq k (heL hs) (boL bs) (Tm.cellsL ts) a1 a2 a3 (Tm.cellsL a4) b1 b2 b3 (Tm.cellsL b4) c1 c2 c3 (Tm.cellsL c4) d1 d2 d3 (Tm.cellsL d4) (kS G) (uS G)) ?_
  · intro x hx
    simp only [List.mem_cons, List.not_mem_nil, or_false] at hx
    subst hx
    exact asmO_ok _ _
  · unfold CUn
    simp only [ok_br, ok_owe, ok_ret, ok_jmp, decide_eq_true_eq, decide_eq_false_iff_not, Int.toNat_natCast, true_and, and_true, Bool.not_eq_true', Bool.not_eq_false', List.drop_zero, List.take_length, D.bool.injEq, D.int.injEq, D.str.injEq, true_implies, Int.le_refl, boL_len]
    exact ⟨hg, hB⟩
end
end Go.Proofs.YtiafmjolbacdaaaGreat
