/- check, proved. -/
import Derived.Test.YtiafmjolbacdaaaGreatSafO
set_option linter.unusedSectionVars false
set_option linter.unusedVariables false
set_option linter.unusedSimpArgs false
set_option linter.deprecated false
set_option maxRecDepth 100000
namespace Go.Proofs.YtiafmjolbacdaaaGreat
open Go.Sx Go.RowKit
theorem ckYT (x : Nm) (es : List (List D)) (G U B : List Nm) : CallL Tryz.prog (.yld 0) [.str x] ((0, recCk (dsCk fT 1 2 3 4 5 6)) :: obCyT es (setO G) (setO U) (setO B)) fun r ob => r = .bool true ∧ ob = (0, recCk (dsCk fT 1 2 3 4 5 6)) :: obCyT es (setO G) (setO (ckS U [x] B)) (setO B) := by
  have hh := has_ok B x
  have ha := addV_ok [x] (by simp) U
  have e : ckS U [x] B = if x ∈ B then U else insS U x := ckS_cons U x [] B
  rw [e]
  refine CallL.yldT hdraw (ctr_ok libT_ok (ckQ_ok _ _ _)) rfl (TyCkT_eq x es (kS G) (uS G) (kS U) (uS U) (kS B) (uS B) (kS (insS U x)) (uS (insS U x)) (decide (x ∈ B))) ?_
  unfold TyCkT
  rw [ok_owe, ok_br]
  refine ⟨hh, fun h => ?_, fun h => ?_⟩
  · rw [ok_owe, ok_owe, ok_ret, if_neg (by simpa using h)]
    exact ⟨trivial, ha, rfl, rfl⟩
  · rw [ok_ret, if_pos (by simpa using h)]
    exact ⟨rfl, rfl⟩
theorem ckYY (x : Nm) (G U B : List Nm) (l : List Nat) (cl : Nat) : CallL Tryz.prog (.yld 0) [.str x] ((0, recCk (dsCk fY 1 2 3 4 5 6)) :: obCyY (mbO (kS G) (uS G) l cl) (setO U) (setO B)) fun r ob => r = .bool true ∧ ob = (0, recCk (dsCk fY 1 2 3 4 5 6)) :: obCyY (mbO (kS G) (uS G) l cl) (setO (ckS U [x] B)) (setO B) := by
  have hh := has_ok B x
  have ha := addV_ok [x] (by simp) U
  have e : ckS U [x] B = if x ∈ B then U else insS U x := ckS_cons U x [] B
  rw [e]
  refine CallL.yldT hdraw (ctr_ok libT_ok (ckQ_ok _ _ _)) rfl (TyCkY_eq x (kS G) (uS G) (kS U) (uS U) (kS B) (uS B) (kS (insS U x)) (uS (insS U x)) l cl (decide (x ∈ B))) ?_
  unfold TyCkY
  rw [ok_owe, ok_br]
  refine ⟨hh, fun h => ?_, fun h => ?_⟩
  · rw [ok_owe, ok_owe, ok_ret, if_neg (by simpa using h)]
    exact ⟨trivial, ha, rfl, rfl⟩
  · rw [ok_ret, if_pos (by simpa using h)]
    exact ⟨rfl, rfl⟩
theorem ckT_at3 (es : List (List D)) (V : List Nm) (mm ii : Int) (G B : List Nm) (hV : V.length ≤ 1073741824) (R : D → Obs → Prop)
    (hi : -9223372036854775808 ≤ ii + 1 ∧ ii + 1 ≤ 9223372036854775807) (T : List Nm) (K : At Tryz.prog 7 (cut sc59 0) (hdVr es mm (ii + 1) (obCkT es (setO G) (setO T) (setO B))) (FinQ false 7 rs59 R)) : ∀ (m i : Nat) (S : List Nm), V.length - i = m → i ≤ V.length → ckS S (V.drop i) B = T →
    At Tryz.prog 7 (cut sc59 1) (hdVj es (strC V) mm ii V.length i (obCkT es (setO G) (setO S) (setO B))) (FinQ false 7 rs59 R) := by
  intro m
  induction m with
  | zero =>
    intro i S hm hi' hT
    refine At.tree (ctr_ok libT_ok (asmA_ok _ _)) (CVk3_eq es (strC V) (kS G) (uS G) (kS S) (uS S) (kS B) (uS B) [] [] mm ii V.length i []) ?_
    unfold CVk3
    rw [List.drop_eq_nil_of_le (by omega : V.length ≤ i)] at hT
    have hT : S = T := hT
    subst hT
    rw [ok_br]
    refine ⟨fun h => ?_, fun _ => ?_⟩
    · have := of_decide_eq_true h
      omega
    · rw [ok_owe, ok_jmp]
      exact ⟨hi, K⟩
  | succ m ih =>
    intro i S hm hi' hT
    have h1 : i < V.length := by omega
    have e : ckS S (V.drop i) B = ckS (ckS S [V[i]] B) (V.drop (i + 1)) B := by rw [← ckS_app, drop_cons h1]; rfl
    rw [e] at hT
    have hI := ih (i + 1) (ckS S [V[i]] B) (by omega) (by omega) hT
    have hY := ckYT V[i] es G S B
    generalize ckS S [V[i]] B = S2 at hI hY
    refine At.tree (ctr_ok libT_ok (asmA_ok _ _)) (CVk3_eq es (strC V) (kS G) (uS G) (kS S) (uS S) (kS B) (uS B) (kS S2) (uS S2) mm ii V.length i V[i]) ?_
    unfold CVk3
    rw [ok_br]
    refine ⟨fun _ => ?_, fun h => ?_⟩
    · rw [ok_owe, Int.toNat_natCast, ok_owe, ok_owe, ok_jmp]
      exact ⟨⟨by omega, strC_gt h1⟩, hY, by omega, hI⟩
    · have := of_decide_eq_false h; omega
theorem ckT_at (l : List Tm) (hl : okT l) (G B : List Nm) : ∀ (m i : Nat) (S : List Nm), l.length - i = m → i ≤ l.length →
    At Tryz.prog 7 (cut sc59 0) (hdVr (Tm.cellsL l) l.length i (obCkT (Tm.cellsL l) (setO G) (setO S) (setO B))) (FinQ false 7 rs59 fun r ob => r = .tuple [] ∧ ob = obCkT (Tm.cellsL l) (setO G) (setO (ckS S (varsL (l.drop i)) B)) (setO B)) := by
  intro m
  have hl1 := hl.1
  induction m with
  | zero =>
    intro i S hm hi
    refine At.tree (ctr_ok (asmP_ok _) qnone_ok) (CVk2_eq (Tm.cellsL l) [] (kS G) (uS G) (kS S) (uS S) (kS B) (uS B) l.length i 0 0 [] []) ?_
    unfold CVk2
    rw [List.drop_eq_nil_of_le (by omega : l.length ≤ i), ok_br]
    refine ⟨fun h => ?_, fun _ => ⟨rfl, rfl⟩⟩
    have := of_decide_eq_true h
    omega
  | succ m ih =>
    intro i S hm hi
    have h1 : i < l.length := by omega
    have hx : (Tm.cellsL l)[i]? = some l[i].cells := by rw [cellsL_map]; simp [h1]
    have hw := hl.2 _ (List.getElem_mem h1)
    have hv := vars_ok l[i] hw.1 hw.2
    have hVl := W_len l[i]
    have hI := ih (i + 1) (ckS S l[i].W B) (by omega) (by omega)
    have hd : ckS S (varsL (l.drop i)) B = ckS (ckS S l[i].W B) (varsL (l.drop (i + 1))) B := by
      rw [drop_cons h1]
      unfold varsL
      rw [List.flatMap_cons, ckS_app]
    rw [hd]
    have h3 := ckT_at3 (Tm.cellsL l) l[i].W l.length i G B (by omega) _ (by omega) _ hI _ 0 S rfl (Nat.zero_le _) rfl
    generalize Tm.W l[i] = V at hv h3
    generalize l[i] = x at hx hv
    obtain ⟨k, n, s, a⟩ := x
    refine At.tree (ctr_ok (asmP_ok _) qnone_ok) (CVk2_eq (Tm.cellsL l) (strC V) (kS G) (uS G) (kS S) (uS S) (kS B) (uS B) l.length i k n s (Tm.cellsL a)) ?_
    unfold CVk2
    rw [ok_br]
    refine ⟨fun _ => ?_, fun h => ?_⟩
    · rw [ok_owe, Int.toNat_natCast, ok_owe, ok_jmp, strC_len]
      exact ⟨⟨by omega, hx⟩, hv, h3⟩
    · have := of_decide_eq_false h; omega
theorem checkT_ok (l : List Tm) (hl : okT l) (G U B : List Nm) : CallL Tryz.prog (.func (.func 43) [] []) [.agg [.map 0, .map 1], .func (.func fT) [] [.ptr 2 0], .map 3] [(0, setO G), (1, setO U), (2, .cells [.slice (Tm.cellsL l) []]), (3, setO B)] fun r ob => r = .tuple [] ∧ ob = [(0, setO G), (1, setO (ckS U (varsL l) B)), (2, .cells [.slice (Tm.cellsL l) []]), (3, setO B)] := by
  refine CallL.tree hdraw fp43 (ctr_ok libT_ok (asmA_ok _ _)) (CCkT_eq (kS G) (uS G) (kS U) (uS U) (kS B) (uS B) (kS (ckS U (varsL l) B)) (uS (ckS U (varsL l) B)) (Tm.cellsL l)) ?_
  unfold CCkT
  rw [ok_owe]
  refine ⟨?_, rfl, rfl⟩
  refine CallL.tree hdraw fp59 (ctr_ok libT_ok qnone_ok) (CVk_eq (Tm.cellsL l) (kS G) (uS G) (kS U) (uS U) (kS B) (uS B)) ?_
  unfold CVk
  rw [ok_jmp, cellsL_length]
  exact ckT_at l hl G B _ 0 U rfl (Nat.zero_le _)
theorem ckK_at (G U B : List Nm) (l : List Nat) (hl : l.length = G.length) (cl : Nat) : ∀ (m : Nat) (ix : List Nat), ix.Nodup → (∀ i ∈ ix, i < G.length) → G.length - ix.length = m →
    swF Tryz.prog (6001 + 4001 * m) 7 (cut sc58 0) ⟨[(0, .yld 1), (5, .ptr 7 0)], obCkY (mbO (kS G) (uS G) l cl) (setO (ckS U (pickI G ix) B)) (setO B) ++ [(7, itO l ix cl 2)]⟩ (FinQ false 7 rs58 fun r ob => r = .tuple [] ∧ ∃ q : List Nm, q.Perm G ∧ ob = obCkY (setO G) (setO (ckS U q B)) (setO B)) := by
  intro m
  induction m with
  | zero =>
    intro ix hnd hlt hm
    have hlen := ix_le hnd hlt
    refine swF.tree (n0 := 4001) (n := 2000) (ctr_ok libT_ok qnone_ok) (CKch_eq (kS G) (uS G) (kS (ckS U (pickI G ix) B)) (uS (ckS U (pickI G ix) B)) (kS B) (uS B) l ix cl) ?_
    unfold CKch
    rw [ok_jmp, spc1]
    refine swF_spec ⟨7, l, ix, cl, 2, kS G, uS G, rfl, rfl, rfl, by decide, fun hall => ⟨rfl, ?_⟩, fun i hi hn => ⟨rfl, ?_⟩⟩
    · refine swF.tree (n0 := 2000) (n := 2000) (ctr_ok libT_ok qnone_ok) (CKcf_eq (kS G) (uS G) (kS (ckS U (pickI G ix) B)) (uS (ckS U (pickI G ix) B)) (kS B) (uS B) l ix cl) ?_
      unfold CKcf
      rw [ok_ret]
      exact ⟨rfl, _, pick_perm hnd hlt fun i hi => hall i (by omega), rfl⟩
    · exact absurd (full_ix hnd hlt (by omega) i (by omega)) hn
  | succ m ih =>
    intro ix hnd hlt hm
    have hlen := ix_le hnd hlt
    rw [show 6001 + 4001 * (m + 1) = (4000 + 4001 * (m + 1) + 1) + 2000 by omega]
    refine swF.tree (n0 := 4000 + 4001 * (m + 1) + 1) (n := 2000) (ctr_ok libT_ok qnone_ok) (CKch_eq (kS G) (uS G) (kS (ckS U (pickI G ix) B)) (uS (ckS U (pickI G ix) B)) (kS B) (uS B) l ix cl) ?_
    unfold CKch
    rw [ok_jmp, spc1]
    refine swF_spec ⟨7, l, ix, cl, 2, kS G, uS G, rfl, rfl, rfl, by decide, fun hall => ⟨rfl, ?_⟩, fun i hi hn => ⟨rfl, ?_⟩⟩
    · have hp := pick_perm hnd hlt fun i hi => hall i (by omega)
      have := hp.length_eq
      simp only [pickI, List.length_map] at this
      omega
    · have hi' : i < G.length := by omega
      have hI := ih (ix ++ [i]) (by rw [List.nodup_append]; exact ⟨hnd, by simp, fun a ha b hb e => by simp at hb; subst hb; subst e; exact hn ha⟩) (fun j hj => by
        rcases List.mem_append.1 hj with hj | hj
        · exact hlt j hj
        · simp at hj; omega) (by simp; omega)
      have e : ckS U (pickI G (ix ++ [i])) B = ckS (ckS U (pickI G ix) B) [G.getD i []] B := by rw [← ckS_app]; simp [pickI]
      rw [e] at hI
      have hY := ckYY (G.getD i []) G (ckS U (pickI G ix) B) B l cl
      have h1 := kS_get hi'
      have h2 := uS_get hi'
      generalize ckS (ckS U (pickI G ix) B) [G.getD i []] B = U2 at hI hY
      generalize ckS U (pickI G ix) B = U1 at hY ⊢
      rw [show 4000 + 4001 * (m + 1) = (6001 + 4001 * m) + 2000 by omega]
      refine swF.tree (n0 := 6001 + 4001 * m) (n := 2000) (ctr_ok libT_ok (asmA_ok _ _)) (CKct_eq (kS G) (uS G) (kS U1) (uS U1) (kS B) (uS B) (kS U2) (uS U2) l (ix ++ [i]) cl (G.getD i [])) ?_
      unfold CKct
      rw [ok_owe, ok_owe, ok_jmp]
      refine ⟨?_, hY, hI⟩
      simp [extD, lk, h1, h2, kOK]
theorem checkY_ok (G U B : List Nm) (hU : U.Nodup) : CallL Tryz.prog (.func (.func 43) [] []) [.agg [.map 0, .map 1], .func (.func fY) [] [.ptr 2 0], .map 3] [(0, setO G), (1, setO U), (2, .cells [.map 0]), (3, setO B)] fun r ob => r = .tuple [] ∧ ob = [(0, setO G), (1, .gen (.mapS (kS (ckS U G B)) (.agg [])) []), (2, .cells [.map 0]), (3, setO B)] := by
  refine CallL.tree hdraw fp43 (ctr_ok libT_ok (asmA_ok _ _)) (CCkY_eq (kS G) (uS G) (kS U) (uS U) (kS B) (uS B) (kS (ckS U G B))) ?_
  unfold CCkY
  rw [ok_owe]
  refine ⟨?_, rfl, rfl⟩
  have hK : CallL Tryz.prog (.func (.func fY) [] [.ptr 0 0]) [.yld 1] (obCkY (setO G) (setO U) (setO B)) fun r ob => r = .tuple [] ∧ ∃ q : List Nm, q.Perm G ∧ ob = obCkY (setO G) (setO (ckS U q B)) (setO B) := by
    refine CallL.tree hdraw fp58 (ctr_ok libT_ok qnone_ok) (CKc_eq (kS G) (uS G) (kS U) (uS U) (kS B) (uS B)) ?_
    unfold CKc
    rw [ok_jmp, spc0]
    refine ⟨_, swF_spec (n := 6001 + 4001 * G.length + 2000) ⟨2, kS G, uS G, rfl, rfl, rfl, (by show (2 : Nat) ≠ 12; decide), fun l cl h1 h2 h3 => ⟨rfl, ?_⟩⟩⟩
    refine swF.tree (n0 := 6001 + 4001 * G.length) (n := 2000) (ctr_ok libT_ok qnone_ok) (CKca_eq (kS G) (uS G) (kS U) (uS U) (kS B) (uS B) l cl) ?_
    unfold CKca
    rw [ok_jmp]
    exact ckK_at G U B l (by rw [h1, kS_len]) cl _ [] List.nodup_nil (fun i hi => by simp at hi) rfl
  refine hK.wk fun r o ⟨hr, q, hq, ho⟩ => ⟨obCkY (setO G) (.gen (.mapS (kS (ckS U G B)) (.agg [])) []) (setO B), ⟨hr, rfl⟩, ?_⟩
  subst ho
  have e : ∀ S : List Nm, uS S = (kS S).map fun _ => D.agg [] := fun S => by simp [uS, kS]
  have hw : (setO (ckS U q B)).wk (.gen (.mapS (kS (ckS U G B)) (.agg [])) []) := by
    unfold setO
    rw [e]
    exact wk_set ((ckS_perm hU hq).map _)
  exact Obs.wk_cons (Ob.wk_refl _) (Obs.wk_cons (Ob.wk_refl _) (Obs.wk_cons (Ob.wk_refl _) (Obs.wk_cons (Ob.wk_refl _) (Obs.wk_cons (Ob.wk_refl _) (Obs.wk_cons hw (Obs.wk_cons (Ob.wk_refl _) (Obs.wk_refl _)))))))
end Go.Proofs.YtiafmjolbacdaaaGreat
