/- set.add, over texts and over the variables of terms. -/
import Derived.Test.YtiafmjolbacdaaaGreatSafA
import Derived.Test.YtiafmjolbacdaaaGreatSx9
set_option linter.unusedSectionVars false
set_option linter.unusedVariables false
set_option linter.unusedSimpArgs false
set_option linter.deprecated false
set_option maxRecDepth 100000
namespace Go.Proofs.YtiafmjolbacdaaaGreat
open Go.Sx
theorem strC_gt {l : List Nm} {i : Nat} (h : i < l.length) : (strC l)[i]? = some [.str l[i]] := by simp [strC, h]
theorem addY (f : FuncId) (x : Nm) (es : List (List D)) (S : List Nm) : CallL Tryz.prog (.yld 0) [.str x] ((0, recA (dsA f 1 2 3)) :: obAy es (kS S) (uS S)) fun r ob => r = .bool true ∧ ob = (0, recA (dsA f 1 2 3)) :: obAy es (kS (insS S x)) (uS (insS S x)) := by
  refine CallL.yldT hdraw (ctr_ok libT_ok qnone_ok) rfl (TyAd_eq f x es (kS S) (uS S) (kS (insS S x)) (uS (insS S x))) ?_
  unfold TyAd
  rw [ok_owe, ok_ret]
  exact ⟨mput_str x S, rfl, rfl⟩
abbrev setO (S : List Nm) : Ob := .gen (.mapC (kS S) (uS S)) []
theorem addV_at (l : List Nm) (hl : l.length ≤ 281474976710656) : ∀ (m i : Nat) (S : List Nm), l.length - i = m → i ≤ l.length →
    At Tryz.prog 4 (cut sc35 0) (hdVl (strC l) l.length i (obAd fV (strC l) (kS S) (uS S))) (FinQ false 4 rs35 fun r ob => r = .tuple [] ∧ ob = obAd fV (strC l) (kS (addS S (l.drop i))) (uS (addS S (l.drop i)))) := by
  intro m
  induction m with
  | zero =>
    intro i S hm hi
    refine At.tree (ctr_ok libT_ok (asmA_ok _ _)) (CVl2_eq (strC l) (kS S) (uS S) [] [] l.length i []) ?_
    unfold CVl2
    rw [List.drop_eq_nil_of_le (by omega : l.length ≤ i), ok_br]
    refine ⟨fun h => ?_, fun _ => ⟨rfl, rfl⟩⟩
    have := of_decide_eq_true h
    omega
  | succ m ih =>
    intro i S hm hi
    have h1 : i < l.length := by omega
    have hI := ih (i + 1) (insS S l[i]) (by omega) (by omega)
    rw [drop_cons h1]
    refine At.tree (ctr_ok libT_ok (asmA_ok _ _)) (CVl2_eq (strC l) (kS S) (uS S) (kS (insS S l[i])) (uS (insS S l[i])) l.length i l[i]) ?_
    unfold CVl2
    rw [ok_br]
    refine ⟨fun _ => ?_, fun h => ?_⟩
    · rw [ok_owe, Int.toNat_natCast, ok_owe, ok_owe, ok_jmp]
      exact ⟨⟨by omega, strC_gt h1⟩, addY fV l[i] (strC l) S, by omega, hI⟩
    · have := of_decide_eq_false h; omega
theorem addV_ok (l : List Nm) (hl : l.length ≤ 281474976710656) (S : List Nm) : CallL Tryz.prog (.func (.func 24) [] []) [.map 0, .func (.func fV) [] [.ptr 1 0]] [(0, setO S), (1, .cells [.slice (strC l) []])] fun r ob => r = .tuple [] ∧ ob = [(0, setO (addS S l)), (1, .cells [.slice (strC l) []])] := by
  refine CallL.tree hdraw fp24 (ctr_ok libT_ok (asmA_ok _ _)) (CAdV_eq (kS S) (uS S) (kS (addS S l)) (uS (addS S l)) (strC l)) ?_
  unfold CAdV
  rw [ok_owe]
  refine ⟨?_, rfl, rfl⟩
  refine CallL.tree hdraw fp35 (ctr_ok libT_ok (asmA_ok (.bool true) (updM [] []))) (CVl_eq (strC l) (kS S) (uS S) [] []) ?_
  unfold CVl
  rw [ok_jmp, strC_len]
  exact addV_at l hl _ 0 S rfl (Nat.zero_le _)
def okT (l : List Tm) : Prop := l.length ≤ 281474976710656 ∧ ∀ x ∈ l, x.wf 281474976710656 ∧ x.vs.length ≤ 1073741824
theorem addT_at3 (es : List (List D)) (V : List Nm) (mm ii : Int) (Q : List Nm → Prop) (hV : V.length ≤ 1073741824) (R : D → Obs → Prop)
    (hi : -9223372036854775808 ≤ ii + 1 ∧ ii + 1 ≤ 9223372036854775807) (T : List Nm) (K : At Tryz.prog 4 (cut sc59 0) (hdVr es mm (ii + 1) (obAd fT es (kS T) (uS T))) (FinQ false 4 rs59 R)) : ∀ (m i : Nat) (S : List Nm), V.length - i = m → i ≤ V.length → addS S (V.drop i) = T →
    At Tryz.prog 4 (cut sc59 1) (hdVj es (strC V) mm ii V.length i (obAd fT es (kS S) (uS S))) (FinQ false 4 rs59 R) := by
  intro m
  induction m with
  | zero =>
    intro i S hm hi' hT
    refine At.tree (ctr_ok libT_ok (asmA_ok _ _)) (CVr3_eq es (strC V) (kS S) (uS S) [] [] mm ii V.length i []) ?_
    unfold CVr3
    rw [List.drop_eq_nil_of_le (by omega : V.length ≤ i)] at hT
    have hT : S = T := hT
    subst hT
    rw [ok_br]
    refine ⟨fun h => ?_, fun _ => ?_⟩
    · have := of_decide_eq_true h
      omega
    · rw [ok_owe, ok_jmp]
      exact ⟨hi, K⟩
  | succ m ih =>
    intro i S hm hi' hT
    have h1 : i < V.length := by omega
    rw [drop_cons h1] at hT
    have hI := ih (i + 1) (insS S V[i]) (by omega) (by omega) hT
    refine At.tree (ctr_ok libT_ok (asmA_ok _ _)) (CVr3_eq es (strC V) (kS S) (uS S) (kS (insS S V[i])) (uS (insS S V[i])) mm ii V.length i V[i]) ?_
    unfold CVr3
    rw [ok_br]
    refine ⟨fun _ => ?_, fun h => ?_⟩
    · rw [ok_owe, Int.toNat_natCast, ok_owe, ok_owe, ok_jmp]
      exact ⟨⟨by omega, strC_gt h1⟩, addY fT V[i] es S, by omega, hI⟩
    · have := of_decide_eq_false h; omega
theorem addT_at (l : List Tm) (hl : okT l) : ∀ (m i : Nat) (S : List Nm), l.length - i = m → i ≤ l.length →
    At Tryz.prog 4 (cut sc59 0) (hdVr (Tm.cellsL l) l.length i (obAd fT (Tm.cellsL l) (kS S) (uS S))) (FinQ false 4 rs59 fun r ob => r = .tuple [] ∧ ob = obAd fT (Tm.cellsL l) (kS (addS S (varsL (l.drop i)))) (uS (addS S (varsL (l.drop i))))) := by
  intro m
  have hl1 := hl.1
  induction m with
  | zero =>
    intro i S hm hi
    refine At.tree (ctr_ok (asmP_ok _) (asmA_ok _ _)) (CVr2_eq (Tm.cellsL l) [] (kS S) (uS S) [] [] l.length i 0 0 [] []) ?_
    unfold CVr2
    rw [List.drop_eq_nil_of_le (by omega : l.length ≤ i), ok_br]
    refine ⟨fun h => ?_, fun _ => ⟨rfl, rfl⟩⟩
    have := of_decide_eq_true h
    omega
  | succ m ih =>
    intro i S hm hi
    have h1 : i < l.length := by omega
    have hx : (Tm.cellsL l)[i]? = some l[i].cells := by rw [cellsL_map]; simp [h1]
    have hw := hl.2 _ (List.getElem_mem h1)
    have hv := vars_ok l[i] hw.1 hw.2
    have hVl := W_len l[i]
    have hI := ih (i + 1) (addS S l[i].W) (by omega) (by omega)
    have hd : addS S (varsL (l.drop i)) = addS (addS S l[i].W) (varsL (l.drop (i + 1))) := by
      rw [drop_cons h1]
      unfold varsL
      rw [List.flatMap_cons, addS_app]
    rw [hd]
    have h3 := addT_at3 (Tm.cellsL l) l[i].W l.length i (fun _ => True) (by omega) _ (by omega) _ hI _ 0 S rfl (Nat.zero_le _) rfl
    generalize Tm.W l[i] = V at hv h3
    generalize l[i] = x at hx hv
    obtain ⟨k, n, s, a⟩ := x
    refine At.tree (ctr_ok (asmP_ok _) (asmA_ok (.bool true) (updM [] []))) (CVr2_eq (Tm.cellsL l) (strC V) (kS S) (uS S) [] [] l.length i k n s (Tm.cellsL a)) ?_
    unfold CVr2
    rw [ok_br]
    refine ⟨fun _ => ?_, fun h => ?_⟩
    · rw [ok_owe, Int.toNat_natCast, ok_owe, ok_jmp, strC_len]
      exact ⟨⟨by omega, hx⟩, hv, h3⟩
    · have := of_decide_eq_false h; omega
theorem addT_ok (l : List Tm) (hl : okT l) (S : List Nm) : CallL Tryz.prog (.func (.func 24) [] []) [.map 0, .func (.func fT) [] [.ptr 1 0]] [(0, setO S), (1, .cells [.slice (Tm.cellsL l) []])] fun r ob => r = .tuple [] ∧ ob = [(0, setO (addS S (varsL l))), (1, .cells [.slice (Tm.cellsL l) []])] := by
  refine CallL.tree hdraw fp24 (ctr_ok libT_ok (asmA_ok _ _)) (CAdT_eq (kS S) (uS S) (kS (addS S (varsL l))) (uS (addS S (varsL l))) (Tm.cellsL l)) ?_
  unfold CAdT
  rw [ok_owe]
  refine ⟨?_, rfl, rfl⟩
  refine CallL.tree hdraw fp59 (ctr_ok libT_ok (asmA_ok (.bool true) (updM [] []))) (CVr_eq (Tm.cellsL l) (kS S) (uS S) [] []) ?_
  unfold CVr
  rw [ok_jmp, cellsL_length]
  exact addT_at l hl _ 0 S rfl (Nat.zero_le _)
end Go.Proofs.YtiafmjolbacdaaaGreat
