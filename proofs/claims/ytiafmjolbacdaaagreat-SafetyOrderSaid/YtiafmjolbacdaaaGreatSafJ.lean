/- AppendSeq, Collect, Sorted, set.sorted; Bound's trees. -/
import Derived.Test.YtiafmjolbacdaaaGreatSafI
set_option linter.unusedSectionVars false
set_option linter.unusedVariables false
set_option linter.unusedSimpArgs false
set_option linter.deprecated false
set_option maxRecDepth 100000
namespace Go.Proofs.YtiafmjolbacdaaaGreat
open Go.Sx Go.RowKit
theorem swF_seq {P : Program} {n bs : Nat} {a b : SC} {K : List Fr} {s : St} {Q : Exit → St → Prop} (h : swF P n bs (.sc a :: .sc b :: K) s Q) : swF P (n + 1) bs (.sc (.seq a b) :: K) s Q := h
theorem stps_nil {P : Program} {bs : Nat} {s : St} {K : St → Prop} (h : K s) : stps P bs [] s K := h
def outC (S : List Nm) : List Nm → D × Obs
  | [] => (.nils, obC (kS S) (uS S))
  | c :: r => (.vec 2, obCA (kS S) (uS S) (strC (c :: r)))
def RC (S : List Nm) : D → Obs → Prop := fun r ob => ∃ q : List Nm, q.Perm S ∧ r = (outC S q).1 ∧ ob = (outC S q).2
theorem ap_ok (S : List Nm) (hS : S.length ≤ 1073741823) : CallL Tryz.prog (.func (.func 74) [] []) [.nils, .func (.func fY) [] [.ptr 0 0]] (obC (kS S) (uS S)) (RC S) := by
  refine CallL.tree hdraw fp74 (ctr_ok libT_ok qnone_ok) (CAq_eq (kS S) (uS S)) ?_
  unfold CAq
  rw [ok_jmp]
  refine ⟨2001, swF_rngF (n := 2000) [0, 7, 1, 6, 4] (RP S) (by decide) ?_ ⟨fY, [], [.ptr 0 0], rfl, fp58.2⟩ (keys_ok S hS) ?_⟩
  · intro i hi
    simp only [List.mem_cons, List.not_mem_nil, or_false] at hi
    rcases hi with rfl | rfl | rfl | rfl | rfl <;> rfl
  · rintro r ob' ⟨rfl, q, hq, rfl⟩
    refine ⟨rfl, ?_, ?_⟩
    · cases q with
      | nil => exact ⟨_, _, _, _, _, _, rfl⟩
      | cons c r => exact ⟨_, _, _, _, _, _, rfl⟩
    · cases q with
      | nil =>
        show swF _ 2000 2 frAp (bkAp (kS S) (uS S) (obPN (setO S))) _
        refine swF.tree (n0 := 0) (n := 2000) (ctr_ok libT_ok qnone_ok) (CApN_eq (kS S) (uS S)) ?_
        unfold CApN
        rw [ok_ret]
        exact ⟨[], hq, rfl, rfl⟩
      | cons c r =>
        show swF _ 2000 2 frAp (bkAp (kS S) (uS S) (obPA (setO S) 5 (strC (c :: r)))) _
        refine swF.tree (n0 := 0) (n := 2000) (ctr_ok libT_ok qnone_ok) (CApA_eq (kS S) (uS S) (strC (c :: r))) ?_
        unfold CApA
        rw [ok_ret]
        exact ⟨c :: r, hq, rfl, rfl⟩
theorem fr56 : frg sc56 0 = [.sc (.seq (.reg [so 3 .mv [xt 0], .cd (some 4) none (xc (.func (.func 74) [] [])) [xc .nils, xt 3], so 2 .mv [xt 4]]) .ret)] := rfl
theorem collect_ok (S : List Nm) (hS : S.length ≤ 1073741823) : CallL Tryz.prog (.func (.func 56) [] []) [.func (.func fY) [] [.ptr 0 0]] (obC (kS S) (uS S)) (RC S) := by
  refine CallL.tree hdraw fp56 (ctr_ok libT_ok qnone_ok) (CC0_eq (kS S) (uS S)) ?_
  unfold CC0
  rw [ok_jmp, fr56]
  refine ⟨2002, swF_seq (swF_reg (stps_mv (stps_cd [0, 1] (RC S) (by decide) ?_ (ap_ok S hS) ?_)))⟩
  · intro i hi
    simp only [List.mem_cons, List.not_mem_nil, or_false] at hi
    rcases hi with rfl | rfl <;> rfl
  · rintro r ob' ⟨q, hq, rfl, rfl⟩
    cases q with
    | nil =>
      refine ⟨rfl, stps_mv (stps_nil ?_)⟩
      show swF _ 2000 2 [.sc .ret] (((St.back (stC (kS S) (uS S)) 4098 [0, 1] (obC (kS S) (uS S))).put (some 4) .nils).put (some 2) .nils) _
      refine swF.tree (n0 := 0) (n := 2000) (ctr_ok libT_ok qnone_ok) (CCN_eq (kS S) (uS S)) ?_
      unfold CCN
      rw [ok_ret]
      exact ⟨[], hq, rfl, rfl⟩
    | cons c r =>
      refine ⟨rfl, stps_mv (stps_nil ?_)⟩
      show swF _ 2000 2 [.sc .ret] (((St.back (stC (kS S) (uS S)) 4098 [0, 1] (obCA (kS S) (uS S) (strC (c :: r)))).put (some 4) (.vec 4100)).put (some 2) (.vec 4100)) _
      refine swF.tree (n0 := 0) (n := 2000) (ctr_ok libT_ok qnone_ok) (CCA_eq (kS S) (uS S) (strC (c :: r))) ?_
      unfold CCA
      rw [ok_ret]
      exact ⟨c :: r, hq, rfl, rfl⟩
theorem fr38 : frg sc38 0 = .sc (.seq (.reg [so 4 .mv [xt 0], .cd (some 5) none (xc (.func (.func 56) [] [])) [xt 4], so 3 .mv [xt 5]]) (.seq (.spec (.frg [3])) (.seq (.reg [so 6 .mv [xt 3], .cd (some 7) none (xc (.func (.func 57) [] [])) [xt 6]]) (.seq (.spec (.frg [3])) (.seq (.reg [so 8 .mv [xt 3], so 2 .mv [xt 8]]) .ret))))) :: [] := rfl
theorem srt_ne {q : List Nm} (h : q ≠ []) : srt q ≠ [] := fun e => h (by
  have := (srt_perm q).length_eq
  rw [e] at this
  exact List.length_eq_zero_iff.1 this.symm)
theorem sortedF_ok (S : List Nm) (hS : S.length ≤ 1073741823) (hnd : S.Nodup) : CallL Tryz.prog (.func (.func 38) [] []) [.func (.func fY) [] [.ptr 0 0]] (obC (kS S) (uS S)) fun r ob => r = (outC S (srt S)).1 ∧ ob = (outC S (srt S)).2 := by
  refine CallL.tree hdraw fp38 (ctr_ok libT_ok qnone_ok) (CS0_eq (kS S) (uS S)) ?_
  unfold CS0
  rw [ok_jmp, fr38]
  refine ⟨6002, swF_seq (swF_reg (stps_mv (stps_cd [0, 1] (RC S) (by decide) ?_ (collect_ok S hS) ?_)))⟩
  · intro i hi
    simp only [List.mem_cons, List.not_mem_nil, or_false] at hi
    rcases hi with rfl | rfl <;> rfl
  · rintro r ob' ⟨q, hq, rfl, rfl⟩
    have hsq : srt q = srt S := srt_same (hq.nodup_iff.2 hnd) hnd fun x => hq.mem_iff
    have hql := hq.length_eq
    rw [← hsq]
    cases q with
    | nil =>
      refine ⟨rfl, stps_mv (stps_nil ?_)⟩
      show swF _ 6000 2 frS (((St.back (stS (kS S) (uS S)) 4098 [0, 1] (obC (kS S) (uS S))).put (some 5) .nils).put (some 3) .nils) _
      refine swF.tree (n0 := 4000) (n := 2000) (ctr_ok libT_ok qnone_ok) (CSN_eq (kS S) (uS S)) ?_
      unfold CSN
      rw [ok_jmp]
      refine swF.tree (n0 := 2000) (n := 2000) (ctr_ok libT_ok (asmO_ok _ _)) (CSN1_eq (kS S) (uS S)) ?_
      unfold CSN1
      rw [ok_owe, ok_jmp]
      refine ⟨CallL.sortN fp57.2 fun p cap w => Tryz.slices_Sort_string_none p cap w, ?_⟩
      refine swF.tree (n0 := 0) (n := 2000) (ctr_ok libT_ok qnone_ok) (CSN2_eq (kS S) (uS S)) ?_
      unfold CSN2
      rw [ok_ret]
      have e : srt ([] : List Nm) = [] := by simp [srt]
      rw [e]
      exact ⟨rfl, rfl⟩
    | cons c r =>
      refine ⟨rfl, stps_mv (stps_nil ?_)⟩
      show swF _ 6000 2 frS (((St.back (stS (kS S) (uS S)) 4098 [0, 1] (obCA (kS S) (uS S) (strC (c :: r)))).put (some 5) (.vec 4100)).put (some 3) (.vec 4100)) _
      refine swF.tree (n0 := 4000) (n := 2000) (ctr_ok libT_ok qnone_ok) (CSA_eq (kS S) (uS S) (strC (c :: r))) ?_
      unfold CSA
      rw [ok_jmp]
      refine swF.tree (n0 := 2000) (n := 2000) (ctr_ok libT_ok (asmO_ok _ _)) (CSA1_eq (kS S) (uS S) (strC (c :: r)) (strC (srt (c :: r)))) ?_
      unfold CSA1
      rw [ok_owe, ok_jmp]
      refine ⟨CallL.sortS fp57.2 (fun blk cap ss w h1 h2 h3 => Tryz.slices_Sort_string blk 0 cap ss w h1 h2 h3) _ _ (by simp) (by omega), ?_⟩
      refine swF.tree (n0 := 0) (n := 2000) (ctr_ok libT_ok qnone_ok) (CSA2_eq (kS S) (uS S) (strC (srt (c :: r)))) ?_
      unfold CSA2
      rw [ok_ret]
      have hne := srt_ne (q := c :: r) (by simp)
      generalize srt (c :: r) = z at hne ⊢
      cases z with
      | nil => exact absurd rfl hne
      | cons a b => exact ⟨rfl, rfl⟩
def outO (S : List Nm) : List Nm → D × Obs
  | [] => (.nils, [(0, setO S)])
  | c :: r => (.vec 1, [(0, setO S), (1, .arr false 1 9 (strC (c :: r)))])
theorem sorted_ok (S : List Nm) (hS : S.length ≤ 1073741823) (hnd : S.Nodup) : CallL Tryz.prog (.func (.func 27) [] []) [.map 0] [(0, setO S)] fun r ob => r = (outO S (srt S)).1 ∧ ob = (outO S (srt S)).2 := by
  have h := sortedF_ok S hS hnd
  generalize srt S = z at h ⊢
  cases z with
  | nil =>
    refine CallL.tree hdraw fp27 (ctr_ok libT_ok (QT.or_ok keyQ_ok (asmO_ok _ _))) (CSoN_eq (kS S) (uS S)) ?_
    unfold CSoN
    rw [ok_owe, ok_owe, ok_ret]
    exact ⟨trivial, h, rfl, rfl⟩
  | cons c r =>
    refine CallL.tree hdraw fp27 (ctr_ok libT_ok (QT.or_ok keyQ_ok (asmO_ok _ _))) (CSo_eq (kS S) (uS S) (strC (c :: r))) ?_
    unfold CSo
    rw [ok_owe, ok_owe, ok_ret]
    exact ⟨trivial, h, rfl, rfl⟩
def bdQ (ks1 cs1 ks2 cs2 : List D) (q : QT) : QT := ((valQ.or (onF 24 (asmA (.tuple []) (updM ks1 cs1)))).or (onF 26 (asmO (.map 1) [(0, .gen (.mapC ks1 cs1) []), (1, .gen (.mapC ks2 cs2) [])]))).or q
theorem bdQ_ok {ks1 cs1 ks2 cs2 : List D} {q : QT} (hq : q.OK) : (bdQ ks1 cs1 ks2 cs2 q).OK := QT.or_ok (QT.or_ok (QT.or_ok valQ_ok (onF_ok (asmA_ok _ _))) (onF_ok (asmO_ok _ _))) hq
noncomputable def PBoN (es : List (List D)) (gs : List (List D)) (ks1 : List D) (cs1 : List D) (ks2 : List D) (cs2 : List D) : Tr := Tr.owe True (Tr.owe (CallL Tryz.prog (D.func (Fn.func 24) [] []) [D.map 0, D.func (Fn.func 35) [] [D.ptr 1 0]] [(0, Ob.gen (Gen.mapC [] []) []), (1, Ob.cells [D.slice gs []])] fun r0 ob0 => r0 = D.tuple [] ∧ ob0 = [(0, Ob.gen (Gen.mapC ks1 cs1) []), (1, Ob.cells [D.slice gs []])]) (Tr.owe (CallL Tryz.prog (D.func (Fn.func 26) [] []) [D.map 0, D.slice es []] [(0, Ob.gen (Gen.mapC ks1 cs1) [])] fun r0 ob0 => r0 = D.map 1 ∧ ob0 = [(0, Ob.gen (Gen.mapC ks1 cs1) []), (1, Ob.gen (Gen.mapC ks2 cs2) [])]) (Tr.owe (CallL Tryz.prog (D.func (Fn.func 27) [] []) [D.map 0] [(0, Ob.gen (Gen.mapC ks2 cs2) [])] fun r0 ob0 => r0 = D.nils ∧ ob0 = [(0, Ob.gen (Gen.mapC ks2 cs2) [])]) (Tr.ret (D.slice [] []) []))))
theorem PBoN_eq (es : List (List D)) (gs : List (List D)) (ks1 : List D) (cs1 : List D) (ks2 : List D) (cs2 : List D) : goT Tryz.prog (ctr libT (bdQ ks1 cs1 ks2 cs2 (asmO D.nils [(0, Ob.gen (Gen.mapC ks2 cs2) [])]))) 0 (finF true 0 rs9) 2000 [Fr.sc sc9] { tm := envOf 0 [D.slice es [], D.slice gs []], ob := [] } = PBoN es gs ks1 cs1 ks2 cs2 := by kernel_rfl
noncomputable def PBoA (es : List (List D)) (gs : List (List D)) (r : List (List D)) (ks1 : List D) (cs1 : List D) (ks2 : List D) (cs2 : List D) : Tr := Tr.owe True (Tr.owe (CallL Tryz.prog (D.func (Fn.func 24) [] []) [D.map 0, D.func (Fn.func 35) [] [D.ptr 1 0]] [(0, Ob.gen (Gen.mapC [] []) []), (1, Ob.cells [D.slice gs []])] fun r0 ob0 => r0 = D.tuple [] ∧ ob0 = [(0, Ob.gen (Gen.mapC ks1 cs1) []), (1, Ob.cells [D.slice gs []])]) (Tr.owe (CallL Tryz.prog (D.func (Fn.func 26) [] []) [D.map 0, D.slice es []] [(0, Ob.gen (Gen.mapC ks1 cs1) [])] fun r0 ob0 => r0 = D.map 1 ∧ ob0 = [(0, Ob.gen (Gen.mapC ks1 cs1) []), (1, Ob.gen (Gen.mapC ks2 cs2) [])]) (Tr.owe (CallL Tryz.prog (D.func (Fn.func 27) [] []) [D.map 0] [(0, Ob.gen (Gen.mapC ks2 cs2) [])] fun r0 ob0 => r0 = D.vec 1 ∧ ob0 = [(0, Ob.gen (Gen.mapC ks2 cs2) []), (1, Ob.arr false 1 9 r)]) (Tr.ret (D.own 1 9 r) []))))
theorem PBoA_eq (es : List (List D)) (gs : List (List D)) (r : List (List D)) (ks1 : List D) (cs1 : List D) (ks2 : List D) (cs2 : List D) : goT Tryz.prog (ctr libT (bdQ ks1 cs1 ks2 cs2 (asmO (D.vec 1) [(0, Ob.gen (Gen.mapC ks2 cs2) []), (1, Ob.arr false 1 9 r)]))) 0 (finF true 0 rs9) 2000 [Fr.sc sc9] { tm := envOf 0 [D.slice es [], D.slice gs []], ob := [] } = PBoA es gs r ks1 cs1 ks2 cs2 := by kernel_rfl
end Go.Proofs.YtiafmjolbacdaaaGreat
