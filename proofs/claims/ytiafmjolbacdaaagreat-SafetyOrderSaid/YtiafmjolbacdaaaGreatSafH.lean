/- Keys gathered. -/
import Derived.Test.YtiafmjolbacdaaaGreatSafG
import Derived.Test.YtiafmjolbacdaaaGreatSx9
set_option linter.unusedSectionVars false
set_option linter.unusedVariables false
set_option linter.unusedSimpArgs false
set_option linter.deprecated false
set_option maxRecDepth 100000
namespace Go.Proofs.YtiafmjolbacdaaaGreat
open Go.Sx Go.RowKit
theorem pN_ok (x : Nm) (ks cs : List D) (l : List Nat) (cl : Nat) : CallL Tryz.prog (.yld 0) [.str x] [(0, recP (dsP 1 2 3)), (1, .cells [.map 4]), (2, .arr true 1 9 []), (3, .cells [.nils]), (4, mbO ks cs l cl)] fun r ob => r = .bool true ∧ ob = [(0, recP (dsP 1 2 3)), (1, .cells [.map 4]), (2, .arr true 1 9 []), (3, .cells [.vec 5]), (4, mbO ks cs l cl), (5, .arr false 1 9 [[.str x]])] := by
  refine CallL.yldT hdraw (ctr_ok libT_ok qnone_ok) rfl (TyPN_eq x ks cs l cl) ?_
  unfold TyPN
  rw [ok_owe, ok_ret]
  exact ⟨⟨alS [x], by decide⟩, rfl, rfl⟩
theorem pA_ok (x : Nm) (ks cs : List D) (l : List Nat) (cl : Nat) (o : List Nm) (ho : o.length + 1 ≤ 1073741824) : CallL Tryz.prog (.yld 0) [.str x] [(0, recP (dsP 1 2 3)), (1, .cells [.map 4]), (2, .arr true 1 9 []), (3, .cells [.vec 5]), (4, mbO ks cs l cl), (5, .arr false 1 9 (strC o))] fun r ob => r = .bool true ∧ ob = [(0, recP (dsP 1 2 3)), (1, .cells [.map 4]), (2, .arr true 1 9 []), (3, .cells [.vec 6]), (4, mbO ks cs l cl), (6, .arr false 1 9 (strC o ++ [[.str x]]))] := by
  refine CallL.yldT hdraw (ctr_ok libT_ok qnone_ok) rfl (TyPA_eq x ks cs l cl (strC o)) ?_
  unfold TyPA
  rw [ok_owe, ok_ret]
  exact ⟨⟨alS [x], by rw [strC_len]; exact ho⟩, rfl, rfl⟩
def pickI (S : List Nm) (ix : List Nat) : List Nm := ix.map fun i => S.getD i []
theorem pick_perm {S : List Nm} {ix : List Nat} (hnd : ix.Nodup) (hlt : ∀ i ∈ ix, i < S.length) (hall : ∀ i, i < S.length → i ∈ ix) : (pickI S ix).Perm S := by
  have h : ix.Perm (List.range S.length) := (List.perm_ext_iff_of_nodup hnd List.nodup_range).2 fun i => ⟨fun hi => List.mem_range.2 (hlt i hi), fun hi => hall i (List.mem_range.1 hi)⟩
  refine (h.map _).trans ?_
  have e : (List.range S.length).map (fun i => S.getD i []) = S := by
    refine List.ext_getElem? fun j => ?_
    rw [List.getElem?_map]
    by_cases hj : j < S.length
    · simp [hj]
    · rw [List.getElem?_eq_none (by simpa using hj), List.getElem?_eq_none (by omega)]; rfl
  rw [e]
theorem ix_le {n : Nat} {ix : List Nat} (hnd : ix.Nodup) (hlt : ∀ i ∈ ix, i < n) : ix.length ≤ n := by
  have := List.Nodup.length_le_of_subset hnd (l₂ := List.range n) (fun i hi => List.mem_range.2 (hlt i hi))
  simpa using this
theorem kS_get {S : List Nm} {i : Nat} (h : i < S.length) : (kS S)[i]? = some (.str (S.getD i [])) := by simp [kS, h]
theorem uS_get {S : List Nm} {i : Nat} (h : i < S.length) : (uS S)[i]? = some (.agg []) := by simp [uS, h]
theorem spc0 : spc sc58 0 = .sc (.spec (.rng [so 4 (.load false 1) [xt 1]] 5 (xt 4))) :: aft sc58 0 := rfl
theorem spc1 : spc sc58 1 = .sc (.spec (.nxt (xt 5) 6 7)) :: aft sc58 1 := rfl
def outP (S : List Nm) : List Nm → Obs
  | [] => obPN (setO S)
  | c :: r => obPA (setO S) 5 (strC (c :: r))
def hdKs (S : List Nm) (l ix : List Nat) (cl : Nat) : List Nm → St
  | [] => ⟨[(0, .yld 1), (5, .ptr 5 0)], obPN (mbO (kS S) (uS S) l cl) ++ [(5, itO l ix cl 2)]⟩
  | c :: r => ⟨[(0, .yld 1), (5, .ptr 5 0)], [(0, .cells [.map 2]), (1, recP (dsP 0 3 4)), (2, mbO (kS S) (uS S) l cl), (3, .arr true 1 9 []), (4, .cells [.vec 6]), (5, itO l ix cl 2), (6, .arr false 1 9 (strC (c :: r)))]⟩
abbrev RP (S : List Nm) : D → Obs → Prop := fun r ob => r = .tuple [] ∧ ∃ q : List Nm, q.Perm S ∧ ob = outP S q
theorem keys_at (S : List Nm) (hS : S.length ≤ 1073741823) (l : List Nat) (hl : l.length = S.length) (cl : Nat) : ∀ (m : Nat) (ix : List Nat), ix.Nodup → (∀ i ∈ ix, i < S.length) → S.length - ix.length = m →
    swF Tryz.prog (6001 + 4001 * m) 5 (cut sc58 0) (hdKs S l ix cl (pickI S ix)) (FinQ false 5 rs58 (RP S)) := by
  intro m
  induction m with
  | zero =>
    intro ix hnd hlt hm
    have hlen := ix_le hnd hlt
    have hq : ∀ (hall : ∀ i, i < l.length → i ∈ ix), (pickI S ix).Perm S := fun hall => pick_perm hnd hlt fun i hi => hall i (by omega)
    have hfull : ∀ i, i < l.length → i ∉ ix → False := fun i hi hn => hn (full_ix hnd hlt (by omega) i (by omega))
    generalize hg : pickI S ix = g at hq ⊢
    cases g with
    | nil =>
      refine swF.tree (n0 := 4001) (n := 2000) (ctr_ok libT_ok qnone_ok) (CKhN_eq (kS S) (uS S) l ix cl) ?_
      unfold CKhN
      rw [ok_jmp, spc1]
      refine swF_spec ⟨5, l, ix, cl, 2, kS S, uS S, rfl, rfl, rfl, by decide, fun hall => ⟨rfl, ?_⟩, fun i hi hn => (hfull i hi hn).elim⟩
      refine swF.tree (n0 := 2000) (n := 2000) (ctr_ok libT_ok qnone_ok) (CKfN_eq (kS S) (uS S) l ix cl) ?_
      unfold CKfN
      rw [ok_ret]
      exact ⟨rfl, [], hq hall, rfl⟩
    | cons c r =>
      refine swF.tree (n0 := 4001) (n := 2000) (ctr_ok libT_ok qnone_ok) (CKhA_eq (kS S) (uS S) l ix cl (strC (c :: r))) ?_
      unfold CKhA
      rw [ok_jmp, spc1]
      refine swF_spec ⟨5, l, ix, cl, 2, kS S, uS S, rfl, rfl, rfl, by decide, fun hall => ⟨rfl, ?_⟩, fun i hi hn => (hfull i hi hn).elim⟩
      refine swF.tree (n0 := 2000) (n := 2000) (ctr_ok libT_ok qnone_ok) (CKfA_eq (kS S) (uS S) l ix cl (strC (c :: r))) ?_
      unfold CKfA
      rw [ok_ret]
      exact ⟨rfl, c :: r, hq hall, rfl⟩
  | succ m ih =>
    intro ix hnd hlt hm
    have hlen := ix_le hnd hlt
    have hnot : (∀ i, i < l.length → i ∈ ix) → False := fun hall => by
      have hp := pick_perm hnd hlt fun i hi => hall i (by omega)
      have := hp.length_eq
      simp only [pickI, List.length_map] at this
      omega
    have hnext : ∀ i, i < l.length → i ∉ ix → swF Tryz.prog (6001 + 4001 * m) 5 (cut sc58 0) (hdKs S l (ix ++ [i]) cl (pickI S ix ++ [S.getD i []])) (FinQ false 5 rs58 (RP S)) := fun i hi hn => by
      have hI := ih (ix ++ [i]) (by rw [List.nodup_append]; exact ⟨hnd, by simp, fun a ha b hb e => by simp at hb; subst hb; subst e; exact hn ha⟩) (fun j hj => by
        rcases List.mem_append.1 hj with hj | hj
        · exact hlt j hj
        · simp at hj; omega) (by simp; omega)
      have e : pickI S (ix ++ [i]) = pickI S ix ++ [S.getD i []] := by simp [pickI]
      rw [e] at hI
      exact hI
    have hpl : (pickI S ix).length = ix.length := by simp [pickI]
    rw [show 6001 + 4001 * (m + 1) = (4000 + 4001 * (m + 1) + 1) + 2000 by omega]
    generalize pickI S ix = g at hnext hpl ⊢
    cases g with
    | nil =>
      refine swF.tree (n0 := 4000 + 4001 * (m + 1) + 1) (n := 2000) (ctr_ok libT_ok qnone_ok) (CKhN_eq (kS S) (uS S) l ix cl) ?_
      unfold CKhN
      rw [ok_jmp, spc1]
      refine swF_spec ⟨5, l, ix, cl, 2, kS S, uS S, rfl, rfl, rfl, by decide, fun hall => (hnot hall).elim, fun i hi hn => ⟨rfl, ?_⟩⟩
      have hi' : i < S.length := by omega
      have hI := hnext i hi hn
      have h1 := kS_get hi'
      have h2 := uS_get hi'
      rw [show 4000 + 4001 * (m + 1) = (6001 + 4001 * m) + 2000 by omega]
      refine swF.tree (n0 := 6001 + 4001 * m) (n := 2000) (ctr_ok libT_ok (asmA_ok _ _)) (CKtN_eq (kS S) (uS S) l (ix ++ [i]) cl (S.getD i [])) ?_
      unfold CKtN
      rw [ok_owe, ok_owe, ok_jmp]
      refine ⟨?_, pN_ok _ _ _ _ _, hI⟩
      simp [extD, lk, h1, h2, kOK]
    | cons c r =>
      refine swF.tree (n0 := 4000 + 4001 * (m + 1) + 1) (n := 2000) (ctr_ok libT_ok qnone_ok) (CKhA_eq (kS S) (uS S) l ix cl (strC (c :: r))) ?_
      unfold CKhA
      rw [ok_jmp, spc1]
      refine swF_spec ⟨5, l, ix, cl, 2, kS S, uS S, rfl, rfl, rfl, by decide, fun hall => (hnot hall).elim, fun i hi hn => ⟨rfl, ?_⟩⟩
      have hi' : i < S.length := by omega
      have hI := hnext i hi hn
      have h1 := kS_get hi'
      have h2 := uS_get hi'
      rw [show 4000 + 4001 * (m + 1) = (6001 + 4001 * m) + 2000 by omega]
      refine swF.tree (n0 := 6001 + 4001 * m) (n := 2000) (ctr_ok libT_ok (asmA_ok _ _)) (CKtA_eq (kS S) (uS S) l (ix ++ [i]) cl (strC (c :: r)) (S.getD i [])) ?_
      unfold CKtA
      rw [ok_owe, ok_owe, ok_jmp]
      have e : strC (c :: r) ++ [[D.str (S.getD i [])]] = strC (c :: (r ++ [S.getD i []])) := by simp [strC]
      refine ⟨?_, pA_ok _ _ _ _ _ _ (by simp only [List.length_cons] at hpl ⊢; omega), ?_⟩
      · simp [extD, lk, h1, h2, kOK]
      · rw [e]; exact hI
theorem keys_ok (S : List Nm) (hS : S.length ≤ 1073741823) : CallL Tryz.prog (.func (.func fY) [] [.ptr 0 0]) [.yld 1] (obPN (setO S)) (RP S) := by
  refine CallL.tree hdraw fp58 (ctr_ok libT_ok qnone_ok) (CKs_eq (kS S) (uS S)) ?_
  unfold CKs
  rw [ok_jmp, spc0]
  refine ⟨_, swF_spec (n := 6001 + 4001 * S.length + 2000) ⟨2, kS S, uS S, rfl, rfl, rfl, (by show (2 : Nat) ≠ 10; decide), fun l cl h1 h2 h3 => ⟨rfl, ?_⟩⟩⟩
  refine swF.tree (n0 := 6001 + 4001 * S.length) (n := 2000) (ctr_ok libT_ok qnone_ok) (CKa_eq (kS S) (uS S) l cl) ?_
  unfold CKa
  rw [ok_jmp]
  exact keys_at S hS l (by rw [h1, kS_len]) cl _ [] List.nodup_nil (fun i hi => by simp at hi) rfl
end Go.Proofs.YtiafmjolbacdaaaGreat
