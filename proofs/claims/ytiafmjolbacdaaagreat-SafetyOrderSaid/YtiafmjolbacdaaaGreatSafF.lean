/- close, bound. -/
import Derived.Test.YtiafmjolbacdaaaGreatSafE
set_option linter.unusedSectionVars false
set_option linter.unusedVariables false
set_option linter.unusedSimpArgs false
set_option linter.deprecated false
set_option maxRecDepth 100000
namespace Go.Proofs.YtiafmjolbacdaaaGreat
open Go.Sx Go.RowKit
section
variable (ls : List Lt) (hl : ls.length ≤ 281474976710656) (hok : ∀ x ∈ ls, okL x)
include hl hok
theorem closeI_at (n : Int) (R : D → Obs → Prop) (T : List Nm) (K : At Tryz.prog 1 (cut sc37 0) (hdCl (ltL ls) n (kS T) (uS T)) (FinQ false 1 rs37 R)) : ∀ (m i : Nat) (S : List Nm), ls.length - i = m → i ≤ ls.length → roundS S (ls.drop i) = T →
    At Tryz.prog 1 (cut sc37 1) (hdCi (ltL ls) n ls.length i (kS S) (uS S)) (FinQ false 1 rs37 R) := by
  intro m
  induction m with
  | zero =>
    intro i S hm hi hT
    refine At.tree (ctr_ok libT_ok (asmA_ok _ _)) (CCl3_eq (kS S) (uS S) [] [] (ltL ls) n ls.length i 0 true [] [] 0 0 0 [] [] 0 0 [] []) ?_
    unfold CCl3
    rw [List.drop_eq_nil_of_le (by omega : ls.length ≤ i)] at hT
    have hT : S = T := hT
    subst hT
    rw [ok_br]
    refine ⟨fun h => ?_, fun _ => ?_⟩
    · have := of_decide_eq_true h
      omega
    · rw [ok_jmp]
      exact K
  | succ m ih =>
    intro i S hm hi hT
    have h1 : i < ls.length := by omega
    rw [drop_cons h1] at hT
    have hI := ih (i + 1) (stepS S ls[i]) (by omega) (by omega) hT
    have hg := ltL_get h1
    have hs := step_ok S ls[i] (hok _ (List.getElem_mem h1))
    generalize stepS S ls[i] = S2 at hI hs
    generalize ls[i] = x at hg hs
    obtain ⟨k, no, p, a, op, ⟨kx, nx, sx, ax⟩, ⟨ky, ny, sy, ay⟩⟩ := x
    refine At.tree (ctr_ok libT_ok (asmA_ok _ _)) (CCl3_eq (kS S) (uS S) (kS S2) (uS S2) (ltL ls) n ls.length i k no p (Tm.cellsL a) op kx nx sx (Tm.cellsL ax) ky ny sy (Tm.cellsL ay)) ?_
    unfold CCl3
    rw [ok_br]
    refine ⟨fun _ => ?_, fun h => ?_⟩
    · rw [ok_owe, Int.toNat_natCast, ok_owe, ok_owe, ok_jmp]
      exact ⟨⟨by omega, hg⟩, hs, by omega, hI⟩
    · have := of_decide_eq_false h; omega
theorem closeO_at : ∀ (m : Nat) (S : List Nm) (n : Int), S.Nodup → gapS S ls < m → n ≠ (S.length : Int) →
    At Tryz.prog 1 (cut sc37 0) (hdCl (ltL ls) n (kS S) (uS S)) (FinQ false 1 rs37 fun r ob => r = .tuple [] ∧ ob = [(0, setO (closeS S ls))]) := by
  intro m
  induction m with
  | zero => intro S n _ h; omega
  | succ m ih =>
    intro S n hS hg hn
    have hst := closeS_step ls hS
    have hgl := gap_lt (ls := ls) hS
    have hnd := roundS_nd ls hS
    have K : At Tryz.prog 1 (cut sc37 0) (hdCl (ltL ls) S.length (kS (roundS S ls)) (uS (roundS S ls))) (FinQ false 1 rs37 fun r ob => r = .tuple [] ∧ ob = [(0, setO (closeS S ls))]) := by
      by_cases hT : (roundS S ls).length = S.length
      · rw [if_pos hT] at hst
        rw [hst]
        refine At.tree (ctr_ok libT_ok qnone_ok) (CCl2_eq (kS (roundS S ls)) (uS (roundS S ls)) (ltL ls) S.length) ?_
        unfold CCl2
        rw [kS_len, hT, ok_br]
        exact ⟨fun h => by simp at h, fun _ => ⟨rfl, rfl⟩⟩
      · rw [if_neg hT] at hst
        rw [hst]
        exact ih (roundS S ls) S.length hnd (by have := hgl hT; omega) (by omega)
    refine At.tree (ctr_ok libT_ok qnone_ok) (CCl2_eq (kS S) (uS S) (ltL ls) n) ?_
    unfold CCl2
    rw [kS_len, ltL_len, ok_br]
    refine ⟨fun _ => ?_, fun h => ?_⟩
    · rw [ok_jmp]
      exact closeI_at ls hl hok S.length _ _ K _ 0 S rfl (Nat.zero_le _) rfl
    · simp only [Bool.not_eq_false', decide_eq_true_eq] at h
      exact absurd h hn
theorem close_ok (S : List Nm) (hS : S.Nodup) : CallL Tryz.prog (.func (.func 37) [] []) [.agg [.map 0], .slice (ltL ls) []] [(0, setO S)] fun r ob => r = .tuple [] ∧ ob = [(0, setO (closeS S ls))] := by
  refine CallL.tree hdraw fp37 (ctr_ok libT_ok qnone_ok) (CCl_eq (kS S) (uS S) (ltL ls)) ?_
  unfold CCl
  rw [ok_jmp]
  exact closeO_at ls hl hok _ S (-1) hS (Nat.lt_succ_self _) (by omega)
theorem bound_ok (S : List Nm) (hS : S.Nodup) : CallL Tryz.prog (.func (.func 26) [] []) [.map 0, .slice (ltL ls) []] [(0, setO S)] fun r ob => r = .map 1 ∧ ob = [(0, setO S), (1, setO (closeS S ls))] := by
  refine CallL.tree hdraw fp26 (ctr_ok libT_ok (QT.or_ok (onF_ok (asmO_ok _ _)) (asmA_ok _ _))) (CBd_eq (kS S) (uS S) (kS (closeS S ls)) (uS (closeS S ls)) (ltL ls)) ?_
  unfold CBd
  rw [ok_owe, ok_owe, ok_ret]
  exact ⟨CallL.clone (by kernel_rfl) (fun b es clock w h => Tryz.maps_Clone b es clock w h) _ _, close_ok ls hl hok S hS, rfl, rfl⟩
end
end Go.Proofs.YtiafmjolbacdaaaGreat
