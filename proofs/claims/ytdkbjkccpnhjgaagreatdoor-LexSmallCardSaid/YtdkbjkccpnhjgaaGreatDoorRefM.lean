/- The reference model's Lex is the lexer. -/
import Derived.Test.YtdkbjkccpnhjgaaGreatDoorRefL
import Derived.Test.YtdkbjkccpnhjgaaGreatDoorJoinT
import Derived.Test.YtdkbjkccpnhjgaaGreatDoorAwake
set_option linter.unusedSectionVars false
set_option linter.unusedVariables false
set_option linter.unusedSimpArgs false
set_option linter.deprecated false
set_option maxRecDepth 100000
namespace Go.Proofs.YtdkbjkccpnhjgaaGreatDoor
open Go.Sx
theorem map_snoc (es : List Lx.Tk) (t : Lx.Tk) : es.map tokR ++ [tokR t] = (es ++ [t]).map tokR := by simp
theorem rl_at (s : List UInt8) (hl : s.length ≤ 32768) : ∀ (m i : Nat) (es : List Lx.Tk), s.length - i < m → i ≤ s.length → es.length ≤ i →
    At Tryz.prog 0 (cut sc15 0) (hdRL s (es.map tokR) i) (RLQ (Lx.ansR es (Lx.run i (s.drop i)))) := by
  intro m
  induction m with
  | zero => intro i es h; omega
  | succ m ih =>
    intro i es hm hi hes
    refine At.tree (ctr_ok refP4_ok qnone_ok) (PL0_eq s _ i) ?_
    unfold PL0
    by_cases h1 : i < s.length
    · have hix : (i : Int) < s.length := by omega
      have hix2 : 0 ≤ (i : Int) ∧ (i : Int) < s.length := by omega
      have hr : -9223372036854775808 ≤ (i : Int) + 1 ∧ (i : Int) + 1 ≤ 9223372036854775807 := by omega
      have hb := byte_lt s i
      have hls : s.length ≤ 4611686018427387904 ∧ 0 ≤ (i : Int) ∧ (i : Int) < s.length := by omega
      have e37 : (((s.getD i 0).toNat : Int) = 37) ↔ s.getD i 0 = 37 := nat8r (n := 37) (by decide)
      have e35 : (((s.getD i 0).toNat : Int) = 35) ↔ s.getD i 0 = 35 := nat8r (n := 35) (by decide)
      have hsl : (Lx.signOf (s.drop i)).length ≤ s.length - i := by
        have := Lx.tok_len (s.drop i)
        rw [List.length_drop] at this
        by_cases hne : (Lx.isLet (s.getD i 0) || Lx.isUnd (s.getD i 0)) = false ∧ Lx.isDig (s.getD i 0) = false ∧ s.getD i 0 ≠ 35
        · rw [Lx.tok_sign h1 hne.1 hne.2.1 hne.2.2] at this; exact this
        · simp only [Lx.signOf]
          cases hf : Lx.signL.find? (·.isPrefixOf (s.drop i)) with
          | none => simp
          | some t =>
            have h3 := List.find?_some hf
            have := (List.isPrefixOf_iff_prefix.1 h3).length_le
            rw [List.length_drop] at this
            exact this
      simp only [tb_nat, und95, ok_br, ok_owe, ok_ret, ok_jmp, decide_eq_true_eq, decide_eq_false_iff_not, Int.toNat_natCast, true_and, and_true, Bool.not_eq_true', Bool.not_eq_false', List.drop_zero, List.take_length, D.bool.injEq, D.int.injEq, D.str.injEq, true_implies, Int.le_refl, hix, hix2, hr, hb, hls, e37, e35, List.length_map, not_true_eq_false, false_implies]
      have he1 : es.length + 1 ≤ 1073741824 := by omega
      have hlx : s.length ≤ 4611686018427387904 := by omega
      have wd : (Lx.isLet (s.getD i 0) || Lx.isUnd (s.getD i 0)) = true → Lx.isBlank (s.getD i 0) = false → ¬ s.getD i 0 = 37 →
          At Tryz.prog 0 (cut sc15 2) (hdRW s (es.map tokR) i ((i + 1 : Nat) : Int)) (RLQ (Lx.ansR es (Lx.run i (s.drop i)))) := by
        intro hn nb n37
        obtain ⟨hT, hj⟩ := Lx.tok_name h1 hn
        refine rw_at s es _ i hlx he1 _ (i + 1) rfl (by omega) (by omega) (fun h0 => ?_) (fun h0 => ?_)
        · rw [Lx.wordK_zero h0] at hT
          exact Lx.rl_err h1 nb n37 hT (by decide)
        · rw [Lx.wordK_some h0] at hT
          rw [Lx.rl_go h1 nb n37 hT hj]
          have := Lx.tok_name h1 hn
          have hle := runTo_le Lx.isName s (i + 1)
          have hlen := runTo_len (p := Lx.isName) (s := s) (i := i + 1) (by omega)
          have := ih (runTo Lx.isName s (i + 1)) (es ++ [((Lx.wordK ((s.take (runTo Lx.isName s (i + 1))).drop i)).1, (s.take (runTo Lx.isName s (i + 1))).drop i, (i : Int))]) (by omega) hlen (by rw [List.length_append, List.length_singleton]; omega)
          rw [← map_snoc] at this
          exact this
      refine ⟨fun hbl => ?_, fun nb => ⟨fun h37 => ?_, fun n37 => ⟨fun hlt => ?_, fun nlt => ⟨fun hu => ?_, fun nu => ⟨fun hd => ?_, fun nd => ⟨fun h35 => ?_, fun n35 => ?_⟩⟩⟩⟩⟩⟩
      · rw [Lx.runAt_blank h1 hbl]
        exact ih (i + 1) es (by omega) (by omega) (by omega)
      · rw [Lx.runAt_cmt h1 h37]
        have hst : runTo Lx.inLine s i = runTo Lx.inLine s (i + 1) := runTo_step h1 (by rw [h37]; rfl)
        have hle := runTo_le Lx.inLine s (i + 1)
        have hlen := runTo_len (p := Lx.inLine) (s := s) (i := i) (by omega)
        exact rc_at s es _ hlx _ i rfl hi (ih _ es (by omega) hlen (by omega))
      · exact wd (by rw [hlt]; rfl) nb n37
      · exact wd (by rw [hu, Bool.or_true]) nb n37
      · obtain ⟨hT, hj, hne, hall⟩ := Lx.tok_dig h1 hd
        refine rd_at s es _ i hlx he1 _ (i + 1) rfl (by omega) (by omega) ⟨hne, hall⟩ (fun h0 => ?_) (fun h0 => ?_)
        · have h32 : Lx.numE ((s.take (runTo Lx.isDig s (i + 1))).drop i) = 32 := by
            unfold Lx.numE at h0 ⊢
            split
            · rename_i n heq
              rw [heq] at h0
              simp only at h0
              split
              · rfl
              · rename_i hq
                rw [if_neg hq] at h0
                split
                · rename_i hq2; rw [if_pos hq2] at h0; exact absurd rfl h0
                · rfl
            · rfl
          rw [h32] at hT
          exact Lx.rl_err h1 nb n37 hT (by decide)
        · rw [h0] at hT
          rw [Lx.rl_go h1 nb n37 hT hj]
          have hle := runTo_le Lx.isDig s (i + 1)
          have hlen := runTo_len (p := Lx.isDig) (s := s) (i := i + 1) (by omega)
          have := ih (runTo Lx.isDig s (i + 1)) (es ++ [(3, (s.take (runTo Lx.isDig s (i + 1))).drop i, (i : Int))]) (by omega) hlen (by rw [List.length_append, List.length_singleton]; omega)
          rw [← map_snoc] at this
          exact this
      · obtain ⟨hT, hj⟩ := Lx.tok_dir h1 h35
        refine rk_at s es _ i hlx he1 _ (i + 1) rfl (by omega) (by omega) (fun h0 => ?_) (fun h0 => ?_)
        · rw [if_neg h0] at hT
          exact Lx.rl_err h1 nb n37 hT (by decide)
        · rw [if_pos h0] at hT
          rw [Lx.rl_go h1 nb n37 hT hj]
          have hle := runTo_le Lx.isLet s (i + 1)
          have hlen := runTo_len (p := Lx.isLet) (s := s) (i := i + 1) (by omega)
          have := ih (runTo Lx.isLet s (i + 1)) (es ++ [(5, (s.take (runTo Lx.isLet s (i + 1))).drop i, (i : Int))]) (by omega) hlen (by rw [List.length_append, List.length_singleton]; omega)
          rw [← map_snoc] at this
          exact this
      · have hT := Lx.tok_sign h1 (by rw [nlt, nu]; rfl) nd n35
        have et : (s.take (i + (Lx.signOf (s.drop i)).length)).drop i = Lx.signOf (s.drop i) := by
          have := Lx.tok_take (s.drop i)
          rw [hT] at this
          rw [List.drop_take, Nat.add_sub_cancel_left]
          exact this
        have en : ((i : Int) + ((Lx.signOf (s.drop i)).length : Int)).toNat = i + (Lx.signOf (s.drop i)).length := by omega
        rw [en, et]
        refine ⟨by omega, fun h0 => ?_, fun h0 => ⟨by omega, ⟨allLen_cons.2 ⟨rfl, allLen_nil _⟩, he1⟩, ?_⟩⟩
        · have hnil : Lx.signOf (s.drop i) = [] := List.length_eq_zero_iff.1 (by omega)
          rw [if_pos hnil] at hT
          rw [Lx.rl_err h1 nb n37 hT (by decide)]
          rfl
        · have hnn : Lx.signOf (s.drop i) ≠ [] := fun h => h0 (by rw [h]; simp)
          rw [if_neg hnn] at hT
          rw [Lx.rl_go h1 nb n37 hT rfl]
          have hp := List.length_pos_iff.2 hnn
          have := ih (i + (Lx.signOf (s.drop i)).length) (es ++ [(6, Lx.signOf (s.drop i), (i : Int))]) (by omega) (by omega) (by rw [List.length_append, List.length_singleton]; omega)
          rw [← map_snoc] at this
          exact this
    · obtain ⟨r1, r2⟩ := Lx.runAt_end (s := s) (i := i) (by omega)
      rw [Lx.ansR_end r1 r2]
      simp only [ok_br, ok_owe, ok_ret, ok_jmp, decide_eq_true_eq, decide_eq_false_iff_not, Int.toNat_natCast, true_and, and_true, Bool.not_eq_true', Bool.not_eq_false', List.drop_zero, List.take_length, D.bool.injEq, D.int.injEq, D.str.injEq, true_implies, Int.le_refl]
      exact ⟨fun h => absurd (by omega) h1, fun _ => rfl⟩
theorem refLex_ok (s : List UInt8) : FnOK Tryz.prog 15 [.str s] (refA (Lx.lexR s)) := by
  refine FnOK.tree hdraw fp15 (ctr_ok refP4_ok qnone_ok) (PRL_eq s) ?_
  unfold PRL
  rw [Lx.lexR_ans]
  simp only [ok_br, ok_owe, ok_ret, ok_jmp, decide_eq_true_eq, decide_eq_false_iff_not, Int.toNat_natCast, true_and, and_true, Bool.not_eq_true', Bool.not_eq_false', List.drop_zero, List.take_length, D.bool.injEq, D.int.injEq, D.str.injEq, true_implies, Int.le_refl]
  refine ⟨fun h => ?_, fun h => ?_⟩
  · rw [if_pos (by omega)]; rfl
  · rw [if_neg (by omega)]
    have := rl_at s (by omega) _ 0 [] (Nat.lt_succ_self _) (Nat.zero_le _) (Nat.le_refl _)
    rw [List.drop_zero] at this
    exact this
end Go.Proofs.YtdkbjkccpnhjgaaGreatDoor
