/- LexWords: it returns true. -/
import Derived.Test.YtdkbjkccpnhjgaaGreatDoorWordsA
import Derived.Test.YtdkbjkccpnhjgaaGreatDoorWordsB
import Derived.Test.YtdkbjkccpnhjgaaGreatDoorWordsC
import Derived.Test.YtdkbjkccpnhjgaaGreatDoorSx7
set_option linter.unusedSectionVars false
set_option linter.unusedVariables false
set_option linter.unusedSimpArgs false
set_option linter.deprecated false
set_option maxRecDepth 100000
namespace Go.Proofs.YtdkbjkccpnhjgaaGreatDoor
open Go.Sx
theorem lex_nonempty {s : List UInt8} {x : Lx.Tk} {l : List Lx.Tk} (h : (Lx.lexR s).1 = x :: l) : (Lx.lexR s).2.2 = 0 := by
  unfold Lx.lexR at h ⊢
  split at h
  · cases h
  · rename_i hn
    rw [if_neg hn]
    split at h
    · cases h
    · rfl
theorem wA0_ok (s : List UInt8) (n : Int) (p e q : Int) (sy va : Bool) (t t2 : List UInt8) (k0 : Int) (t0 : List UInt8) (p0 : Int) (c1 : List D) (r : List (List D)) (hL : FnOK Tryz.prog 9 [.str s] (.tuple [.slice [] [], .int .i64 p, .int .i64 e])) (hS : FnOK Tryz.prog 10 [.str s] (.bool sy)) (hV : FnOK Tryz.prog 11 [.str s] (.bool va))
    (hT : FnOK Tryz.prog 12 [.agg [.int .u8 1, .int .i64 n, .str [], .slice [] []]] (.str [])) (hK : FnOK Tryz.prog 9 [.str []] (.tuple [.slice [] [], .int .i64 q, .int .i64 0])) (hW : FnOK Tryz.prog 13 [.agg [.int .u8 1, .int .i64 n, .str [], .slice [] []]] (.bool false)) 
    (h1 : sy = false) (h2 : va = false) (h3 : decide (s = [110, 111, 116]) = false) : FnOK Tryz.prog 5 [.str s, .int .i64 n] (.bool true) := by
  refine FnOK.tree hdraw fp5 (dCtr_ok qnone_ok) (PWA0_eq s n p e q sy va t t2 k0 t0 p0 c1 r) ?_
  unfold PWA0
  have hA := awake_ok
  subst h1 h2
  simp [ok_br, ok_owe, ok_ret, hA, hL, hS, hV, hT, hK, hW, h3]
theorem wA1_ok (s : List UInt8) (n : Int) (p e q : Int) (sy va : Bool) (t t2 : List UInt8) (k0 : Int) (t0 : List UInt8) (p0 : Int) (c1 : List D) (r : List (List D)) (hL : FnOK Tryz.prog 9 [.str s] (.tuple [.slice [] [], .int .i64 p, .int .i64 e])) (hS : FnOK Tryz.prog 10 [.str s] (.bool sy)) (hV : FnOK Tryz.prog 11 [.str s] (.bool va))
    (hT : FnOK Tryz.prog 12 [.agg [.int .u8 1, .int .i64 n, .str [], .slice [] []]] (.str t)) (hK : FnOK Tryz.prog 9 [.str t] (.tuple [.slice [[.int .u8 3, .str t, .int .i64 0]] [], .int .i64 q, .int .i64 0])) (hW : FnOK Tryz.prog 13 [.agg [.int .u8 1, .int .i64 n, .str [], .slice [] []]] (.bool true)) (hn : ¬ n < 0) 
    (h1 : sy = false) (h2 : va = false) (h3 : decide (s = [110, 111, 116]) = false) : FnOK Tryz.prog 5 [.str s, .int .i64 n] (.bool true) := by
  refine FnOK.tree hdraw fp5 (dCtr_ok qnone_ok) (PWA1_eq s n p e q sy va t t2 k0 t0 p0 c1 r) ?_
  unfold PWA1
  have hA := awake_ok
  subst h1 h2
  simp [ok_br, ok_owe, ok_ret, hA, hL, hS, hV, hT, hK, hW, h3, hn]
theorem wA2_ok (s : List UInt8) (n : Int) (p e q : Int) (sy va : Bool) (t t2 : List UInt8) (k0 : Int) (t0 : List UInt8) (p0 : Int) (c1 : List D) (r : List (List D)) (hL : FnOK Tryz.prog 9 [.str s] (.tuple [.slice [] [], .int .i64 p, .int .i64 e])) (hS : FnOK Tryz.prog 10 [.str s] (.bool sy)) (hV : FnOK Tryz.prog 11 [.str s] (.bool va))
    (hT : FnOK Tryz.prog 12 [.agg [.int .u8 1, .int .i64 n, .str [], .slice [] []]] (.str t)) (hK : FnOK Tryz.prog 9 [.str t] (.tuple [.slice [[.int .u8 6, .str [45], .int .i64 0], [.int .u8 3, .str t2, .int .i64 1]] [], .int .i64 q, .int .i64 0])) (hW : FnOK Tryz.prog 13 [.agg [.int .u8 1, .int .i64 n, .str [], .slice [] []]] (.bool true)) (hn : n < 0) 
    (h1 : sy = false) (h2 : va = false) (h3 : decide (s = [110, 111, 116]) = false) : FnOK Tryz.prog 5 [.str s, .int .i64 n] (.bool true) := by
  refine FnOK.tree hdraw fp5 (dCtr_ok qnone_ok) (PWA2_eq s n p e q sy va t t2 k0 t0 p0 c1 r) ?_
  unfold PWA2
  have hA := awake_ok
  subst h1 h2
  simp [ok_br, ok_owe, ok_ret, hA, hL, hS, hV, hT, hK, hW, h3, hn]
theorem wB0_ok (s : List UInt8) (n : Int) (p e q : Int) (sy va : Bool) (t t2 : List UInt8) (k0 : Int) (t0 : List UInt8) (p0 : Int) (c1 : List D) (r : List (List D)) (hL : FnOK Tryz.prog 9 [.str s] (.tuple [.slice [[.int .u8 k0, .str t0, .int .i64 p0]] [], .int .i64 p, .int .i64 0])) (hS : FnOK Tryz.prog 10 [.str s] (.bool sy)) (hV : FnOK Tryz.prog 11 [.str s] (.bool va))
    (hT : FnOK Tryz.prog 12 [.agg [.int .u8 1, .int .i64 n, .str [], .slice [] []]] (.str [])) (hK : FnOK Tryz.prog 9 [.str []] (.tuple [.slice [] [], .int .i64 q, .int .i64 0])) (hW : FnOK Tryz.prog 13 [.agg [.int .u8 1, .int .i64 n, .str [], .slice [] []]] (.bool false)) 
    (h1 : sy = (decide (t0 = s) && decide (k0 = 1))) (h2 : va = (decide (t0 = s) && decide (k0 = 2))) (h3 : decide (s = [110, 111, 116]) = (decide (t0 = s) && decide (k0 = 4))) : FnOK Tryz.prog 5 [.str s, .int .i64 n] (.bool true) := by
  refine FnOK.tree hdraw fp5 (dCtr_ok qnone_ok) (PWB0_eq s n p e q sy va t t2 k0 t0 p0 c1 r) ?_
  unfold PWB0
  have hA := awake_ok
  by_cases h0 : t0 = s
  · simp only [h0, decide_true, Bool.true_and] at h1 h2 h3
    subst h1 h2 h0
    simp [ok_br, ok_owe, ok_ret, hA, hL, hS, hV, hT, hK, hW, h3]
  · simp only [h0, decide_false, Bool.false_and] at h1 h2 h3
    subst h1 h2
    simp [ok_br, ok_owe, ok_ret, hA, hL, hS, hV, hT, hK, hW, h0, h3]
theorem wB1_ok (s : List UInt8) (n : Int) (p e q : Int) (sy va : Bool) (t t2 : List UInt8) (k0 : Int) (t0 : List UInt8) (p0 : Int) (c1 : List D) (r : List (List D)) (hL : FnOK Tryz.prog 9 [.str s] (.tuple [.slice [[.int .u8 k0, .str t0, .int .i64 p0]] [], .int .i64 p, .int .i64 0])) (hS : FnOK Tryz.prog 10 [.str s] (.bool sy)) (hV : FnOK Tryz.prog 11 [.str s] (.bool va))
    (hT : FnOK Tryz.prog 12 [.agg [.int .u8 1, .int .i64 n, .str [], .slice [] []]] (.str t)) (hK : FnOK Tryz.prog 9 [.str t] (.tuple [.slice [[.int .u8 3, .str t, .int .i64 0]] [], .int .i64 q, .int .i64 0])) (hW : FnOK Tryz.prog 13 [.agg [.int .u8 1, .int .i64 n, .str [], .slice [] []]] (.bool true)) (hn : ¬ n < 0) 
    (h1 : sy = (decide (t0 = s) && decide (k0 = 1))) (h2 : va = (decide (t0 = s) && decide (k0 = 2))) (h3 : decide (s = [110, 111, 116]) = (decide (t0 = s) && decide (k0 = 4))) : FnOK Tryz.prog 5 [.str s, .int .i64 n] (.bool true) := by
  refine FnOK.tree hdraw fp5 (dCtr_ok qnone_ok) (PWB1_eq s n p e q sy va t t2 k0 t0 p0 c1 r) ?_
  unfold PWB1
  have hA := awake_ok
  by_cases h0 : t0 = s
  · simp only [h0, decide_true, Bool.true_and] at h1 h2 h3
    subst h1 h2 h0
    simp [ok_br, ok_owe, ok_ret, hA, hL, hS, hV, hT, hK, hW, h3, hn]
  · simp only [h0, decide_false, Bool.false_and] at h1 h2 h3
    subst h1 h2
    simp [ok_br, ok_owe, ok_ret, hA, hL, hS, hV, hT, hK, hW, h0, h3, hn]
theorem wB2_ok (s : List UInt8) (n : Int) (p e q : Int) (sy va : Bool) (t t2 : List UInt8) (k0 : Int) (t0 : List UInt8) (p0 : Int) (c1 : List D) (r : List (List D)) (hL : FnOK Tryz.prog 9 [.str s] (.tuple [.slice [[.int .u8 k0, .str t0, .int .i64 p0]] [], .int .i64 p, .int .i64 0])) (hS : FnOK Tryz.prog 10 [.str s] (.bool sy)) (hV : FnOK Tryz.prog 11 [.str s] (.bool va))
    (hT : FnOK Tryz.prog 12 [.agg [.int .u8 1, .int .i64 n, .str [], .slice [] []]] (.str t)) (hK : FnOK Tryz.prog 9 [.str t] (.tuple [.slice [[.int .u8 6, .str [45], .int .i64 0], [.int .u8 3, .str t2, .int .i64 1]] [], .int .i64 q, .int .i64 0])) (hW : FnOK Tryz.prog 13 [.agg [.int .u8 1, .int .i64 n, .str [], .slice [] []]] (.bool true)) (hn : n < 0) 
    (h1 : sy = (decide (t0 = s) && decide (k0 = 1))) (h2 : va = (decide (t0 = s) && decide (k0 = 2))) (h3 : decide (s = [110, 111, 116]) = (decide (t0 = s) && decide (k0 = 4))) : FnOK Tryz.prog 5 [.str s, .int .i64 n] (.bool true) := by
  refine FnOK.tree hdraw fp5 (dCtr_ok qnone_ok) (PWB2_eq s n p e q sy va t t2 k0 t0 p0 c1 r) ?_
  unfold PWB2
  have hA := awake_ok
  by_cases h0 : t0 = s
  · simp only [h0, decide_true, Bool.true_and] at h1 h2 h3
    subst h1 h2 h0
    simp [ok_br, ok_owe, ok_ret, hA, hL, hS, hV, hT, hK, hW, h3, hn]
  · simp only [h0, decide_false, Bool.false_and] at h1 h2 h3
    subst h1 h2
    simp [ok_br, ok_owe, ok_ret, hA, hL, hS, hV, hT, hK, hW, h0, h3, hn]
theorem wC0_ok (s : List UInt8) (n : Int) (p e q : Int) (sy va : Bool) (t t2 : List UInt8) (k0 : Int) (t0 : List UInt8) (p0 : Int) (c1 : List D) (r : List (List D)) (hL : FnOK Tryz.prog 9 [.str s] (.tuple [.slice ([.int .u8 k0, .str t0, .int .i64 p0] :: c1 :: r) [], .int .i64 p, .int .i64 0])) (hS : FnOK Tryz.prog 10 [.str s] (.bool sy)) (hV : FnOK Tryz.prog 11 [.str s] (.bool va))
    (hT : FnOK Tryz.prog 12 [.agg [.int .u8 1, .int .i64 n, .str [], .slice [] []]] (.str [])) (hK : FnOK Tryz.prog 9 [.str []] (.tuple [.slice [] [], .int .i64 q, .int .i64 0])) (hW : FnOK Tryz.prog 13 [.agg [.int .u8 1, .int .i64 n, .str [], .slice [] []]] (.bool false)) 
    (h1 : sy = false) (h2 : va = false) (h3 : decide (s = [110, 111, 116]) = false) : FnOK Tryz.prog 5 [.str s, .int .i64 n] (.bool true) := by
  refine FnOK.tree hdraw fp5 (dCtr_ok qnone_ok) (PWC0_eq s n p e q sy va t t2 k0 t0 p0 c1 r) ?_
  unfold PWC0
  have hA := awake_ok
  subst h1 h2
  simp [ok_br, ok_owe, ok_ret, hA, hL, hS, hV, hT, hK, hW, h3]
theorem wC1_ok (s : List UInt8) (n : Int) (p e q : Int) (sy va : Bool) (t t2 : List UInt8) (k0 : Int) (t0 : List UInt8) (p0 : Int) (c1 : List D) (r : List (List D)) (hL : FnOK Tryz.prog 9 [.str s] (.tuple [.slice ([.int .u8 k0, .str t0, .int .i64 p0] :: c1 :: r) [], .int .i64 p, .int .i64 0])) (hS : FnOK Tryz.prog 10 [.str s] (.bool sy)) (hV : FnOK Tryz.prog 11 [.str s] (.bool va))
    (hT : FnOK Tryz.prog 12 [.agg [.int .u8 1, .int .i64 n, .str [], .slice [] []]] (.str t)) (hK : FnOK Tryz.prog 9 [.str t] (.tuple [.slice [[.int .u8 3, .str t, .int .i64 0]] [], .int .i64 q, .int .i64 0])) (hW : FnOK Tryz.prog 13 [.agg [.int .u8 1, .int .i64 n, .str [], .slice [] []]] (.bool true)) (hn : ¬ n < 0) 
    (h1 : sy = false) (h2 : va = false) (h3 : decide (s = [110, 111, 116]) = false) : FnOK Tryz.prog 5 [.str s, .int .i64 n] (.bool true) := by
  refine FnOK.tree hdraw fp5 (dCtr_ok qnone_ok) (PWC1_eq s n p e q sy va t t2 k0 t0 p0 c1 r) ?_
  unfold PWC1
  have hA := awake_ok
  subst h1 h2
  simp [ok_br, ok_owe, ok_ret, hA, hL, hS, hV, hT, hK, hW, h3, hn]
theorem wC2_ok (s : List UInt8) (n : Int) (p e q : Int) (sy va : Bool) (t t2 : List UInt8) (k0 : Int) (t0 : List UInt8) (p0 : Int) (c1 : List D) (r : List (List D)) (hL : FnOK Tryz.prog 9 [.str s] (.tuple [.slice ([.int .u8 k0, .str t0, .int .i64 p0] :: c1 :: r) [], .int .i64 p, .int .i64 0])) (hS : FnOK Tryz.prog 10 [.str s] (.bool sy)) (hV : FnOK Tryz.prog 11 [.str s] (.bool va))
    (hT : FnOK Tryz.prog 12 [.agg [.int .u8 1, .int .i64 n, .str [], .slice [] []]] (.str t)) (hK : FnOK Tryz.prog 9 [.str t] (.tuple [.slice [[.int .u8 6, .str [45], .int .i64 0], [.int .u8 3, .str t2, .int .i64 1]] [], .int .i64 q, .int .i64 0])) (hW : FnOK Tryz.prog 13 [.agg [.int .u8 1, .int .i64 n, .str [], .slice [] []]] (.bool true)) (hn : n < 0) 
    (h1 : sy = false) (h2 : va = false) (h3 : decide (s = [110, 111, 116]) = false) : FnOK Tryz.prog 5 [.str s, .int .i64 n] (.bool true) := by
  refine FnOK.tree hdraw fp5 (dCtr_ok qnone_ok) (PWC2_eq s n p e q sy va t t2 k0 t0 p0 c1 r) ?_
  unfold PWC2
  have hA := awake_ok
  subst h1 h2
  simp [ok_br, ok_owe, ok_ret, hA, hL, hS, hV, hT, hK, hW, h3, hn]
/-- LexWords RETURNS true. -/
theorem words_ok (s : List UInt8) (n : Int) (hn : -9223372036854775808 ≤ n ∧ n ≤ 9223372036854775807) : FnOK Tryz.prog 5 [.str s, .int .i64 n] (.bool true) := by
  by_cases hl : s.length ≤ 200
  rotate_left
  · -- too long to be looked at
    refine FnOK.tree hdraw fp5 (dCtr_ok qnone_ok) (PWA0_eq s n 0 0 0 false false [] [] 0 [] 0 [] []) ?_
    unfold PWA0
    have hA := awake_ok
    have hl2 : (200 : Int) < s.length := by omega
    rw [decide_eq_true hl2]
    simp [ok_owe, ok_true, ok_ret, hA]
  have hw := Lx.words s (by omega)
  have hL := lex_ok s
  have hS := symbol_ok s (by omega)
  have hV := variable_ok s (by omega)
  have hT := strN_ok n hn
  have hW := valN_ok n hn
  have hne := fun x l => @lex_nonempty s x l
  unfold Lx.oneB Lx.kind0 Lx.notS at hw
  obtain ⟨w1, w2, w3⟩ := hw
  -- the second text
  have hsec : (numB n = false ∧ FnOK Tryz.prog 9 [.str []] (.tuple [.slice [] [], .int .i64 0, .int .i64 0])) ∨
      (numB n = true ∧ ¬ n < 0 ∧ FnOK Tryz.prog 9 [.str (Lib.itoa n)] (.tuple [.slice [[.int .u8 3, .str (Lib.itoa n), .int .i64 0]] [], .int .i64 0, .int .i64 0])) ∨
      (numB n = true ∧ n < 0 ∧ ∃ t2, FnOK Tryz.prog 9 [.str (Lib.itoa n)] (.tuple [.slice [[.int .u8 6, .str [45], .int .i64 0], [.int .u8 3, .str t2, .int .i64 1]] [], .int .i64 0, .int .i64 0])) := by
    cases hb : numB n with
    | false =>
      have := lex_ok []
      rw [Lx.lexR_nil] at this
      exact .inl ⟨rfl, this⟩
    | true =>
      unfold numB at hb
      simp only [Bool.and_eq_true, decide_eq_true_eq] at hb
      by_cases hneg : n < 0
      · refine .inr (.inr ⟨rfl, hneg, Lib.decDigits n.natAbs, ?_⟩)
        have h1 := lex_ok (Lib.itoa n)
        have e : Lib.itoa n = 45 :: Lib.decDigits n.natAbs := by unfold Lib.itoa; rw [if_pos hneg]
        rw [e] at h1 ⊢
        rw [Lx.lexR_neg (by omega)] at h1
        exact h1
      · refine .inr (.inl ⟨rfl, hneg, ?_⟩)
        have h1 := lex_ok (Lib.itoa n)
        have e : Lib.itoa n = Lib.decDigits n.toNat := by unfold Lib.itoa; rw [if_neg hneg]
        rw [e] at h1 ⊢
        rw [Lx.lexR_num (by omega)] at h1
        exact h1
  generalize Lx.symbolB s = sy at *
  generalize Lx.variableB s = va at *
  generalize (Lx.lexR s).2.1 = p at hL
  generalize he : (Lx.lexR s).2.2 = e at hL w1 w2 w3 hne
  generalize hq : (Lx.lexR s).1 = L at hL w1 w2 w3 hne
  match L, hL, w1, w2, w3, hne with
  | [], hL, w1, w2, w3, _ =>
    simp only [List.length_nil, Nat.zero_ne_one, decide_false, Bool.and_false, Bool.false_and] at w1 w2 w3
    rcases hsec with ⟨hb, hK⟩ | ⟨hb, hg, hK⟩ | ⟨hb, hg, t2, hK⟩
    · rw [hb] at hT hW
      exact wA0_ok s n p e 0 sy va [] [] 0 [] 0 [] [] hL hS hV hT hK hW w1 w2 w3
    · rw [hb] at hT hW
      exact wA1_ok s n p e 0 sy va (Lib.itoa n) [] 0 [] 0 [] [] hL hS hV hT hK hW hg w1 w2 w3
    · rw [hb] at hT hW
      exact wA2_ok s n p e 0 sy va (Lib.itoa n) t2 0 [] 0 [] [] hL hS hV hT hK hW hg w1 w2 w3
  | [(k0, t0, p0)], hL, w1, w2, w3, hne =>
    have he0 : e = 0 := hne _ _ rfl
    subst he0
    simp only [List.length_cons, List.length_nil, Nat.zero_add, decide_true, Bool.true_and, List.getD_cons_zero] at w1 w2 w3
    rcases hsec with ⟨hb, hK⟩ | ⟨hb, hg, hK⟩ | ⟨hb, hg, t2, hK⟩
    · rw [hb] at hT hW
      exact wB0_ok s n p 0 0 sy va [] [] k0 t0 p0 [] [] hL hS hV hT hK hW w1 w2 w3
    · rw [hb] at hT hW
      exact wB1_ok s n p 0 0 sy va (Lib.itoa n) [] k0 t0 p0 [] [] hL hS hV hT hK hW hg w1 w2 w3
    · rw [hb] at hT hW
      exact wB2_ok s n p 0 0 sy va (Lib.itoa n) t2 k0 t0 p0 [] [] hL hS hV hT hK hW hg w1 w2 w3
  | (k0, t0, p0) :: c :: r, hL, w1, w2, w3, hne =>
    have he0 : e = 0 := hne _ _ rfl
    subst he0
    have hlen : decide (((k0, t0, p0) :: c :: r).length = 1) = false := by simp
    simp only [hlen, Bool.and_false, Bool.false_and] at w1 w2 w3
    rcases hsec with ⟨hb, hK⟩ | ⟨hb, hg, hK⟩ | ⟨hb, hg, t2, hK⟩
    · rw [hb] at hT hW
      exact wC0_ok s n p 0 0 sy va [] [] k0 t0 p0 (Lx.tokC c) (r.map Lx.tokC) hL hS hV hT hK hW w1 w2 w3
    · rw [hb] at hT hW
      exact wC1_ok s n p 0 0 sy va (Lib.itoa n) [] k0 t0 p0 (Lx.tokC c) (r.map Lx.tokC) hL hS hV hT hK hW hg w1 w2 w3
    · rw [hb] at hT hW
      exact wC2_ok s n p 0 0 sy va (Lib.itoa n) t2 k0 t0 p0 (Lx.tokC c) (r.map Lx.tokC) hL hS hV hT hK hW hg w1 w2 w3
end Go.Proofs.YtdkbjkccpnhjgaaGreatDoor
