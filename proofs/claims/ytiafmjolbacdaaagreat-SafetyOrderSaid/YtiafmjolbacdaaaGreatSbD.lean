/- SizeRule, proved. -/
import Derived.Test.YtiafmjolbacdaaaGreatSbC
import Derived.Test.YtiafmjolbacdaaaGreatSx9
set_option linter.unusedSectionVars false
set_option linter.unusedVariables false
set_option linter.unusedSimpArgs false
set_option linter.deprecated false
set_option maxRecDepth 100000
namespace Go.Proofs.YtiafmjolbacdaaaGreat
open Go.Sx Go.RowKit
section
variable (k : Nat) (hs : List He) (a1 : Nat) (a2 : Int) (a3 : Nm) (a4 : List Tm) (b1 : Nat) (b2 : Int) (b3 : Nm) (b4 : List Tm) (bs : List Bo) (c1 : Nat) (c2 : Int) (c3 : Nm) (c4 : List Tm) (d1 : Nat) (d2 : Int) (d3 : Nm) (d4 : List Tm) (ts : List Tm) (M : Int)
abbrev obR : Obs := [(0, .cells (rC k (heL hs) (boL bs) (Tm.cellsL ts) a1 a2 a3 (Tm.cellsL a4) b1 b2 b3 (Tm.cellsL b4) c1 c2 c3 (Tm.cellsL c4) d1 d2 d3 (Tm.cellsL d4)))]
abbrev QR (v : Int) : Exit → St → Prop := FinQ true 0 rs12 fun r _ => r = .int .i64 v
variable (hw : Ru.wf 281474976710656 ⟨k, hs, .mk a1 a2 a3 a4, .mk b1 b2 b3 b4, bs, .mk c1 c2 c3 c4, .mk d1 d2 d3 d4, ts⟩) (hM : 0 ≤ M ∧ M ≤ 1000000)
include hw hM
theorem sre_at (i : Nat) (hi : i < bs.length) (K : ∀ n : Int, 0 ≤ n → n ≤ 10 * M + 1000 → At Tryz.prog 0 (cut sc12 1) ⟨tmR M n [(7, .int .i64 (i + 1))], obR k hs a1 a2 a3 a4 b1 b2 b3 b4 bs c1 c2 c3 c4 d1 d2 d3 d4 ts⟩ (QR (szBos (bs.drop (i + 1)) M n))) : ∀ (q j : Nat) (n : Int), bs[i].e.length - j = q → j ≤ bs[i].e.length → 0 ≤ n → n ≤ 10 * M + 1000 →
    At Tryz.prog 0 (cut sc12 2) ⟨tmR M n [(7, .int .i64 i), (8, .ptr 1 0), (9, .int .i64 j)], obR k hs a1 a2 a3 a4 b1 b2 b3 b4 bs c1 c2 c3 c4 d1 d2 d3 d4 ts ++ [(1, .cells bs[i].cs)]⟩ (QR (szBos (bs.drop (i + 1)) M (szEls (bs[i].e.drop j) M n))) := by
  have hbl := hw.bl
  simp only at hbl
  have hb := hw.b _ (List.getElem_mem hi)
  have hel := hb.el
  have hee := hb.e
  generalize bs[i] = x at hel hee ⊢
  obtain ⟨bk, ⟨lk, ln, lp, la, lo, ⟨x1, x2, x3, x4⟩, ⟨y1, y2, y3, y4⟩⟩, bc, bno, bf, be, bop, ⟨t1, t2, t3, t4⟩⟩ := x
  simp only at hel hee ⊢
  intro q
  induction q with
  | zero =>
    intro j n hm hj hn hn2
    have hK := K n hn hn2
    refine At.tree (dCtr_ok qnone_ok) (PSrE_eq k (heL hs) (boL bs) (Tm.cellsL ts) a1 a2 a3 (Tm.cellsL a4) b1 b2 b3 (Tm.cellsL b4) c1 c2 c3 (Tm.cellsL c4) d1 d2 d3 (Tm.cellsL d4) M n i j 0 0 bk lk ln lp (Tm.cellsL la) lo x1 x2 x3 (Tm.cellsL x4) y1 y2 y3 (Tm.cellsL y4) (ltL bc) bno bf (elL be) bop t1 t2 t3 (Tm.cellsL t4) [] []) ?_
    unfold PSrE
    rw [List.drop_eq_nil_of_le (show be.length ≤ j by omega)]
    simp only [ok_br, ok_owe, ok_ret, ok_jmp, decide_eq_true_eq, decide_eq_false_iff_not, Int.toNat_natCast, true_and, and_true, Bool.not_eq_true', Bool.not_eq_false', List.drop_zero, List.take_length, D.bool.injEq, D.int.injEq, D.str.injEq, true_implies, Int.le_refl, elL_len]
    exact ⟨fun h => by omega, fun _ => ⟨by omega, hK⟩⟩
  | succ q ih =>
    intro j n hm hj hn hn2
    have h1 : j < be.length := by omega
    have hg := elL_get h1
    have hy := hee _ (List.getElem_mem h1)
    rw [drop_cons h1]
    simp only [szEls]
    by_cases hnm : n ≤ M
    · rw [if_pos hnm]
      have hA := szs_ok be[j].t hy.tl (fun x hx => sz_ok x (wf_get hy.t hx)) (M - n) (by omega)
      have hB := szl_ok be[j].c [] hy.cl hy.c (M - n) (by omega)
      have g1 := szL_ge be[j].t (M - n) 0
      have g2 := szL_le be[j].t (M - n) 0 (by omega)
      have g3 := szLts_ge be[j].c (M - n) 0
      have g4 := szLts_le be[j].c (M - n) 0 (by omega) (by omega) (by omega)
      have e : szEl be[j] (M - n) = 1 + Tm.szL be[j].t (M - n) 0 + szLts be[j].c (M - n) 0 := rfl
      have hI := ih (j + 1) (n + szEl be[j] (M - n)) (by omega) (by omega) (by omega) (by omega)
      rw [e] at hI ⊢
      generalize Tm.szL be[j].t (M - n) 0 = z1 at hA hI g1 g2 ⊢
      generalize szLts be[j].c (M - n) 0 = z2 at hB hI g3 g4 ⊢
      generalize be[j] = y at hg hA hB
      obtain ⟨et, ec⟩ := y
      refine At.tree (dCtr_ok qnone_ok) (PSrE_eq k (heL hs) (boL bs) (Tm.cellsL ts) a1 a2 a3 (Tm.cellsL a4) b1 b2 b3 (Tm.cellsL b4) c1 c2 c3 (Tm.cellsL c4) d1 d2 d3 (Tm.cellsL d4) M n i j z1 z2 bk lk ln lp (Tm.cellsL la) lo x1 x2 x3 (Tm.cellsL x4) y1 y2 y3 (Tm.cellsL y4) (ltL bc) bno bf (elL be) bop t1 t2 t3 (Tm.cellsL t4) (Tm.cellsL et) (ltL ec)) ?_
      unfold PSrE
      simp only [ok_br, ok_owe, ok_ret, ok_jmp, decide_eq_true_eq, decide_eq_false_iff_not, Int.toNat_natCast, true_and, and_true, Bool.not_eq_true', Bool.not_eq_false', List.drop_zero, List.take_length, D.bool.injEq, D.int.injEq, D.str.injEq, true_implies, Int.le_refl, elL_len]
      exact ⟨fun _ => ⟨fun _ => ⟨⟨by omega, hg⟩, by omega, hA, by omega, ⟨by omega, hg⟩, by omega, hB, by omega, by omega, by omega, hI⟩, fun h => by omega⟩, fun h => by omega⟩
    · rw [if_neg hnm]
      have hK := K n hn hn2
      refine At.tree (dCtr_ok qnone_ok) (PSrE_eq k (heL hs) (boL bs) (Tm.cellsL ts) a1 a2 a3 (Tm.cellsL a4) b1 b2 b3 (Tm.cellsL b4) c1 c2 c3 (Tm.cellsL c4) d1 d2 d3 (Tm.cellsL d4) M n i j 0 0 bk lk ln lp (Tm.cellsL la) lo x1 x2 x3 (Tm.cellsL x4) y1 y2 y3 (Tm.cellsL y4) (ltL bc) bno bf (elL be) bop t1 t2 t3 (Tm.cellsL t4) [] []) ?_
      unfold PSrE
      simp only [ok_br, ok_owe, ok_ret, ok_jmp, decide_eq_true_eq, decide_eq_false_iff_not, Int.toNat_natCast, true_and, and_true, Bool.not_eq_true', Bool.not_eq_false', List.drop_zero, List.take_length, D.bool.injEq, D.int.injEq, D.str.injEq, true_implies, Int.le_refl, elL_len]
      exact ⟨fun _ => ⟨fun h => by omega, fun _ => ⟨by omega, hK⟩⟩, fun _ => ⟨by omega, hK⟩⟩
theorem srb_at : ∀ (q i : Nat) (n : Int), bs.length - i = q → i ≤ bs.length → 0 ≤ n → n ≤ 10 * M + 1000 →
    At Tryz.prog 0 (cut sc12 1) ⟨tmR M n [(7, .int .i64 i)], obR k hs a1 a2 a3 a4 b1 b2 b3 b4 bs c1 c2 c3 c4 d1 d2 d3 d4 ts⟩ (QR (szBos (bs.drop i) M n)) := by
  intro q
  induction q with
  | zero =>
    intro i n hm hi hn hn2
    refine At.tree (dCtr_ok qnone_ok) (PSrB_eq k (heL hs) (boL bs) (Tm.cellsL ts) a1 a2 a3 (Tm.cellsL a4) b1 b2 b3 (Tm.cellsL b4) c1 c2 c3 (Tm.cellsL c4) d1 d2 d3 (Tm.cellsL d4) M n i 0 0 0 0 0 true [] [] 0 0 0 [] [] 0 0 [] [] [] true 0 [] 0 0 0 [] []) ?_
    unfold PSrB
    rw [List.drop_eq_nil_of_le (show bs.length ≤ i by omega)]
    simp only [ok_br, ok_owe, ok_ret, ok_jmp, decide_eq_true_eq, decide_eq_false_iff_not, Int.toNat_natCast, true_and, and_true, Bool.not_eq_true', Bool.not_eq_false', List.drop_zero, List.take_length, D.bool.injEq, D.int.injEq, D.str.injEq, true_implies, Int.le_refl, boL_len]
    exact ⟨fun h => by omega, fun _ => rfl⟩
  | succ q ih =>
    intro i n hm hi hn hn2
    have h1 : i < bs.length := by omega
    have hg := boL_get h1
    have hy := hw.b _ (List.getElem_mem h1)
    rw [drop_cons h1]
    simp only [szBos]
    by_cases hnm : n ≤ M
    · rw [if_pos hnm]
      have hA := szl_ok [bs[i].l] [] (by simp) (fun x hx => by rw [List.mem_singleton] at hx; exact hx ▸ hy.l) (M - n) (by omega)
      have hB := szl_ok bs[i].c [] hy.cl hy.c (M - n) (by omega)
      have hC := sz_ok bs[i].b hy.b (M - n) (by omega) (by omega)
      have g1 := szLts_ge [bs[i].l] (M - n) 0
      have g2 := szLts_le [bs[i].l] (M - n) 0 (by omega) (by omega) (by omega)
      have g3 := szLts_ge bs[i].c (M - n) 0
      have g4 := szLts_le bs[i].c (M - n) 0 (by omega) (by omega) (by omega)
      have g5 := sz_ge bs[i].b (M - n)
      have g6 := sz_le bs[i].b (M - n) (by omega)
      have e : szBo bs[i] (M - n) = 1 + szLts [bs[i].l] (M - n) 0 + szLts bs[i].c (M - n) 0 + bs[i].b.sz (M - n) := rfl
      have hE := sre_at k hs a1 a2 a3 a4 b1 b2 b3 b4 bs c1 c2 c3 c4 d1 d2 d3 d4 ts M hw hM i h1 (fun n hn hn2 => ih (i + 1) n (by omega) (by omega) hn hn2) _ 0 (n + szBo bs[i] (M - n)) rfl (Nat.zero_le _) (by omega) (by omega)
      rw [e, List.drop_zero] at hE
      rw [e]
      generalize szLts [bs[i].l] (M - n) 0 = z1 at hA hE g1 g2 ⊢
      generalize szLts bs[i].c (M - n) 0 = z2 at hB hE g3 g4 ⊢
      generalize bs[i].b.sz (M - n) = z3 at hC hE g5 g6 ⊢
      generalize bs[i] = y at hg hA hB hC hE ⊢
      obtain ⟨bk, ⟨lk, ln, lp, la, lo, ⟨x1, x2, x3, x4⟩, ⟨y1, y2, y3, y4⟩⟩, bc, bno, bf, be, bop, ⟨t1, t2, t3, t4⟩⟩ := y
      refine At.tree (dCtr_ok qnone_ok) (PSrB_eq k (heL hs) (boL bs) (Tm.cellsL ts) a1 a2 a3 (Tm.cellsL a4) b1 b2 b3 (Tm.cellsL b4) c1 c2 c3 (Tm.cellsL c4) d1 d2 d3 (Tm.cellsL d4) M n i z1 z2 z3 bk lk ln lp (Tm.cellsL la) lo x1 x2 x3 (Tm.cellsL x4) y1 y2 y3 (Tm.cellsL y4) (ltL bc) bno bf (elL be) bop t1 t2 t3 (Tm.cellsL t4)) ?_
      unfold PSrB
      simp only [ok_br, ok_owe, ok_ret, ok_jmp, decide_eq_true_eq, decide_eq_false_iff_not, Int.toNat_natCast, true_and, and_true, Bool.not_eq_true', Bool.not_eq_false', List.drop_zero, List.take_length, D.bool.injEq, D.int.injEq, D.str.injEq, true_implies, Int.le_refl, boL_len]
      exact ⟨fun _ => ⟨fun _ => ⟨⟨by omega, hg⟩, by omega, hA, by omega, by omega, hB, by omega, by omega, hC, by omega, by omega, hE⟩, fun h => by omega⟩, fun h => by omega⟩
    · rw [if_neg hnm]
      refine At.tree (dCtr_ok qnone_ok) (PSrB_eq k (heL hs) (boL bs) (Tm.cellsL ts) a1 a2 a3 (Tm.cellsL a4) b1 b2 b3 (Tm.cellsL b4) c1 c2 c3 (Tm.cellsL c4) d1 d2 d3 (Tm.cellsL d4) M n i 0 0 0 0 0 true [] [] 0 0 0 [] [] 0 0 [] [] [] true 0 [] 0 0 0 [] []) ?_
      unfold PSrB
      simp only [ok_br, ok_owe, ok_ret, ok_jmp, decide_eq_true_eq, decide_eq_false_iff_not, Int.toNat_natCast, true_and, and_true, Bool.not_eq_true', Bool.not_eq_false', List.drop_zero, List.take_length, D.bool.injEq, D.int.injEq, D.str.injEq, true_implies, Int.le_refl, boL_len]
      exact ⟨fun _ => ⟨fun h => by omega, fun _ => trivial⟩, fun _ => trivial⟩
theorem srh_at : ∀ (q i : Nat) (n : Int), hs.length - i = q → i ≤ hs.length → 0 ≤ n → n ≤ 10 * M + 1000 →
    At Tryz.prog 0 (cut sc12 0) ⟨tmR M n [(6, .int .i64 i)], obR k hs a1 a2 a3 a4 b1 b2 b3 b4 bs c1 c2 c3 c4 d1 d2 d3 d4 ts⟩ (QR (szBos bs M (szHes (hs.drop i) M n))) := by
  have hB := fun n hn hn2 => srb_at k hs a1 a2 a3 a4 b1 b2 b3 b4 bs c1 c2 c3 c4 d1 d2 d3 d4 ts M hw hM _ 0 n rfl (Nat.zero_le _) hn hn2
  have hhl := hw.hl
  simp only at hhl
  simp only [List.drop_zero] at hB
  intro q
  induction q with
  | zero =>
    intro i n hm hi hn hn2
    have hB := hB n hn hn2
    refine At.tree (dCtr_ok qnone_ok) (PSrH_eq k (heL hs) (boL bs) (Tm.cellsL ts) a1 a2 a3 (Tm.cellsL a4) b1 b2 b3 (Tm.cellsL b4) c1 c2 c3 (Tm.cellsL c4) d1 d2 d3 (Tm.cellsL d4) M n i 0 0 [] [] []) ?_
    unfold PSrH
    rw [List.drop_eq_nil_of_le (show hs.length ≤ i by omega)]
    simp only [ok_br, ok_owe, ok_ret, ok_jmp, decide_eq_true_eq, decide_eq_false_iff_not, Int.toNat_natCast, true_and, and_true, Bool.not_eq_true', Bool.not_eq_false', List.drop_zero, List.take_length, D.bool.injEq, D.int.injEq, D.str.injEq, true_implies, Int.le_refl, heL_len]
    exact ⟨fun h => by omega, fun _ => hB⟩
  | succ q ih =>
    intro i n hm hi hn hn2
    have h1 : i < hs.length := by omega
    have hg := heL_get h1
    have hy := hw.h _ (List.getElem_mem h1)
    rw [drop_cons h1]
    simp only [szHes]
    by_cases hnm : n ≤ M
    · rw [if_pos hnm]
      have hA := sza_ok hs[i].p hs[i].a hy.al hy.a (M - n) (by omega) (by omega)
      have hB := szl_ok hs[i].c [] hy.cl hy.c (M - n) (by omega)
      have g1 := szL_ge hs[i].a (M - n - 1) 0
      have g2 := szL_le hs[i].a (M - n - 1) 0 (by omega)
      have g3 := szLts_ge hs[i].c (M - n) 0
      have g4 := szLts_le hs[i].c (M - n) 0 (by omega) (by omega) (by omega)
      have e : szHe hs[i] (M - n) = (1 + Tm.szL hs[i].a (M - n - 1) 0) + szLts hs[i].c (M - n) 0 := rfl
      have hI := ih (i + 1) (n + szHe hs[i] (M - n)) (by omega) (by omega) (by omega) (by omega)
      rw [e] at hI ⊢
      generalize Tm.szL hs[i].a (M - n - 1) 0 = z1 at hA hI g1 g2 ⊢
      generalize szLts hs[i].c (M - n) 0 = z2 at hB hI g3 g4 ⊢
      generalize hs[i] = y at hg hA hB
      obtain ⟨p, ha, hc⟩ := y
      refine At.tree (dCtr_ok qnone_ok) (PSrH_eq k (heL hs) (boL bs) (Tm.cellsL ts) a1 a2 a3 (Tm.cellsL a4) b1 b2 b3 (Tm.cellsL b4) c1 c2 c3 (Tm.cellsL c4) d1 d2 d3 (Tm.cellsL d4) M n i (1 + z1) z2 p (Tm.cellsL ha) (ltL hc)) ?_
      unfold PSrH
      simp only [ok_br, ok_owe, ok_ret, ok_jmp, decide_eq_true_eq, decide_eq_false_iff_not, Int.toNat_natCast, true_and, and_true, Bool.not_eq_true', Bool.not_eq_false', List.drop_zero, List.take_length, D.bool.injEq, D.int.injEq, D.str.injEq, true_implies, Int.le_refl, heL_len]
      exact ⟨fun _ => ⟨fun _ => ⟨⟨by omega, hg⟩, by omega, hA, ⟨by omega, hg⟩, by omega, hB, by omega, by omega, by omega, hI⟩, fun h => by omega⟩, fun h => by omega⟩
    · rw [if_neg hnm]
      have hB := hB n hn hn2
      refine At.tree (dCtr_ok qnone_ok) (PSrH_eq k (heL hs) (boL bs) (Tm.cellsL ts) a1 a2 a3 (Tm.cellsL a4) b1 b2 b3 (Tm.cellsL b4) c1 c2 c3 (Tm.cellsL c4) d1 d2 d3 (Tm.cellsL d4) M n i 0 0 [] [] []) ?_
      unfold PSrH
      simp only [ok_br, ok_owe, ok_ret, ok_jmp, decide_eq_true_eq, decide_eq_false_iff_not, Int.toNat_natCast, true_and, and_true, Bool.not_eq_true', Bool.not_eq_false', List.drop_zero, List.take_length, D.bool.injEq, D.int.injEq, D.str.injEq, true_implies, Int.le_refl, heL_len]
      exact ⟨fun _ => ⟨fun h => by omega, fun _ => hB⟩, fun _ => hB⟩
theorem szr_ok' : FnOK Tryz.prog 12 [.agg (rC k (heL hs) (boL bs) (Tm.cellsL ts) a1 a2 a3 (Tm.cellsL a4) b1 b2 b3 (Tm.cellsL b4) c1 c2 c3 (Tm.cellsL c4) d1 d2 d3 (Tm.cellsL d4)), .int .i64 M] (.int .i64 (szRu ⟨k, hs, .mk a1 a2 a3 a4, .mk b1 b2 b3 b4, bs, .mk c1 c2 c3 c4, .mk d1 d2 d3 d4, ts⟩ M)) := by
  have h1 := sz_ok _ hw.lo M hM.1 hM.2
  have h2 := sz_ok _ hw.up M hM.1 hM.2
  have h3 := sz_ok _ hw.w M hM.1 hM.2
  have h4 := sz_ok _ hw.lv M hM.1 hM.2
  have h5 := szs_ok ts hw.tl (fun x hx => sz_ok x (wf_get hw.t hx)) M (by omega)
  have hH := srh_at k hs a1 a2 a3 a4 b1 b2 b3 b4 bs c1 c2 c3 c4 d1 d2 d3 d4 ts M hw hM _ 0 (szR0 ⟨k, hs, .mk a1 a2 a3 a4, .mk b1 b2 b3 b4, bs, .mk c1 c2 c3 c4, .mk d1 d2 d3 d4, ts⟩ M) rfl (Nat.zero_le _)
  unfold szRu
  have e : szR0 ⟨k, hs, .mk a1 a2 a3 a4, .mk b1 b2 b3 b4, bs, .mk c1 c2 c3 c4, .mk d1 d2 d3 d4, ts⟩ M = 1 + Tm.sz (.mk a1 a2 a3 a4) M + Tm.sz (.mk b1 b2 b3 b4) M + Tm.sz (.mk c1 c2 c3 c4) M + Tm.sz (.mk d1 d2 d3 d4) M + Tm.szL ts M 0 := rfl
  rw [e] at hH ⊢
  have g1 := sz_ge (.mk a1 a2 a3 a4) M
  have g2 := sz_le (.mk a1 a2 a3 a4) M hM.1
  have g3 := sz_ge (.mk b1 b2 b3 b4) M
  have g4 := sz_le (.mk b1 b2 b3 b4) M hM.1
  have g5 := sz_ge (.mk c1 c2 c3 c4) M
  have g6 := sz_le (.mk c1 c2 c3 c4) M hM.1
  have g7 := sz_ge (.mk d1 d2 d3 d4) M
  have g8 := sz_le (.mk d1 d2 d3 d4) M hM.1
  have g9 := szL_ge ts M 0
  have g10 := szL_le ts M 0 (by omega)
  simp only at h1 h2 h3 h4
  generalize Tm.sz (.mk a1 a2 a3 a4) M = z1 at h1 hH g1 g2 ⊢
  generalize Tm.sz (.mk b1 b2 b3 b4) M = z2 at h2 hH g3 g4 ⊢
  generalize Tm.sz (.mk c1 c2 c3 c4) M = z3 at h3 hH g5 g6 ⊢
  generalize Tm.sz (.mk d1 d2 d3 d4) M = z4 at h4 hH g7 g8 ⊢
  generalize Tm.szL ts M 0 = z5 at h5 hH g9 g10 ⊢
  have hH := hH (by omega) (by omega)
  refine FnOK.tree hdraw fp12 (dCtr_ok qnone_ok) (PSr_eq k (heL hs) (boL bs) (Tm.cellsL ts) a1 a2 a3 (Tm.cellsL a4) b1 b2 b3 (Tm.cellsL b4) c1 c2 c3 (Tm.cellsL c4) d1 d2 d3 (Tm.cellsL d4) M z1 z2 z3 z4 z5) ?_
  unfold PSr
  simp only [ok_br, ok_owe, ok_ret, ok_jmp, decide_eq_true_eq, decide_eq_false_iff_not, Int.toNat_natCast, true_and, and_true, Bool.not_eq_true', Bool.not_eq_false', List.drop_zero, List.take_length, D.bool.injEq, D.int.injEq, D.str.injEq, true_implies, Int.le_refl]
  exact ⟨h1, by omega, h2, by omega, h3, by omega, h4, by omega, h5, by omega, hH⟩
end
theorem szr_ok (r : Ru) (hw : r.wf 281474976710656) (M : Int) (hM : 0 ≤ M ∧ M ≤ 1000000) : FnOK Tryz.prog 12 [.agg r.cs, .int .i64 M] (.int .i64 (szRu r M)) := by
  obtain ⟨k, hs, ⟨a1, a2, a3, a4⟩, ⟨b1, b2, b3, b4⟩, bs, ⟨c1, c2, c3, c4⟩, ⟨d1, d2, d3, d4⟩, ts⟩ := r
  exact szr_ok' k hs a1 a2 a3 a4 b1 b2 b3 b4 bs c1 c2 c3 c4 d1 d2 d3 d4 ts M hw hM
end Go.Proofs.YtiafmjolbacdaaaGreat
