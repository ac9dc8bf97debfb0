/- reversed, Pick, Global, proved. -/
import Derived.Test.YtiafmjolbacdaaaGreatSoA
import Derived.Test.YtiafmjolbacdaaaGreatSbH
import Derived.Test.YtiafmjolbacdaaaGreatSx9
set_option linter.unusedSectionVars false
set_option linter.unusedVariables false
set_option linter.unusedSimpArgs false
set_option linter.deprecated false
set_option maxRecDepth 100000
namespace Go.Proofs.YtiafmjolbacdaaaGreat
open Go.Sx Go.RowKit
theorem ltL_app (a b : List Lt) : ltL (a ++ b) = ltL a ++ ltL b := by simp [ltL]
theorem rv_at (l : List Lt) (hl : l.length ≤ 1000000000) : ∀ (m : Nat) (i : Int), i = m - 1 → m ≤ l.length →
    At Tryz.prog 0 (cut sc14 0) (hdRv (ltL l) (ltL (l.drop m).reverse) i) (FinQ true 0 rs14 fun r _ => r = .own 13 34 (ltL l.reverse)) := by
  intro m
  induction m with
  | zero =>
    intro i hi hm
    refine At.tree (dCtr_ok qnone_ok) (PRv2_eq (ltL l) (ltL (l.drop 0).reverse) i 0 true [] [] 0 0 0 [] [] 0 0 [] []) ?_
    unfold PRv2
    simp only [ok_br, ok_owe, ok_ret, ok_jmp, decide_eq_true_eq, decide_eq_false_iff_not, Int.toNat_natCast, true_and, and_true, Bool.not_eq_true', Bool.not_eq_false', List.drop_zero, List.take_length, D.bool.injEq, D.int.injEq, D.str.injEq, true_implies, Int.le_refl]
    exact ⟨fun h => by omega, fun _ => trivial⟩
  | succ m ih =>
    intro i hi hm
    have h1 : m < l.length := by omega
    have hI := ih (i - 1) (by omega) (by omega)
    have hg := ltL_get h1
    have hlen : (ltL (l.drop (m + 1)).reverse).length ≤ 1000000000 := by
      rw [ltL_len, List.length_reverse, List.length_drop]; omega
    rw [drop_cons h1, List.reverse_cons, ltL_app] at hI
    obtain rfl : i = m := by omega
    generalize ltL (l.drop (m + 1)).reverse = R at hI hlen ⊢
    have al : allLen 13 (ltL [l[m]]) := by
      intro q hq
      obtain ⟨t, _, rfl⟩ := List.mem_map.1 hq
      exact ltc_len t
    generalize l[m] = x at hg hI al
    obtain ⟨k, no, p, a, op, ⟨kx, nx, sx, ax⟩, ⟨ky, ny, sy, ay⟩⟩ := x
    refine At.tree (dCtr_ok qnone_ok) (PRv2_eq (ltL l) R m k no p (Tm.cellsL a) op kx nx sx (Tm.cellsL ax) ky ny sy (Tm.cellsL ay)) ?_
    unfold PRv2
    simp only [ok_br, ok_owe, ok_ret, ok_jmp, decide_eq_true_eq, decide_eq_false_iff_not, Int.toNat_natCast, true_and, and_true, Bool.not_eq_true', Bool.not_eq_false', List.drop_zero, List.take_length, D.bool.injEq, D.int.injEq, D.str.injEq, true_implies, Int.le_refl]
    exact ⟨fun _ => ⟨⟨by omega, hg⟩, ⟨al, by omega⟩, by omega, hI⟩, fun h => by omega⟩
theorem reversed_ok (l : List Lt) (hl : l.length ≤ 1000000000) : FnOK Tryz.prog 14 [.slice (ltL l) []] (.slice (ltL l.reverse) []) := by
  refine FnOK.freezeG (sz := 13) (e := 34) (FnOK.tree hdraw fp14 (dCtr_ok qnone_ok) (PRv_eq (ltL l)) ?_)
  unfold PRv
  rw [ok_owe, ok_jmp, ltL_len]
  have h := rv_at l hl l.length ((l.length : Int) - 1) rfl (Nat.le_refl _)
  rw [List.drop_eq_nil_of_le (Nat.le_refl _)] at h
  exact ⟨by omega, h⟩
def pkI (x n : Int) : Int := if x.tmod n < 0 then x.tmod n + n else x.tmod n
theorem pkI_lt {x n : Int} (h : 1 ≤ n) : 0 ≤ pkI x n ∧ pkI x n < n := by
  have h1 := Int.tmod_lt_of_pos x (show 0 < n by omega)
  have h2 := Int.lt_tmod_of_pos x (show 0 < n by omega)
  unfold pkI
  split <;> omega
theorem pick_ok (x n : Int) (h : 1 ≤ n) (hn : n ≤ 1000000000) : FnOK Tryz.prog 13 [.int .i64 x, .int .i64 n] (.int .i64 (pkI x n)) := by
  have h1 := Int.tmod_lt_of_pos x (show 0 < n by omega)
  have h2 := Int.lt_tmod_of_pos x (show 0 < n by omega)
  refine FnOK.tree hdraw fp13 (dCtr_ok qnone_ok) (PPk_eq x n) ?_
  unfold PPk pkI
  simp only [ok_br, ok_owe, ok_ret, ok_jmp, decide_eq_true_eq, decide_eq_false_iff_not, Int.toNat_natCast, true_and, and_true, Bool.not_eq_true', Bool.not_eq_false', List.drop_zero, List.take_length, D.bool.injEq, D.int.injEq, D.str.injEq, true_implies, Int.le_refl]
  refine ⟨fun h => by omega, fun _ => ⟨by omega, fun h => ?_, fun h => ?_⟩⟩
  · rw [if_pos h]; exact ⟨by omega, rfl⟩
  · rw [if_neg h]
theorem Global_ok (r : Ru) (hr : okR r) (hz : (globalS r).length ≤ 1073741823) : FnOK Tryz.prog 16 [.agg r.cs] (.slice (strC (srt (globalS r))) []) := by
  obtain ⟨k, hs, ⟨a1, a2, a3, a4⟩, ⟨b1, b2, b3, b4⟩, bs, ⟨c1, c2, c3, c4⟩, ⟨d1, d2, d3, d4⟩, ts⟩ := r
  have hu := global_ok k hs a1 a2 a3 a4 b1 b2 b3 b4 bs c1 c2 c3 c4 d1 d2 d3 d4 ts hr
  have hs' := sorted_ok _ hz (globalS_nd _)
  generalize globalS ⟨k, hs, .mk a1 a2 a3 a4, .mk b1 b2 b3 b4, bs, .mk c1 c2 c3 c4, .mk d1 d2 d3 d4, ts⟩ = F at hu hs' ⊢
  generalize srt F = z at hs' ⊢
  cases z with
  | nil =>
    refine FnOK.tree hdraw fp16 (ctr_ok libT_ok (QT.or_ok (onF_ok (asmO_ok _ _)) (asmO_ok _ _))) (PGbN_eq k (heL hs) (boL bs) (Tm.cellsL ts) a1 a2 a3 (Tm.cellsL a4) b1 b2 b3 (Tm.cellsL b4) c1 c2 c3 (Tm.cellsL c4) d1 d2 d3 (Tm.cellsL d4) (kS F) (uS F)) ?_
    unfold PGbN
    rw [ok_owe, ok_owe, ok_ret]
    exact ⟨hu, hs', rfl⟩
  | cons c r' =>
    refine FnOK.freezeT (ty := 9) (FnOK.tree hdraw fp16 (ctr_ok libT_ok (QT.or_ok (onF_ok (asmO_ok _ _)) (asmO_ok _ _))) (PGbA_eq k (heL hs) (boL bs) (Tm.cellsL ts) a1 a2 a3 (Tm.cellsL a4) b1 b2 b3 (Tm.cellsL b4) c1 c2 c3 (Tm.cellsL c4) d1 d2 d3 (Tm.cellsL d4) (kS F) (uS F) (strC (c :: r'))) ?_)
    unfold PGbA
    rw [ok_owe, ok_owe, ok_ret]
    exact ⟨hu, hs', rfl⟩
theorem global_few {r : Ru} (h : fewR 400 r) : (globalS r).length ≤ 200000000 :=
  Nat.le_trans (List.Nodup.length_le_of_subset (globalS_nd r) fun x hx => global_in hx) (allT_len h)
theorem okC_rev {l : List Lt} (h : okC l) : okC l.reverse := by
  refine ⟨by rw [List.length_reverse]; exact h.1, fun x hx => h.2.1 x (List.mem_reverse.1 hx), ?_⟩
  have e : (withinT l.reverse).length = (withinT l).length := by
    unfold withinT
    simp only [List.length_flatMap, List.map_reverse, List.sum_reverse]
  rw [e]
  exact h.2.2
theorem okR_turn {r : Ru} (h : okR r) (k : Nat) : okR (r.turn k) := by
  refine ⟨h.t4, h.tt, ?_, fun x hx => ?_, ?_, fun x hx => ?_⟩
  · show (r.h.reverse.map revH).length ≤ _
    rw [List.length_map, List.length_reverse]; exact h.hl
  · obtain ⟨y, hy, rfl⟩ := List.mem_map.1 hx
    have := h.h y (List.mem_reverse.1 hy)
    exact ⟨this.1, okC_rev this.2⟩
  · show ((rotB r.b k).map revB).length ≤ _
    rw [List.length_map, rotB_len]; exact h.bl
  · obtain ⟨y, hy, rfl⟩ := List.mem_map.1 hx
    obtain ⟨g1, g2, g3, g4, g5⟩ := h.b y (rotB_mem.1 hy)
    refine ⟨g1, g2, okC_rev g3, ?_, fun z hz => ?_⟩
    · show (y.e.reverse.map revE).length ≤ _
      rw [List.length_map, List.length_reverse]; exact g4
    · obtain ⟨e, he, rfl⟩ := List.mem_map.1 hz
      have := g5 e (List.mem_reverse.1 he)
      exact ⟨this.1, okC_rev this.2⟩
end Go.Proofs.YtiafmjolbacdaaaGreat
