/- SafetyAdds RETURNS true, awake given. -/
import Derived.Test.YtiafmjolbacdaaaGreatSbF
set_option linter.unusedSectionVars false
set_option linter.unusedVariables false
set_option linter.unusedSimpArgs false
set_option linter.deprecated false
set_option maxRecDepth 100000
namespace Go.Proofs.YtiafmjolbacdaaaGreat
open Go.Sx Go.RowKit
theorem emp_dec (l : List Nm) : (l.isEmpty == decide ((l.length : Int) = 0)) = true := by
  cases l with
  | nil => rfl
  | cons a r =>
    have h : ¬ (((a :: r).length : Int) = 0) := by rw [List.length_cons]; omega
    rw [decide_eq_false h]
    rfl
theorem srt_nil : srt ([] : List Nm) = [] := by simp [srt]
section
variable (k : Nat) (hs : List He) (a1 : Nat) (a2 : Int) (a3 : Nm) (a4 : List Tm) (b1 : Nat) (b2 : Int) (b3 : Nm) (b4 : List Tm) (bs : List Bo) (c1 : Nat) (c2 : Int) (c3 : Nm) (c4 : List Tm) (d1 : Nat) (d2 : Int) (d3 : Nm) (d4 : List Tm) (ts : List Tm)
variable (hw : Ru.wf 281474976710656 ⟨k, hs, .mk a1 a2 a3 a4, .mk b1 b2 b3 b4, bs, .mk c1 c2 c3 c4, .mk d1 d2 d3 d4, ts⟩) (hf : fewR 400 ⟨k, hs, .mk a1 a2 a3 a4, .mk b1 b2 b3 b4, bs, .mk c1 c2 c3 c4, .mk d1 d2 d3 d4, ts⟩) (ns : List Nm) (hn : ns.length ≤ 20) (hx : ∀ x ∈ ns, x.length ≤ 281474976710656)
include hw hf
theorem unsafe_at : FnOK Tryz.prog 15 [.agg (rC k (heL hs) (boL bs) (Tm.cellsL ts) a1 a2 a3 (Tm.cellsL a4) b1 b2 b3 (Tm.cellsL b4) c1 c2 c3 (Tm.cellsL c4) d1 d2 d3 (Tm.cellsL d4))] (.slice (strC (srt (unsafeS ⟨k, hs, .mk a1 a2 a3 a4, .mk b1 b2 b3 b4, bs, .mk c1 c2 c3 c4, .mk d1 d2 d3 d4, ts⟩))) []) :=
  Unsafe_ok ⟨k, hs, .mk a1 a2 a3 a4, .mk b1 b2 b3 b4, bs, .mk c1 c2 c3 c4, .mk d1 d2 d3 d4, ts⟩ (okR_of hw hf) (by have := unsafe_few hf; omega)
theorem unsafe_plus (qs : List Nm) (hq : qs.length ≤ 1000000000) (hy : ∀ x ∈ qs, x.length ≤ 281474976710656) : FnOK Tryz.prog 15 [.agg (rC k (heL hs) (boL (bs ++ [plusB qs])) (Tm.cellsL ts) a1 a2 a3 (Tm.cellsL a4) b1 b2 b3 (Tm.cellsL b4) c1 c2 c3 (Tm.cellsL c4) d1 d2 d3 (Tm.cellsL d4))] (.slice (strC (srt (unsafeS (Ru.plus ⟨k, hs, .mk a1 a2 a3 a4, .mk b1 b2 b3 b4, bs, .mk c1 c2 c3 c4, .mk d1 d2 d3 d4, ts⟩ qs)))) []) := by
  have hb := hf.bl
  simp only at hb
  refine Unsafe_ok (Ru.plus ⟨k, hs, .mk a1 a2 a3 a4, .mk b1 b2 b3 b4, bs, .mk c1 c2 c3 c4, .mk d1 d2 d3 d4, ts⟩ qs) (okR_plus (okR_of hw hf) (by simp only; omega) hq hy) ?_
  have h1 := List.Nodup.length_le_of_subset (unsafeS_nd (Ru.plus ⟨k, hs, .mk a1 a2 a3 a4, .mk b1 b2 b3 b4, bs, .mk c1 c2 c3 c4, .mk d1 d2 d3 d4, ts⟩ qs)) (l₂ := unsafeS ⟨k, hs, .mk a1 a2 a3 a4, .mk b1 b2 b3 b4, bs, .mk c1 c2 c3 c4, .mk d1 d2 d3 d4, ts⟩) fun x hx => (plus_unsafe hx).2
  have h2 := unsafe_few hf
  omega
theorem with_at (qs : List Nm) (hq : qs.length ≤ 1000000000) : FnOK Tryz.prog 20 [.agg (rC k (heL hs) (boL bs) (Tm.cellsL ts) a1 a2 a3 (Tm.cellsL a4) b1 b2 b3 (Tm.cellsL b4) c1 c2 c3 (Tm.cellsL c4) d1 d2 d3 (Tm.cellsL d4)), .slice (strC qs) []] (.agg (rC k (heL hs) (boL (bs ++ [plusB qs])) (Tm.cellsL ts) a1 a2 a3 (Tm.cellsL a4) b1 b2 b3 (Tm.cellsL b4) c1 c2 c3 (Tm.cellsL c4) d1 d2 d3 (Tm.cellsL d4))) := by
  have hb := hf.bl
  simp only at hb
  exact with_ok ⟨k, hs, .mk a1 a2 a3 a4, .mk b1 b2 b3 b4, bs, .mk c1 c2 c3 c4, .mk d1 d2 d3 d4, ts⟩ (by simp only; omega) qs hq
abbrev QA : Exit → St → Prop := FinQ true 0 rs6 fun d _ => d = .bool true
include hn
theorem add_at : ∀ (m i : Nat), (srt (unsafeS (Ru.plus ⟨k, hs, .mk a1 a2 a3 a4, .mk b1 b2 b3 b4, bs, .mk c1 c2 c3 c4, .mk d1 d2 d3 d4, ts⟩ ns))).length - i = m → i ≤ (srt (unsafeS (Ru.plus ⟨k, hs, .mk a1 a2 a3 a4, .mk b1 b2 b3 b4, bs, .mk c1 c2 c3 c4, .mk d1 d2 d3 d4, ts⟩ ns))).length →
    At Tryz.prog 0 (cut sc6 0) ⟨tmA (strC ns) (strC (srt (unsafeS ⟨k, hs, .mk a1 a2 a3 a4, .mk b1 b2 b3 b4, bs, .mk c1 c2 c3 c4, .mk d1 d2 d3 d4, ts⟩))) (strC (srt (unsafeS (Ru.plus ⟨k, hs, .mk a1 a2 a3 a4, .mk b1 b2 b3 b4, bs, .mk c1 c2 c3 c4, .mk d1 d2 d3 d4, ts⟩ ns)))) i, [(0, .cells (rC k (heL hs) (boL bs) (Tm.cellsL ts) a1 a2 a3 (Tm.cellsL a4) b1 b2 b3 (Tm.cellsL b4) c1 c2 c3 (Tm.cellsL c4) d1 d2 d3 (Tm.cellsL d4)))]⟩ QA := by
  have hN : ∀ x ∈ srt (unsafeS (Ru.plus ⟨k, hs, .mk a1 a2 a3 a4, .mk b1 b2 b3 b4, bs, .mk c1 c2 c3 c4, .mk d1 d2 d3 d4, ts⟩ ns)), x ∉ ns ∧ x ∈ srt (unsafeS ⟨k, hs, .mk a1 a2 a3 a4, .mk b1 b2 b3 b4, bs, .mk c1 c2 c3 c4, .mk d1 d2 d3 d4, ts⟩) := fun x hx => by
    rw [srt_mem] at hx
    rw [srt_mem]
    exact plus_unsafe hx
  have hNl : (srt (unsafeS (Ru.plus ⟨k, hs, .mk a1 a2 a3 a4, .mk b1 b2 b3 b4, bs, .mk c1 c2 c3 c4, .mk d1 d2 d3 d4, ts⟩ ns))).length ≤ 200000000 := by
    rw [(srt_perm _).length_eq]
    exact Nat.le_trans (List.Nodup.length_le_of_subset (unsafeS_nd (Ru.plus ⟨k, hs, .mk a1 a2 a3 a4, .mk b1 b2 b3 b4, bs, .mk c1 c2 c3 c4, .mk d1 d2 d3 d4, ts⟩ ns)) (l₂ := unsafeS ⟨k, hs, .mk a1 a2 a3 a4, .mk b1 b2 b3 b4, bs, .mk c1 c2 c3 c4, .mk d1 d2 d3 d4, ts⟩) fun x hx => (plus_unsafe hx).2) (unsafe_few hf)
  generalize srt (unsafeS (Ru.plus ⟨k, hs, .mk a1 a2 a3 a4, .mk b1 b2 b3 b4, bs, .mk c1 c2 c3 c4, .mk d1 d2 d3 d4, ts⟩ ns)) = N at hN hNl ⊢
  have hWl : (srt (unsafeS ⟨k, hs, .mk a1 a2 a3 a4, .mk b1 b2 b3 b4, bs, .mk c1 c2 c3 c4, .mk d1 d2 d3 d4, ts⟩)).length ≤ 200000000 := by
    rw [(srt_perm _).length_eq]
    exact unsafe_few hf
  have hWx : ∀ x ∈ srt (unsafeS ⟨k, hs, .mk a1 a2 a3 a4, .mk b1 b2 b3 b4, bs, .mk c1 c2 c3 c4, .mk d1 d2 d3 d4, ts⟩), x.length ≤ 281474976710656 := fun x hx => by
    rw [srt_mem] at hx
    exact unsafe_wf hw x hx
  have hw3 := with_at k hs a1 a2 a3 a4 b1 b2 b3 b4 bs c1 c2 c3 c4 d1 d2 d3 d4 ts hw hf (srt (unsafeS ⟨k, hs, .mk a1 a2 a3 a4, .mk b1 b2 b3 b4, bs, .mk c1 c2 c3 c4, .mk d1 d2 d3 d4, ts⟩)) (by omega)
  have hu3 := unsafe_plus k hs a1 a2 a3 a4 b1 b2 b3 b4 bs c1 c2 c3 c4 d1 d2 d3 d4 ts hw hf (srt (unsafeS ⟨k, hs, .mk a1 a2 a3 a4, .mk b1 b2 b3 b4, bs, .mk c1 c2 c3 c4, .mk d1 d2 d3 d4, ts⟩)) (by omega) hWx
  have hs3 := safe_ok [⟨k, hs, .mk a1 a2 a3 a4, .mk b1 b2 b3 b4, bs, .mk c1 c2 c3 c4, .mk d1 d2 d3 d4, ts⟩] (by simp) (fun r hr => by rw [List.mem_singleton] at hr; subst hr; exact okR_of hw hf) [] [] false
  have hz : unsafeS (Ru.plus ⟨k, hs, .mk a1 a2 a3 a4, .mk b1 b2 b3 b4, bs, .mk c1 c2 c3 c4, .mk d1 d2 d3 d4, ts⟩ (srt (unsafeS ⟨k, hs, .mk a1 a2 a3 a4, .mk b1 b2 b3 b4, bs, .mk c1 c2 c3 c4, .mk d1 d2 d3 d4, ts⟩))) = [] := plus_safe fun x hx => srt_mem.2 hx
  have hs4 : (srt (unsafeS ⟨k, hs, .mk a1 a2 a3 a4, .mk b1 b2 b3 b4, bs, .mk c1 c2 c3 c4, .mk d1 d2 d3 d4, ts⟩)).length = (unsafeS ⟨k, hs, .mk a1 a2 a3 a4, .mk b1 b2 b3 b4, bs, .mk c1 c2 c3 c4, .mk d1 d2 d3 d4, ts⟩).length := (srt_perm _).length_eq
  have hres : ((!List.any [⟨k, hs, .mk a1 a2 a3 a4, .mk b1 b2 b3 b4, bs, .mk c1 c2 c3 c4, .mk d1 d2 d3 d4, ts⟩] badR) == decide (((strC (srt (unsafeS ⟨k, hs, .mk a1 a2 a3 a4, .mk b1 b2 b3 b4, bs, .mk c1 c2 c3 c4, .mk d1 d2 d3 d4, ts⟩))).length : Int) = 0)) = true := by
    rw [strC_len, hs4]
    have e : (!List.any [⟨k, hs, .mk a1 a2 a3 a4, .mk b1 b2 b3 b4, bs, .mk c1 c2 c3 c4, .mk d1 d2 d3 d4, ts⟩] badR) = (unsafeS ⟨k, hs, .mk a1 a2 a3 a4, .mk b1 b2 b3 b4, bs, .mk c1 c2 c3 c4, .mk d1 d2 d3 d4, ts⟩).isEmpty := by
      simp only [List.any_cons, List.any_nil, Bool.or_false, badR, Bool.not_not]
    rw [e]
    exact emp_dec _
  rw [hz, srt_nil] at hu3
  generalize srt (unsafeS ⟨k, hs, .mk a1 a2 a3 a4, .mk b1 b2 b3 b4, bs, .mk c1 c2 c3 c4, .mk d1 d2 d3 d4, ts⟩) = W at *
  intro m
  induction m with
  | zero =>
    intro i hm hi
    refine At.tree (dCtr_ok qnone_ok) (PA1_eq k (heL hs) (boL bs) (Tm.cellsL ts) a1 a2 a3 (Tm.cellsL a4) b1 b2 b3 (Tm.cellsL b4) c1 c2 c3 (Tm.cellsL c4) d1 d2 d3 (Tm.cellsL d4) (strC ns) (strC W) (strC N) i [] true true (!List.any [⟨k, hs, .mk a1 a2 a3 a4, .mk b1 b2 b3 b4, bs, .mk c1 c2 c3 c4, .mk d1 d2 d3 d4, ts⟩] badR) (boL (bs ++ [plusB W])) (strC [])) ?_
    unfold PA1
    simp only [ok_br, ok_owe, ok_ret, ok_jmp, decide_eq_true_eq, decide_eq_false_iff_not, Int.toNat_natCast, true_and, and_true, Bool.not_eq_true', Bool.not_eq_false', List.drop_zero, List.take_length, D.bool.injEq, D.int.injEq, D.str.injEq, true_implies, Int.le_refl, strC_len]
    refine ⟨fun h => by omega, fun _ => ⟨hw3, hu3, fun _ => ⟨hs3, ?_⟩, fun h => absurd rfl h⟩⟩
    rw [strC_len] at hres
    exact hres
  | succ m ih =>
    intro i hm hi
    have h1 : i < N.length := by omega
    have hI := ih (i + 1) (by omega) (by omega)
    obtain ⟨g1, g2⟩ := hN _ (List.getElem_mem h1)
    have e1 := lhas_ok ns N[i] (by omega)
    have e2 := lhas_ok W N[i] (by omega)
    rw [decide_eq_false g1] at e1
    rw [decide_eq_true g2] at e2
    refine At.tree (dCtr_ok qnone_ok) (PA1_eq k (heL hs) (boL bs) (Tm.cellsL ts) a1 a2 a3 (Tm.cellsL a4) b1 b2 b3 (Tm.cellsL b4) c1 c2 c3 (Tm.cellsL c4) d1 d2 d3 (Tm.cellsL d4) (strC ns) (strC W) (strC N) i N[i] false true true [] []) ?_
    unfold PA1
    simp only [ok_br, ok_owe, ok_ret, ok_jmp, decide_eq_true_eq, decide_eq_false_iff_not, Int.toNat_natCast, true_and, and_true, Bool.not_eq_true', Bool.not_eq_false', List.drop_zero, List.take_length, D.bool.injEq, D.int.injEq, D.str.injEq, true_implies, Int.le_refl, strC_len]
    exact ⟨fun _ => ⟨⟨by omega, strC_gt h1⟩, e1, fun h => (by cases h), ⟨by omega, strC_gt h1⟩, e2, fun h => (by cases h), by omega, hI⟩, fun h => by omega⟩
end
theorem adds_of (haw : FnOK Tryz.prog 7 [] (.bool true)) (r : Ru) (hw : r.wf 281474976710656) (ns : List Nm) (hx : ∀ x ∈ ns, x.length ≤ 281474976710656) : FnOK Tryz.prog 6 [.agg r.cs, .slice (strC ns) []] (.bool true) := by
  have hsz := szr_ok r hw 400 (by omega)
  by_cases hbig : 400 < szRu r 400
  · generalize szRu r 400 = n at hsz hbig
    obtain ⟨k, hs, ⟨a1, a2, a3, a4⟩, ⟨b1, b2, b3, b4⟩, bs, ⟨c1, c2, c3, c4⟩, ⟨d1, d2, d3, d4⟩, ts⟩ := r
    refine FnOK.tree hdraw fp6 (dCtr_ok qnone_ok) (PA0_eq k (heL hs) (boL bs) (Tm.cellsL ts) a1 a2 a3 (Tm.cellsL a4) b1 b2 b3 (Tm.cellsL b4) c1 c2 c3 (Tm.cellsL c4) d1 d2 d3 (Tm.cellsL d4) (strC ns) [] [] [] n) ?_
    unfold PA0
    simp only [ok_br, ok_owe, ok_ret, ok_jmp, decide_eq_true_eq, decide_eq_false_iff_not, Int.toNat_natCast, true_and, and_true, Bool.not_eq_true', Bool.not_eq_false', List.drop_zero, List.take_length, D.bool.injEq, D.int.injEq, D.str.injEq, true_implies, Int.le_refl]
    exact ⟨haw, hsz, fun _ => trivial, fun h => absurd hbig h⟩
  · have hf := szRu_few (show szRu r 400 ≤ 400 by omega)
    generalize szRu r 400 = n at hsz hbig
    obtain ⟨k, hs, ⟨a1, a2, a3, a4⟩, ⟨b1, b2, b3, b4⟩, bs, ⟨c1, c2, c3, c4⟩, ⟨d1, d2, d3, d4⟩, ts⟩ := r
    by_cases hn : ns.length ≤ 20
    · have hu := unsafe_at k hs a1 a2 a3 a4 b1 b2 b3 b4 bs c1 c2 c3 c4 d1 d2 d3 d4 ts hw hf
      have hwi := with_at k hs a1 a2 a3 a4 b1 b2 b3 b4 bs c1 c2 c3 c4 d1 d2 d3 d4 ts hw hf ns (by omega)
      have hu2 := unsafe_plus k hs a1 a2 a3 a4 b1 b2 b3 b4 bs c1 c2 c3 c4 d1 d2 d3 d4 ts hw hf ns (by omega) hx
      have hA := add_at k hs a1 a2 a3 a4 b1 b2 b3 b4 bs c1 c2 c3 c4 d1 d2 d3 d4 ts hw hf ns hn _ 0 rfl (Nat.zero_le _)
      refine FnOK.tree hdraw fp6 (dCtr_ok qnone_ok) (PA0_eq k (heL hs) (boL bs) (Tm.cellsL ts) a1 a2 a3 (Tm.cellsL a4) b1 b2 b3 (Tm.cellsL b4) c1 c2 c3 (Tm.cellsL c4) d1 d2 d3 (Tm.cellsL d4) (strC ns) (strC (srt (unsafeS ⟨k, hs, .mk a1 a2 a3 a4, .mk b1 b2 b3 b4, bs, .mk c1 c2 c3 c4, .mk d1 d2 d3 d4, ts⟩))) (strC (srt (unsafeS (Ru.plus ⟨k, hs, .mk a1 a2 a3 a4, .mk b1 b2 b3 b4, bs, .mk c1 c2 c3 c4, .mk d1 d2 d3 d4, ts⟩ ns)))) (boL (bs ++ [plusB ns])) n) ?_
      unfold PA0
      simp only [ok_br, ok_owe, ok_ret, ok_jmp, decide_eq_true_eq, decide_eq_false_iff_not, Int.toNat_natCast, true_and, and_true, Bool.not_eq_true', Bool.not_eq_false', List.drop_zero, List.take_length, D.bool.injEq, D.int.injEq, D.str.injEq, true_implies, Int.le_refl, strC_len]
      exact ⟨haw, hsz, fun h => absurd h hbig, fun _ => ⟨fun h => by omega, fun _ => ⟨hu, hwi, hu2, hA⟩⟩⟩
    · refine FnOK.tree hdraw fp6 (dCtr_ok qnone_ok) (PA0_eq k (heL hs) (boL bs) (Tm.cellsL ts) a1 a2 a3 (Tm.cellsL a4) b1 b2 b3 (Tm.cellsL b4) c1 c2 c3 (Tm.cellsL c4) d1 d2 d3 (Tm.cellsL d4) (strC ns) [] [] [] n) ?_
      unfold PA0
      simp only [ok_br, ok_owe, ok_ret, ok_jmp, decide_eq_true_eq, decide_eq_false_iff_not, Int.toNat_natCast, true_and, and_true, Bool.not_eq_true', Bool.not_eq_false', List.drop_zero, List.take_length, D.bool.injEq, D.int.injEq, D.str.injEq, true_implies, Int.le_refl, strC_len]
      exact ⟨haw, hsz, fun h => absurd h hbig, fun _ => ⟨fun _ => trivial, fun h => absurd (by omega) h⟩⟩
end Go.Proofs.YtiafmjolbacdaaaGreat
