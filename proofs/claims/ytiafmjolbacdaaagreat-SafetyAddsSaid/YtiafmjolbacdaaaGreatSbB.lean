/- with, proved. -/
import Derived.Test.YtiafmjolbacdaaaGreatSbA
set_option linter.unusedSectionVars false
set_option linter.unusedVariables false
set_option linter.unusedSimpArgs false
set_option linter.deprecated false
set_option maxRecDepth 100000
namespace Go.Proofs.YtiafmjolbacdaaaGreat
open Go.Sx Go.RowKit
theorem boC_len (x : Bo) : x.cs.length = 23 := by simp [Bo.cs, ltc_len, cells_length]
theorem al23 (l : List Bo) : allLen 23 (boL l) := by
  intro q hq
  obtain ⟨t, _, rfl⟩ := List.mem_map.1 hq
  exact boC_len t
section
variable (k : Nat) (hs : List He) (a1 : Nat) (a2 : Int) (a3 : Nm) (a4 : List Tm) (b1 : Nat) (b2 : Int) (b3 : Nm) (b4 : List Tm) (bs : List Bo) (c1 : Nat) (c2 : Int) (c3 : Nm) (c4 : List Tm) (d1 : Nat) (d2 : Int) (d3 : Nm) (d4 : List Tm) (ts : List Tm)
theorem plus_cs (ns : List Nm) : (Ru.plus ⟨k, hs, .mk a1 a2 a3 a4, .mk b1 b2 b3 b4, bs, .mk c1 c2 c3 c4, .mk d1 d2 d3 d4, ts⟩ ns).cs = rC k (heL hs) ([] ++ boL bs ++ [[.int .u8 1, .int .u8 1, .bool false, .str [112], .slice (Tm.cellsL (ns.map varT)) [], .int .u8 0, .int .u8 0, .int .i64 0, .str [], .slice [] [], .int .u8 0, .int .i64 0, .str [], .slice [] [], .slice [] [], .bool false, .int .u8 0, .slice [] [], .int .u8 0, .int .u8 0, .int .i64 0, .str [], .slice [] []]]) (Tm.cellsL ts) a1 a2 a3 (Tm.cellsL a4) b1 b2 b3 (Tm.cellsL b4) c1 c2 c3 (Tm.cellsL c4) d1 d2 d3 (Tm.cellsL d4) := by
  have e : boL (bs ++ [plusB ns]) = [] ++ boL bs ++ [(plusB ns).cs] := by simp [boL]
  show Ru.cs ⟨k, hs, .mk a1 a2 a3 a4, .mk b1 b2 b3 b4, bs ++ [plusB ns], .mk c1 c2 c3 c4, .mk d1 d2 d3 d4, ts⟩ = _
  unfold Ru.cs
  simp only
  rw [e]
  rfl
abbrev QWi (ns : List Nm) : Exit → St → Prop := FinQ true 0 rs20 fun d _ => d = .agg (Ru.plus ⟨k, hs, .mk a1 a2 a3 a4, .mk b1 b2 b3 b4, bs, .mk c1 c2 c3 c4, .mk d1 d2 d3 d4, ts⟩ ns).cs
variable (hb : bs.length ≤ 1000000) (ns : List Nm) (hn : ns.length ≤ 1000000000)
include hb hn
theorem wi_at : ∀ (m i : Nat), ns.length - i = m → i ≤ ns.length → 
    At Tryz.prog 0 (cut sc20 0) ⟨tmW (strC ns) i, obW (rC k (heL hs) (boL bs) (Tm.cellsL ts) a1 a2 a3 (Tm.cellsL a4) b1 b2 b3 (Tm.cellsL b4) c1 c2 c3 (Tm.cellsL c4) d1 d2 d3 (Tm.cellsL d4)) (.vec 3) ++ [(3, .arr true 4 32 (Tm.cellsL ((ns.take i).map varT)))]⟩ (QWi k hs a1 a2 a3 a4 b1 b2 b3 b4 bs c1 c2 c3 c4 d1 d2 d3 d4 ts ns) := by
  intro m
  induction m with
  | zero =>
    intro i hm hi
    refine At.tree (dCtr_ok qnone_ok) (PWiA_eq k (heL hs) (boL bs) (Tm.cellsL ts) a1 a2 a3 (Tm.cellsL a4) b1 b2 b3 (Tm.cellsL b4) c1 c2 c3 (Tm.cellsL c4) d1 d2 d3 (Tm.cellsL d4) (strC ns) (Tm.cellsL ((ns.take i).map varT)) i []) ?_
    unfold PWiA
    rw [List.take_of_length_le (by omega : ns.length ≤ i)]
    simp only [ok_br, ok_owe, ok_ret, ok_jmp, decide_eq_true_eq, decide_eq_false_iff_not, Int.toNat_natCast, true_and, and_true, Bool.not_eq_true', Bool.not_eq_false', List.drop_zero, List.take_length, D.bool.injEq, D.int.injEq, D.str.injEq, true_implies, Int.le_refl, strC_len, boL_len]
    refine ⟨fun h => by omega, fun _ => ⟨⟨al23 bs, by omega⟩, ⟨?_, ?_⟩, ?_⟩⟩
    · intro q hq
      rw [List.mem_singleton] at hq
      subst hq
      rfl
    · simp only [List.nil_append, boL_len]; omega
    · rw [plus_cs]
  | succ m ih =>
    intro i hm hi
    have h1 : i < ns.length := by omega
    have hI := ih (i + 1) (by omega) (by omega)
    have e : Tm.cellsL ((ns.take (i + 1)).map varT) = Tm.cellsL ((ns.take i).map varT) ++ [[.int .u8 3, .int .i64 0, .str ns[i], .slice [] []]] := by
      rw [List.take_add_one, List.getElem?_eq_getElem h1, List.map_append, cellsL_app]
      rfl
    rw [e] at hI
    have hz : (Tm.cellsL ((ns.take i).map varT)).length ≤ 1000000000 := by rw [cellsL_length, List.length_map, List.length_take]; omega
    generalize Tm.cellsL ((ns.take i).map varT) = R at hI hz ⊢
    refine At.tree (dCtr_ok qnone_ok) (PWiA_eq k (heL hs) (boL bs) (Tm.cellsL ts) a1 a2 a3 (Tm.cellsL a4) b1 b2 b3 (Tm.cellsL b4) c1 c2 c3 (Tm.cellsL c4) d1 d2 d3 (Tm.cellsL d4) (strC ns) R i ns[i]) ?_
    unfold PWiA
    simp only [ok_br, ok_owe, ok_ret, ok_jmp, decide_eq_true_eq, decide_eq_false_iff_not, Int.toNat_natCast, true_and, and_true, Bool.not_eq_true', Bool.not_eq_false', List.drop_zero, List.take_length, D.bool.injEq, D.int.injEq, D.str.injEq, true_implies, Int.le_refl, strC_len]
    refine ⟨fun _ => ⟨⟨by omega, strC_gt h1⟩, ⟨?_, by omega⟩, by omega, hI⟩, fun h => by omega⟩
    intro q hq
    rw [List.mem_singleton] at hq
    subst hq
    rfl
theorem with_ok' : FnOK Tryz.prog 20 [.agg (rC k (heL hs) (boL bs) (Tm.cellsL ts) a1 a2 a3 (Tm.cellsL a4) b1 b2 b3 (Tm.cellsL b4) c1 c2 c3 (Tm.cellsL c4) d1 d2 d3 (Tm.cellsL d4)), .slice (strC ns) []] (.agg (Ru.plus ⟨k, hs, .mk a1 a2 a3 a4, .mk b1 b2 b3 b4, bs, .mk c1 c2 c3 c4, .mk d1 d2 d3 d4, ts⟩ ns).cs) := by
  refine FnOK.tree hdraw fp20 (dCtr_ok qnone_ok) (PWi_eq k (heL hs) (boL bs) (Tm.cellsL ts) a1 a2 a3 (Tm.cellsL a4) b1 b2 b3 (Tm.cellsL b4) c1 c2 c3 (Tm.cellsL c4) d1 d2 d3 (Tm.cellsL d4) (strC ns)) ?_
  unfold PWi
  rw [ok_jmp]
  have hA := wi_at k hs a1 a2 a3 a4 b1 b2 b3 b4 bs c1 c2 c3 c4 d1 d2 d3 d4 ts hb ns hn _ 1 rfl
  cases ns with
  | nil =>
    refine At.tree (dCtr_ok qnone_ok) (PWiN_eq k (heL hs) (boL bs) (Tm.cellsL ts) a1 a2 a3 (Tm.cellsL a4) b1 b2 b3 (Tm.cellsL b4) c1 c2 c3 (Tm.cellsL c4) d1 d2 d3 (Tm.cellsL d4) (strC []) 0 []) ?_
    unfold PWiN
    simp only [ok_br, ok_owe, ok_ret, ok_jmp, decide_eq_true_eq, decide_eq_false_iff_not, Int.toNat_natCast, true_and, and_true, Bool.not_eq_true', Bool.not_eq_false', List.drop_zero, List.take_length, D.bool.injEq, D.int.injEq, D.str.injEq, true_implies, Int.le_refl, strC_len, boL_len]
    refine ⟨fun h => by simp at h, fun _ => ⟨⟨al23 bs, by omega⟩, ⟨?_, ?_⟩, ?_⟩⟩
    · intro q hq
      rw [List.mem_singleton] at hq
      subst hq
      rfl
    · simp only [List.nil_append, boL_len]; omega
    · rw [plus_cs]; rfl
  | cons a r =>
    have hA := hA (by simp)
    refine At.tree (dCtr_ok qnone_ok) (PWiN_eq k (heL hs) (boL bs) (Tm.cellsL ts) a1 a2 a3 (Tm.cellsL a4) b1 b2 b3 (Tm.cellsL b4) c1 c2 c3 (Tm.cellsL c4) d1 d2 d3 (Tm.cellsL d4) (strC (a :: r)) 0 a) ?_
    unfold PWiN
    simp only [ok_br, ok_owe, ok_ret, ok_jmp, decide_eq_true_eq, decide_eq_false_iff_not, Int.toNat_natCast, true_and, and_true, Bool.not_eq_true', Bool.not_eq_false', List.drop_zero, List.take_length, D.bool.injEq, D.int.injEq, D.str.injEq, true_implies, Int.le_refl, strC_len]
    refine ⟨fun _ => ?_, fun h => absurd (by simp) h⟩
    refine ⟨strC_gt (l := a :: r) (i := 0) (by simp), ⟨?_, by omega⟩, by omega, hA⟩
    intro q hq
    rw [List.mem_singleton] at hq
    subst hq
    rfl
end
theorem with_ok (r : Ru) (hb : r.b.length ≤ 1000000) (ns : List Nm) (hn : ns.length ≤ 1000000000) : FnOK Tryz.prog 20 [.agg r.cs, .slice (strC ns) []] (.agg (r.plus ns).cs) := by
  obtain ⟨k, hs, ⟨a1, a2, a3, a4⟩, ⟨b1, b2, b3, b4⟩, bs, ⟨c1, c2, c3, c4⟩, ⟨d1, d2, d3, d4⟩, ts⟩ := r
  exact with_ok' k hs a1 a2 a3 a4 b1 b2 b3 b4 bs c1 c2 c3 c4 d1 d2 d3 d4 ts hb ns hn
end Go.Proofs.YtiafmjolbacdaaaGreat
