/- LexBack: it returns true. -/
import Derived.Test.YtdkbjkccpnhjgaaDoorLawT
import Derived.Test.YtdkbjkccpnhjgaaDoorSx6
set_option linter.unusedSectionVars false
set_option linter.unusedVariables false
set_option linter.unusedSimpArgs false
set_option linter.deprecated false
set_option maxRecDepth 100000
namespace Go.Proofs.YtdkbjkccpnhjgaaDoor
open Go.Sx
noncomputable def PBack (s : List UInt8) : Go.Sx.Tr := Tr.owe True (brT (decide ((4000 : Int) < (↑(List.length s) : Int))) (Tr.ret (D.bool true) []) (Tr.owe True (brT (!decide (Prod.snd (Prod.snd (Lx.lexR s)) = (0 : Int))) (brT (decide ((↑(List.length (List.map Lx.tokC (Prod.fst (Lx.lexR s)))) : Int) = (0 : Int))) (brT (decide ((0 : Int) ≤ Prod.fst (Prod.snd (Lx.lexR s)))) (brT (decide (Prod.fst (Prod.snd (Lx.lexR s)) < (↑(List.length s) : Int))) (brT (decide (Prod.snd (Prod.snd (Lx.lexR s)) = (30 : Int))) (Tr.ret (D.bool true) []) (brT (decide (Prod.snd (Prod.snd (Lx.lexR s)) = (31 : Int))) (Tr.ret (D.bool true) []) (Tr.ret (D.bool (decide (Prod.snd (Prod.snd (Lx.lexR s)) = (32 : Int)))) []))) (Tr.ret (D.bool false) [])) (Tr.ret (D.bool false) [])) (Tr.ret (D.bool false) [])) (Tr.owe (List.map Lx.tokC (Prod.fst (Lx.lexR s)) = List.map Lx.tokC (List.map Lx.deT (List.map Lx.tokC (Prod.fst (Lx.lexR s)))) ∧ List.length (List.map Lx.tokC (Prod.fst (Lx.lexR s))) ≤ (1073741824 : Nat) ∧ List.length (Lib.join (txs (List.map Lx.deT (List.map Lx.tokC (Prod.fst (Lx.lexR s))))) [(32 : UInt8)]) ≤ (140737488355328 : Nat)) (Tr.owe True (brT (!decide (Prod.snd (Prod.snd (Lx.lexR (Lib.join (txs (List.map Lx.deT (List.map Lx.tokC (Prod.fst (Lx.lexR s))))) [(32 : UInt8)]))) = (0 : Int))) (Tr.owe (List.map Lx.tokC (Prod.fst (Lx.lexR s)) = List.map Lx.tokC (List.map Lx.deT (List.map Lx.tokC (Prod.fst (Lx.lexR s)))) ∧ List.length (List.map Lx.tokC (Prod.fst (Lx.lexR s))) ≤ (1073741824 : Nat) ∧ List.length (Lib.join (txs (List.map Lx.deT (List.map Lx.tokC (Prod.fst (Lx.lexR s))))) [(32 : UInt8)]) ≤ (140737488355328 : Nat)) (brT (decide ((↑(List.length (Lib.join (txs (List.map Lx.deT (List.map Lx.tokC (Prod.fst (Lx.lexR s))))) [(32 : UInt8)])) : Int) ≤ (32768 : Int))) (Tr.ret (D.bool false) []) (brT (decide (Prod.snd (Prod.snd (Lx.lexR (Lib.join (txs (List.map Lx.deT (List.map Lx.tokC (Prod.fst (Lx.lexR s))))) [(32 : UInt8)]))) = (0 : Int))) (Tr.owe (List.map Lx.tokC (Prod.fst (Lx.lexR s)) = List.map Lx.tokC (List.map Lx.deT (List.map Lx.tokC (Prod.fst (Lx.lexR s)))) ∧ List.map Lx.tokC (Prod.fst (Lx.lexR (Lib.join (txs (List.map Lx.deT (List.map Lx.tokC (Prod.fst (Lx.lexR s))))) [(32 : UInt8)]))) = List.map Lx.tokC (List.map Lx.deT (List.map Lx.tokC (Prod.fst (Lx.lexR (Lib.join (txs (List.map Lx.deT (List.map Lx.tokC (Prod.fst (Lx.lexR s))))) [(32 : UInt8)]))))) ∧ List.length (List.map Lx.tokC (Prod.fst (Lx.lexR s))) ≤ (4611686018427387904 : Nat)) (brT (!Lx.alikeB (List.map Lx.deT (List.map Lx.tokC (Prod.fst (Lx.lexR s)))) (List.map Lx.deT (List.map Lx.tokC (Prod.fst (Lx.lexR (Lib.join (txs (List.map Lx.deT (List.map Lx.tokC (Prod.fst (Lx.lexR s))))) [(32 : UInt8)])))))) (Tr.ret (D.bool false) []) (Tr.jmp (cut sc4 (0 : Nat)) { tm := [((0 : Nat), D.str s), ((3 : Nat), D.slice (List.map Lx.tokC (Prod.fst (Lx.lexR s))) []), ((9 : Nat), D.int IntKind.i64 (0 : Int)), ((10 : Nat), D.int IntKind.i64 (0 : Int))], ob := [] }))) (Tr.jmp (cut sc4 (0 : Nat)) { tm := [((0 : Nat), D.str s), ((3 : Nat), D.slice (List.map Lx.tokC (Prod.fst (Lx.lexR s))) []), ((9 : Nat), D.int IntKind.i64 (0 : Int)), ((10 : Nat), D.int IntKind.i64 (0 : Int))], ob := [] })))) (brT (decide (Prod.snd (Prod.snd (Lx.lexR (Lib.join (txs (List.map Lx.deT (List.map Lx.tokC (Prod.fst (Lx.lexR s))))) [(32 : UInt8)]))) = (0 : Int))) (Tr.owe (List.map Lx.tokC (Prod.fst (Lx.lexR s)) = List.map Lx.tokC (List.map Lx.deT (List.map Lx.tokC (Prod.fst (Lx.lexR s)))) ∧ List.map Lx.tokC (Prod.fst (Lx.lexR (Lib.join (txs (List.map Lx.deT (List.map Lx.tokC (Prod.fst (Lx.lexR s))))) [(32 : UInt8)]))) = List.map Lx.tokC (List.map Lx.deT (List.map Lx.tokC (Prod.fst (Lx.lexR (Lib.join (txs (List.map Lx.deT (List.map Lx.tokC (Prod.fst (Lx.lexR s))))) [(32 : UInt8)]))))) ∧ List.length (List.map Lx.tokC (Prod.fst (Lx.lexR s))) ≤ (4611686018427387904 : Nat)) (brT (!Lx.alikeB (List.map Lx.deT (List.map Lx.tokC (Prod.fst (Lx.lexR s)))) (List.map Lx.deT (List.map Lx.tokC (Prod.fst (Lx.lexR (Lib.join (txs (List.map Lx.deT (List.map Lx.tokC (Prod.fst (Lx.lexR s))))) [(32 : UInt8)])))))) (Tr.ret (D.bool false) []) (Tr.jmp (cut sc4 (0 : Nat)) { tm := [((0 : Nat), D.str s), ((3 : Nat), D.slice (List.map Lx.tokC (Prod.fst (Lx.lexR s))) []), ((9 : Nat), D.int IntKind.i64 (0 : Int)), ((10 : Nat), D.int IntKind.i64 (0 : Int))], ob := [] }))) (Tr.jmp (cut sc4 (0 : Nat)) { tm := [((0 : Nat), D.str s), ((3 : Nat), D.slice (List.map Lx.tokC (Prod.fst (Lx.lexR s))) []), ((9 : Nat), D.int IntKind.i64 (0 : Int)), ((10 : Nat), D.int IntKind.i64 (0 : Int))], ob := [] }))))))))
theorem PBack_eq (s : List UInt8) : goT Tryd.prog (ctr lawP) (0 : Nat) (finF true (0 : Nat) rs4) (2000 : Nat) [Fr.sc sc4] { tm := envOf (0 : Nat) [D.str s], ob := [] } = PBack s := by kernel_rfl
def hdBack (s : List UInt8) (l : List Lx.Tk) (fr i : Int) : St := ⟨[(0, .str s), (3, .slice (l.map Lx.tokC) []), (9, .int .i64 fr), (10, .int .i64 i)], []⟩
noncomputable def PBack2 (s : List UInt8) (l : List Lx.Tk) (fr : Int) (i : Int) : Go.Sx.Tr := brT (decide (i < (↑(List.length (List.map Lx.tokC l)) : Int))) (Tr.owe ((0 : Int) ≤ i ∧ (List.map Lx.tokC l)[Int.toNat i]? = some [D.int IntKind.u8 (Prod.fst (List.getD l (Int.toNat i) ((0 : Int), [], (0 : Int)))), D.str (Prod.fst (Prod.snd (List.getD l (Int.toNat i) ((0 : Int), [], (0 : Int))))), D.int IntKind.i64 (Prod.snd (Prod.snd (List.getD l (Int.toNat i) ((0 : Int), [], (0 : Int)))))]) (Tr.owe ((0 : Int) ≤ i ∧ (List.map Lx.tokC l)[Int.toNat i]? = some [D.int IntKind.u8 (Prod.fst (List.getD l (Int.toNat i) ((0 : Int), [], (0 : Int)))), D.str (Prod.fst (Prod.snd (List.getD l (Int.toNat i) ((0 : Int), [], (0 : Int))))), D.int IntKind.i64 (Prod.snd (Prod.snd (List.getD l (Int.toNat i) ((0 : Int), [], (0 : Int)))))]) (Tr.owe ((-9223372036854775808 : Int) ≤ Prod.snd (Prod.snd (List.getD l (Int.toNat i) ((0 : Int), [], (0 : Int)))) + (↑(List.length (Prod.fst (Prod.snd (List.getD l (Int.toNat i) ((0 : Int), [], (0 : Int)))))) : Int) ∧ Prod.snd (Prod.snd (List.getD l (Int.toNat i) ((0 : Int), [], (0 : Int)))) + (↑(List.length (Prod.fst (Prod.snd (List.getD l (Int.toNat i) ((0 : Int), [], (0 : Int)))))) : Int) ≤ (9223372036854775807 : Int)) (Tr.owe ((0 : Int) ≤ i ∧ (List.map Lx.tokC l)[Int.toNat i]? = some [D.int IntKind.u8 (Prod.fst (List.getD l (Int.toNat i) ((0 : Int), [], (0 : Int)))), D.str (Prod.fst (Prod.snd (List.getD l (Int.toNat i) ((0 : Int), [], (0 : Int))))), D.int IntKind.i64 (Prod.snd (Prod.snd (List.getD l (Int.toNat i) ((0 : Int), [], (0 : Int)))))]) (brT (decide (Prod.snd (Prod.snd (List.getD l (Int.toNat i) ((0 : Int), [], (0 : Int)))) < fr)) (Tr.ret (D.bool false) []) (brT (decide ((↑(List.length s) : Int) < Prod.snd (Prod.snd (List.getD l (Int.toNat i) ((0 : Int), [], (0 : Int)))) + (↑(List.length (Prod.fst (Prod.snd (List.getD l (Int.toNat i) ((0 : Int), [], (0 : Int)))))) : Int))) (Tr.ret (D.bool false) []) (Tr.owe ((0 : Int) ≤ i ∧ (List.map Lx.tokC l)[Int.toNat i]? = some [D.int IntKind.u8 (Prod.fst (List.getD l (Int.toNat i) ((0 : Int), [], (0 : Int)))), D.str (Prod.fst (Prod.snd (List.getD l (Int.toNat i) ((0 : Int), [], (0 : Int))))), D.int IntKind.i64 (Prod.snd (Prod.snd (List.getD l (Int.toNat i) ((0 : Int), [], (0 : Int)))))]) (Tr.owe ((0 : Int) ≤ Prod.snd (Prod.snd (List.getD l (Int.toNat i) ((0 : Int), [], (0 : Int)))) ∧ Prod.snd (Prod.snd (List.getD l (Int.toNat i) ((0 : Int), [], (0 : Int)))) ≤ Prod.snd (Prod.snd (List.getD l (Int.toNat i) ((0 : Int), [], (0 : Int)))) + (↑(List.length (Prod.fst (Prod.snd (List.getD l (Int.toNat i) ((0 : Int), [], (0 : Int)))))) : Int) ∧ Prod.snd (Prod.snd (List.getD l (Int.toNat i) ((0 : Int), [], (0 : Int)))) + (↑(List.length (Prod.fst (Prod.snd (List.getD l (Int.toNat i) ((0 : Int), [], (0 : Int)))))) : Int) ≤ (↑(List.length s) : Int)) (Tr.owe ((0 : Int) ≤ i ∧ (List.map Lx.tokC l)[Int.toNat i]? = some [D.int IntKind.u8 (Prod.fst (List.getD l (Int.toNat i) ((0 : Int), [], (0 : Int)))), D.str (Prod.fst (Prod.snd (List.getD l (Int.toNat i) ((0 : Int), [], (0 : Int))))), D.int IntKind.i64 (Prod.snd (Prod.snd (List.getD l (Int.toNat i) ((0 : Int), [], (0 : Int)))))]) (brT (!decide (List.drop (Int.toNat (Prod.snd (Prod.snd (List.getD l (Int.toNat i) ((0 : Int), [], (0 : Int)))))) (List.take (Int.toNat (Prod.snd (Prod.snd (List.getD l (Int.toNat i) ((0 : Int), [], (0 : Int)))) + (↑(List.length (Prod.fst (Prod.snd (List.getD l (Int.toNat i) ((0 : Int), [], (0 : Int)))))) : Int))) s) = Prod.fst (Prod.snd (List.getD l (Int.toNat i) ((0 : Int), [], (0 : Int)))))) (Tr.ret (D.bool false) []) (Tr.owe ((0 : Int) ≤ i ∧ (List.map Lx.tokC l)[Int.toNat i]? = some [D.int IntKind.u8 (Prod.fst (List.getD l (Int.toNat i) ((0 : Int), [], (0 : Int)))), D.str (Prod.fst (Prod.snd (List.getD l (Int.toNat i) ((0 : Int), [], (0 : Int))))), D.int IntKind.i64 (Prod.snd (Prod.snd (List.getD l (Int.toNat i) ((0 : Int), [], (0 : Int)))))]) (Tr.owe ((0 : Int) ≤ fr ∧ fr ≤ Prod.snd (Prod.snd (List.getD l (Int.toNat i) ((0 : Int), [], (0 : Int)))) ∧ Prod.snd (Prod.snd (List.getD l (Int.toNat i) ((0 : Int), [], (0 : Int)))) ≤ (↑(List.length s) : Int)) (Tr.owe (List.length (List.drop (Int.toNat fr) (List.take (Int.toNat (Prod.snd (Prod.snd (List.getD l (Int.toNat i) ((0 : Int), [], (0 : Int)))))) s)) ≤ (4611686018427387904 : Nat)) (brT (!Lx.emptyB false (List.drop (Int.toNat fr) (List.take (Int.toNat (Prod.snd (Prod.snd (List.getD l (Int.toNat i) ((0 : Int), [], (0 : Int)))))) s))) (Tr.ret (D.bool false) []) (Tr.owe ((-9223372036854775808 : Int) ≤ i + (1 : Int) ∧ i + (1 : Int) ≤ (9223372036854775807 : Int)) (Tr.jmp (cut sc4 (0 : Nat)) { tm := [((0 : Nat), D.str s), ((3 : Nat), D.slice (List.map Lx.tokC l) []), ((9 : Nat), D.int IntKind.i64 (Prod.snd (Prod.snd (List.getD l (Int.toNat i) ((0 : Int), [], (0 : Int)))) + (↑(List.length (Prod.fst (Prod.snd (List.getD l (Int.toNat i) ((0 : Int), [], (0 : Int)))))) : Int))), ((10 : Nat), D.int IntKind.i64 (i + (1 : Int)))], ob := [] })))))))))))))))) (Tr.owe ((0 : Int) ≤ fr ∧ fr ≤ (↑(List.length s) : Int) ∧ (↑(List.length s) : Int) ≤ (↑(List.length s) : Int)) (Tr.owe (List.length (List.drop (Int.toNat fr) (List.take (Int.toNat (↑(List.length s) : Int)) s)) ≤ (4611686018427387904 : Nat)) (Tr.ret (D.bool (Lx.emptyB false (List.drop (Int.toNat fr) (List.take (Int.toNat (↑(List.length s) : Int)) s)))) [])))
theorem PBack2_eq (s : List UInt8) (l : List Lx.Tk) (fr : Int) (i : Int) : goT Tryd.prog (ctr lawP qnone fun x n => Lx.tokC (List.getD l (Int.toNat n) default)) (0 : Nat) (finF true (0 : Nat) rs4) (2000 : Nat) (cut sc4 (0 : Nat)) (hdBack s l fr i) = PBack2 s l fr i := by kernel_rfl
theorem back_at (s : List UInt8) (l : List Lx.Tk) (hs : s.length ≤ 4000) (hl : l.length ≤ 4000) : ∀ (m i fr : Nat), l.length - i = m → i ≤ l.length → fr ≤ s.length → Lx.Occ s fr (l.drop i) →
    At Tryd.prog 0 (cut sc4 0) (hdBack s l fr i) (FinQ true 0 rs4 fun r _ => r = .bool true) := by
  intro m
  induction m with
  | zero =>
    intro i fr hm hi hf ho
    refine At.tree (ctr_ok lawP_ok qnone_ok) (PBack2_eq s l fr i) ?_
    unfold PBack2
    rw [List.drop_eq_nil_of_le (by omega)] at ho
    simp only [ok_br, ok_owe, ok_ret, ok_jmp, decide_eq_true_eq, decide_eq_false_iff_not, Int.toNat_natCast, true_and, and_true, Bool.not_eq_true', Bool.not_eq_false', List.drop_zero, List.take_length, D.bool.injEq, D.int.injEq, D.str.injEq, true_implies, Int.le_refl, List.length_map]
    have : (s.drop fr).length ≤ s.length := by rw [List.length_drop]; omega
    exact ⟨fun h => by omega, fun _ => ⟨by omega, by omega, ho⟩⟩
  | succ m ih =>
    intro i fr hm hi hf ho
    have h1 : i < l.length := by omega
    refine At.tree (ctr_ok lawP_ok qnone_ok) (PBack2_eq s l fr i) ?_
    unfold PBack2
    rw [drop_getD (d := (default : Lx.Tk)) h1] at ho
    obtain ⟨n, hn, h2, h3, h4, h5, h6⟩ := ho
    have hg := Lx.tokC_get h1
    have hd : (default : Lx.Tk) = (0, [], 0) := rfl
    rw [hd] at hn h3 h4 h6 hg
    simp only [ok_br, ok_owe, ok_ret, ok_jmp, decide_eq_true_eq, decide_eq_false_iff_not, Int.toNat_natCast, true_and, and_true, Bool.not_eq_true', Bool.not_eq_false', List.drop_zero, List.take_length, D.bool.injEq, D.int.injEq, D.str.injEq, true_implies, Int.le_refl, List.length_map]
    generalize l.getD i (0, [], 0) = t at hn h3 h4 h6 hg ⊢
    have hg' : (l.map Lx.tokC)[i]? = some [D.int .u8 t.1, D.str t.2.1, D.int .i64 t.2.2] := hg
    have e1 : ((n : Int) + (t.2.1.length : Int)).toNat = n + t.2.1.length := by omega
    have e2 : (s.take (n + t.2.1.length)).drop n = t.2.1 := by rw [List.drop_take, Nat.add_sub_cancel_left]; exact h4
    have hi0 : 0 ≤ (i : Int) := by omega
    have e3 : ((s.take n).drop fr).length ≤ 4611686018427387904 := by rw [List.length_drop, List.length_take]; omega
    simp only [ok_br, ok_owe, ok_ret, ok_jmp, decide_eq_true_eq, decide_eq_false_iff_not, Int.toNat_natCast, true_and, and_true, Bool.not_eq_true', Bool.not_eq_false', List.drop_zero, List.take_length, D.bool.injEq, D.int.injEq, D.str.injEq, true_implies, Int.le_refl, hn, hg', e1, e2, h5, hi0, e3]
    refine ⟨fun _ => ⟨by omega, fun h => by omega, fun _ => ⟨fun h => by omega, fun _ => ⟨by omega, fun h => absurd trivial h, by omega, fun h => (by cases h), by omega, ?_⟩⟩⟩, fun h => by omega⟩
    exact ih (i + 1) (n + t.2.1.length) (by omega) (by omega) h3 h6
/-- LexBack RETURNS true. -/
theorem back_ok (s : List UInt8) (hs0 : s.length ≤ 281474976710656) : FnOK Tryd.prog 4 [.str s] (.bool true) := by
  refine FnOK.tree hdraw fp4 (ctr_ok lawP_ok qnone_ok) (PBack_eq s) ?_
  unfold PBack
  simp only [ok_br, ok_owe, ok_ret, ok_jmp, decide_eq_true_eq, decide_eq_false_iff_not, Int.toNat_natCast, true_and, and_true, Bool.not_eq_true', Bool.not_eq_false', List.drop_zero, List.take_length, D.bool.injEq, D.int.injEq, D.str.injEq, true_implies, Int.le_refl, List.length_map, Lx.map_deT]
  refine ⟨fun _ => trivial, fun h1 => ?_⟩
  have hs : s.length ≤ 4000 := by omega
  have es : Lx.lexR s = Lx.ans (Lx.run 0 s) := by rw [Lx.lexR_eq, if_neg (by omega)]
  have ts := Lx.run_toks _ s 0 (Nat.lt_succ_self _)
  have ers := Lx.run_err _ s 0 (Nat.lt_succ_self _)
  have hv := Lx.run_val _ s 0 (Nat.lt_succ_self _)
  have hoc := Lx.run_occ s (s.length + 1) 0 (by omega) (by omega)
  rw [List.drop_zero] at hoc
  rw [es]
  rcases hS : Lx.run 0 s with ⟨l, o, p⟩
  rw [hS] at ts ers hv hoc
  cases o with
  | some x =>
    obtain ⟨x, e⟩ := x
    obtain ⟨he, _, hx, h3⟩ := ers x e rfl
    simp only [Lx.ans, List.length_nil]
    refine ⟨fun _ => ⟨fun _ => ⟨fun _ => ⟨fun _ => ⟨fun _ => trivial, fun h4 => ⟨fun _ => trivial, fun h5 => ?_⟩⟩, fun h => ?_⟩, fun h => ?_⟩, fun h => ?_⟩, fun h => absurd h he⟩
    · rcases h3 with h3 | h3 | h3
      · exact absurd h3 h4
      · exact absurd h3 h5
      · exact h3
    · exact absurd (by omega) h
    · exact absurd (by omega) h
    · exact absurd rfl h
  | none =>
    simp only [Lx.ans]
    have hl : l.length ≤ 4000 := Nat.le_trans ts.1 hs
    have hj := Lx.run_join l hv
    have hlt : ∀ t ∈ l, t.2.1.length ≤ 4000 := fun t ht => by have := ts.2 t ht; omega
    have hjl : (Lib.join (txs l) [32]).length ≤ 32768 := by
      have h1 := Lx.join_le l
      have h2 := Lx.run_lens _ s 0 (Nat.lt_succ_self _)
      rw [hS] at h2
      simp only at h2
      unfold txs
      omega
    have ej : Lx.lexR (Lib.join (txs l) [32]) = Lx.ans (Lx.run 0 (Lib.join (l.map (·.2.1)) [32])) := by rw [Lx.lexR_eq, if_neg (by omega)]; rfl
    rw [ej]
    rcases hJ : Lx.run 0 (Lib.join (l.map (·.2.1)) [32]) with ⟨k, o2, p2⟩
    rw [hJ] at hj
    rw [hJ]
    obtain ⟨hj1, hj2⟩ := hj
    simp only at hj1 hj2
    subst hj1
    simp only [Lx.ans, hj2]
    refine ⟨fun h => (by simp at h), fun _ => ⟨⟨by omega, by omega⟩, fun h => (by simp at h), fun _ => ⟨fun _ => ⟨by omega, fun h => (by cases h), fun _ => ?_⟩, fun h => (by simp at h)⟩⟩⟩
    exact back_at s l hs hl _ 0 0 rfl (by omega) (by omega) (hoc rfl)
end Go.Proofs.YtdkbjkccpnhjgaaDoor
