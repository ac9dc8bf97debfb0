/- TermOrder. -/
import Derived.Test.YtbcgpkgdbepfbaaGreatDoorTermD
import Derived.Test.YtbcgpkgdbepfbaaGreatDoorSx7
set_option linter.unusedSectionVars false
set_option linter.unusedVariables false
set_option linter.unusedSimpArgs false
set_option linter.deprecated false
set_option maxRecDepth 100000
namespace Go.Proofs.YtbcgpkgdbepfbaaGreatDoor
open Go.Sx
noncomputable def PSm (a : List (List D)) (c : Int) : Go.Sx.Tr := Tr.owe (FnOK Tryz.prog (45 : FuncId) [D.slice a [], D.int IntKind.i64 (300 : Int)] (D.int IntKind.i64 c)) (Tr.ret (D.bool (decide (c ≤ (300 : Int)))) [])
theorem PSm_eq (a : List (List D)) (c : Int) : goT Tryz.prog (sCtr [((4 : Nat), D.int IntKind.i64 c)]) (0 : Nat) (finF true (0 : Nat) rs14) (2000 : Nat) [Fr.sc sc14] { tm := envOf (0 : Nat) [D.slice a []], ob := [] } = PSm a c := by kernel_rfl
theorem small_ok (l : List Tm) (hl : l.length ≤ 281474976710656) (hw : Tm.wfL 281474976710656 l) : FnOK Tryz.prog 14 [.slice (Tm.cellsL l) []] (.bool (decide (Tm.szL l 300 0 ≤ 300))) := by
  have h := szs_ok l hl (fun x hx => sz_ok x (wf_get hw hx)) 300 (by omega)
  refine FnOK.tree hdraw fp14 (sCtr_ok _) (PSm_eq (Tm.cellsL l) (Tm.szL l 300 0)) ?_
  unfold PSm
  simp only [ok_br, ok_owe, ok_ret, ok_jmp, decide_eq_true_eq, decide_eq_false_iff_not, Int.toNat_natCast, true_and, and_true, Bool.not_eq_true', Bool.not_eq_false', List.drop_zero, List.take_length, D.bool.injEq, D.int.injEq, D.str.injEq, true_implies, Int.le_refl]
  exact h
noncomputable def PSg (n : Int) : Go.Sx.Tr := Tr.ret (D.int IntKind.i64 (if true = true then if (if false = true then if (1 : Int) > n then (1 : Int) else n else if (1 : Int) < n then (1 : Int) else n) > (-1 : Int) then if false = true then if (1 : Int) > n then (1 : Int) else n else if (1 : Int) < n then (1 : Int) else n else (-1 : Int) else if (if false = true then if (1 : Int) > n then (1 : Int) else n else if (1 : Int) < n then (1 : Int) else n) < (-1 : Int) then if false = true then if (1 : Int) > n then (1 : Int) else n else if (1 : Int) < n then (1 : Int) else n else (-1 : Int))) []
theorem PSg_eq (n : Int) : goT Tryz.prog (ctr libT) (0 : Nat) (finF true (0 : Nat) rs20) (2000 : Nat) [Fr.sc sc20] { tm := envOf (0 : Nat) [D.int IntKind.i64 n], ob := [] } = PSg n := by kernel_rfl
theorem sign_ok (n : Int) : FnOK Tryz.prog 20 [.int .i64 n] (.int .i64 (ncmp n 0)) := by
  refine FnOK.tree hdraw fp20 (ctr_ok libT_ok qnone_ok) (PSg_eq n) ?_
  unfold PSg ncmp
  simp only [ok_br, ok_owe, ok_ret, ok_jmp, decide_eq_true_eq, decide_eq_false_iff_not, Int.toNat_natCast, true_and, and_true, Bool.not_eq_true', Bool.not_eq_false', List.drop_zero, List.take_length, D.bool.injEq, D.int.injEq, D.str.injEq, true_implies, Int.le_refl]
  simp only [if_true, Bool.false_eq_true, if_false]
  repeat' split
  all_goals omega
noncomputable def PTO (k : Int) (n : Int) (s : List UInt8) (a : List (List D)) (k' : Int) (n' : Int) (s' : List UInt8) (a' : List (List D)) (k2 : Int) (n2 : Int) (s2 : List UInt8) (a2 : List (List D)) (sm : Bool) (x : Int) (y : Int) (z : Int) (e : Bool) : Go.Sx.Tr := Tr.owe (FnOK Tryz.prog (9 : FuncId) [] (D.bool true)) (Tr.owe (FnOK Tryz.prog (14 : FuncId) [D.slice [[D.int IntKind.u8 k, D.int IntKind.i64 n, D.str s, D.slice a []], [D.int IntKind.u8 k', D.int IntKind.i64 n', D.str s', D.slice a' []], [D.int IntKind.u8 k2, D.int IntKind.i64 n2, D.str s2, D.slice a2 []]] []] (D.bool sm)) (brT (!sm) (Tr.ret (D.bool true) []) (Tr.owe (FnOK Tryz.prog (17 : FuncId) [D.agg [D.int IntKind.u8 k, D.int IntKind.i64 n, D.str s, D.slice a []], D.agg [D.int IntKind.u8 k', D.int IntKind.i64 n', D.str s', D.slice a' []]] (D.int IntKind.i64 x)) (Tr.owe (FnOK Tryz.prog (17 : FuncId) [D.agg [D.int IntKind.u8 k', D.int IntKind.i64 n', D.str s', D.slice a' []], D.agg [D.int IntKind.u8 k2, D.int IntKind.i64 n2, D.str s2, D.slice a2 []]] (D.int IntKind.i64 y)) (Tr.owe (FnOK Tryz.prog (17 : FuncId) [D.agg [D.int IntKind.u8 k, D.int IntKind.i64 n, D.str s, D.slice a []], D.agg [D.int IntKind.u8 k2, D.int IntKind.i64 n2, D.str s2, D.slice a2 []]] (D.int IntKind.i64 z)) (Tr.owe (FnOK Tryz.prog (20 : FuncId) [D.int IntKind.i64 x] (D.int IntKind.i64 x)) (brT (!decide (x = x)) (Tr.ret (D.bool false) []) (Tr.owe (FnOK Tryz.prog (17 : FuncId) [D.agg [D.int IntKind.u8 k', D.int IntKind.i64 n', D.str s', D.slice a' []], D.agg [D.int IntKind.u8 k, D.int IntKind.i64 n, D.str s, D.slice a []]] (D.int IntKind.i64 (-x))) (Tr.owe ((-9223372036854775808 : Int) ≤ (0 : Int) - x ∧ (0 : Int) - x ≤ (9223372036854775807 : Int)) (brT (!decide (-x = (0 : Int) - x)) (Tr.ret (D.bool false) []) (Tr.owe (FnOK Tryz.prog (17 : FuncId) [D.agg [D.int IntKind.u8 k, D.int IntKind.i64 n, D.str s, D.slice a []], D.agg [D.int IntKind.u8 k, D.int IntKind.i64 n, D.str s, D.slice a []]] (D.int IntKind.i64 (0 : Int))) (Tr.owe (FnOK Tryz.prog (29 : FuncId) [D.agg [D.int IntKind.u8 k, D.int IntKind.i64 n, D.str s, D.slice a []], D.agg [D.int IntKind.u8 k', D.int IntKind.i64 n', D.str s', D.slice a' []]] (D.bool e)) (brT (!decide (x = (0 : Int)) == e) (Tr.ret (D.bool false) []) (Tr.owe (FnOK Tryz.prog (29 : FuncId) [D.agg [D.int IntKind.u8 k, D.int IntKind.i64 n, D.str s, D.slice a []], D.agg [D.int IntKind.u8 k', D.int IntKind.i64 n', D.str s', D.slice a' []]] (D.bool e)) (Tr.owe (FnOK Tryz.prog (30 : FuncId) [D.agg [D.int IntKind.u8 k, D.int IntKind.i64 n, D.str s, D.slice a []], D.agg [D.int IntKind.u8 k', D.int IntKind.i64 n', D.str s', D.slice a' []]] (D.bool e)) (brT (!e == e) (Tr.ret (D.bool false) []) (brT (decide (x ≤ (0 : Int))) (brT (!decide (y ≤ (0 : Int))) (Tr.ret (D.bool true) []) (brT (decide (z ≤ (0 : Int))) (brT (decide (z < (0 : Int))) (Tr.ret (D.bool true) []) (brT (decide (x = (0 : Int))) (Tr.ret (D.bool (decide (y = (0 : Int)))) []) (Tr.ret (D.bool false) []))) (Tr.ret (D.bool false) []))) (Tr.ret (D.bool true) []))))))))))))))))))
theorem PTO_eq (k : Int) (n : Int) (s : List UInt8) (a : List (List D)) (k' : Int) (n' : Int) (s' : List UInt8) (a' : List (List D)) (k2 : Int) (n2 : Int) (s2 : List UInt8) (a2 : List (List D)) (sm : Bool) (x : Int) (y : Int) (z : Int) (e : Bool) : goT Tryz.prog (sCtr [((10 : Nat), D.bool true), ((16 : Nat), D.bool sm), ((20 : Nat), D.int IntKind.i64 x), ((23 : Nat), D.int IntKind.i64 y), ((26 : Nat), D.int IntKind.i64 z), ((29 : Nat), D.int IntKind.i64 x), ((34 : Nat), D.int IntKind.i64 (-x)), ((42 : Nat), D.int IntKind.i64 (0 : Int)), ((50 : Nat), D.bool e), ((56 : Nat), D.bool e), ((59 : Nat), D.bool e)]) (0 : Nat) (finF true (0 : Nat) rs7) (2000 : Nat) [Fr.sc sc7] { tm := envOf (0 : Nat) [D.agg [D.int IntKind.u8 k, D.int IntKind.i64 n, D.str s, D.slice a []], D.agg [D.int IntKind.u8 k', D.int IntKind.i64 n', D.str s', D.slice a' []], D.agg [D.int IntKind.u8 k2, D.int IntKind.i64 n2, D.str s2, D.slice a2 []]], ob := [] } = PTO k n s a k' n' s' a' k2 n2 s2 a2 sm x y z e := by kernel_rfl
/-- TermOrder RETURNS true. -/
theorem order_ok (a b c : Tm) (ha : a.wf 281474976710656) (hb : b.wf 281474976710656) (hc : c.wf 281474976710656) : FnOK Tryz.prog 7 [.agg a.cells, .agg b.cells, .agg c.cells] (.bool true) := by
  have hsm := small_ok [a, b, c] (by simp) ⟨ha, hb, hc, trivial⟩
  have h1 := cmp_ok a b ha hb
  have h2 := cmp_ok b c hb hc
  have h3 := cmp_ok a c ha hc
  have h4 := cmp_ok b a hb ha
  have h5 := cmp_ok a a ha ha
  have h6 := equal_ok a b ha hb
  have h7 := sa_ok a b ha hb
  have ht := tri_cmp a b c
  have hr := cmp_range a b
  have hg := sign_ok (a.cmp b)
  have hg2 : ncmp (a.cmp b) 0 = a.cmp b := by unfold ncmp; rcases hr with h | h | h <;> rw [h] <;> rfl
  rw [hg2] at hg
  rw [cmp_neg a b] at h4
  rw [cmp_self] at h5
  rw [eqb_cmp] at h6
  unfold SaP at h7
  rw [eqb_cmp] at h7
  simp only [Tm.cellsL] at hsm
  generalize decide (Tm.szL [a, b, c] 300 0 ≤ 300) = sm at hsm
  generalize a.cmp b = x at *
  generalize b.cmp c = y at *
  generalize a.cmp c = z at *
  obtain ⟨k, n, s, l⟩ := a
  obtain ⟨k', n', s', l'⟩ := b
  obtain ⟨k2, n2, s2, l2⟩ := c
  refine FnOK.tree hdraw fp7 (sCtr_ok _) (PTO_eq k n s (Tm.cellsL l) k' n' s' (Tm.cellsL l') k2 n2 s2 (Tm.cellsL l2) sm x y z (decide (x = 0))) ?_
  unfold PTO
  simp only [ok_br, ok_owe, ok_ret]
  obtain ⟨t1, t2, t3⟩ := ht
  refine ⟨awake_ok, hsm, fun _ => trivial, fun _ => ⟨h1, h2, h3, hg, fun h => by simp at h, fun _ => ⟨h4, by omega, fun h => ?_, fun _ => ⟨h5, h6, fun h => ?_, fun _ => ⟨h6, h7, fun h => ?_, fun _ => ⟨fun hx => ⟨fun _ => trivial, fun hy => ?_⟩, fun _ => trivial⟩⟩⟩⟩⟩⟩
  · simp at h
  · cases hd : decide (x = 0) <;> rw [hd] at h <;> simp at h
  · cases hd : decide (x = 0) <;> rw [hd] at h <;> simp at h
  · simp only [decide_eq_true_eq, Bool.not_eq_false', decide_eq_false_iff_not] at hx hy ⊢
    have t1' := t1 hx hy
    refine ⟨fun _ => ⟨fun _ => trivial, fun hz => ⟨fun hx0 => ?_, fun hx0 => ?_⟩⟩, fun hz => absurd t1' hz⟩
    · rw [decide_eq_true (t2 hx hy (by omega)).2]
    · exact absurd (t2 hx hy (by omega)).1 hx0
end Go.Proofs.YtbcgpkgdbepfbaaGreatDoor
