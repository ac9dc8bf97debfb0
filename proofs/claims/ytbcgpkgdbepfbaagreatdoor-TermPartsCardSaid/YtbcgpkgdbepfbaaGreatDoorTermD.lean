/- Equality, sizes. -/
import Derived.Test.YtbcgpkgdbepfbaaGreatDoorTermC
import Derived.Test.YtbcgpkgdbepfbaaGreatDoorAwakeT
set_option linter.unusedSectionVars false
set_option linter.unusedVariables false
set_option linter.unusedSimpArgs false
set_option linter.deprecated false
set_option maxRecDepth 100000
namespace Go.Proofs.YtbcgpkgdbepfbaaGreatDoor
open Go.Sx
noncomputable def PRE (k : Int) (n : Int) (s : List UInt8) (a : List (List D)) (k' : Int) (n' : Int) (s' : List UInt8) (a' : List (List D)) : Go.Sx.Tr := brT (!decide (k = k')) (Tr.ret (D.bool false) []) (brT (!decide (n = n')) (Tr.ret (D.bool false) []) (brT (!decide (s = s')) (Tr.ret (D.bool false) []) (brT (!decide ((↑(List.length a) : Int) = (↑(List.length a') : Int))) (Tr.ret (D.bool false) []) (Tr.jmp (cut sc60 (0 : Nat)) { tm := [((2 : Nat), D.ptr (0 : Nat) (0 : Nat)), ((3 : Nat), D.ptr (1 : Nat) (0 : Nat)), ((5 : Nat), D.int IntKind.i64 (0 : Int))], ob := [((0 : Nat), Ob.cells [D.int IntKind.u8 k, D.int IntKind.i64 n, D.str s, D.slice a []]), ((1 : Nat), Ob.cells [D.int IntKind.u8 k', D.int IntKind.i64 n', D.str s', D.slice a' []])] }))))
theorem PRE_eq (k : Int) (n : Int) (s : List UInt8) (a : List (List D)) (k' : Int) (n' : Int) (s' : List UInt8) (a' : List (List D)) : goT Tryz.prog (ctr libT) (0 : Nat) (finF true (0 : Nat) rs60) (2000 : Nat) [Fr.sc sc60] { tm := envOf (0 : Nat) [D.agg [D.int IntKind.u8 k, D.int IntKind.i64 n, D.str s, D.slice a []], D.agg [D.int IntKind.u8 k', D.int IntKind.i64 n', D.str s', D.slice a' []]], ob := [] } = PRE k n s a k' n' s' a' := by kernel_rfl
def hdRE (k n : Int) (s : List UInt8) (a : List (List D)) (k' n' : Int) (s' : List UInt8) (a' : List (List D)) (i : Int) : St := ⟨[(2, .ptr 0 0), (3, .ptr 1 0), (5, .int .i64 i)], [(0, .cells [.int .u8 k, .int .i64 n, .str s, .slice a []]), (1, .cells [.int .u8 k', .int .i64 n', .str s', .slice a' []])]⟩
noncomputable def PRE2 (k : Int) (n : Int) (s : List UInt8) (a : List (List D)) (k' : Int) (n' : Int) (s' : List UInt8) (a' : List (List D)) (i : Int) (kx : Int) (nx : Int) (sx : List UInt8) (ax : List (List D)) (ky : Int) (ny : Int) (sy : List UInt8) (ay : List (List D)) (c : Bool) : Go.Sx.Tr := brT (decide (i < (↑(List.length a) : Int))) (Tr.owe ((0 : Int) ≤ i ∧ a[Int.toNat i]? = some [D.int IntKind.u8 kx, D.int IntKind.i64 nx, D.str sx, D.slice ax []]) (Tr.owe ((0 : Int) ≤ i ∧ a'[Int.toNat i]? = some [D.int IntKind.u8 ky, D.int IntKind.i64 ny, D.str sy, D.slice ay []]) (Tr.owe (FnOK Tryz.prog (60 : FuncId) [D.agg [D.int IntKind.u8 kx, D.int IntKind.i64 nx, D.str sx, D.slice ax []], D.agg [D.int IntKind.u8 ky, D.int IntKind.i64 ny, D.str sy, D.slice ay []]] (D.bool c)) (brT (!c) (Tr.ret (D.bool false) []) (Tr.owe ((-9223372036854775808 : Int) ≤ i + (1 : Int) ∧ i + (1 : Int) ≤ (9223372036854775807 : Int)) (Tr.jmp (cut sc60 (0 : Nat)) { tm := [((2 : Nat), D.ptr (0 : Nat) (0 : Nat)), ((3 : Nat), D.ptr (1 : Nat) (0 : Nat)), ((5 : Nat), D.int IntKind.i64 (i + (1 : Int)))], ob := [((0 : Nat), Ob.cells [D.int IntKind.u8 k, D.int IntKind.i64 n, D.str s, D.slice a []]), ((1 : Nat), Ob.cells [D.int IntKind.u8 k', D.int IntKind.i64 n', D.str s', D.slice a' []])] })))))) (Tr.ret (D.bool true) [])
theorem PRE2_eq (k : Int) (n : Int) (s : List UInt8) (a : List (List D)) (k' : Int) (n' : Int) (s' : List UInt8) (a' : List (List D)) (i : Int) (kx : Int) (nx : Int) (sx : List UInt8) (ax : List (List D)) (ky : Int) (ny : Int) (sy : List UInt8) (ay : List (List D)) (c : Bool) : goT Tryz.prog (ctr (asmP (D.bool c)) qnone (eTwo (44 : Nat) [D.int IntKind.u8 kx, D.int IntKind.i64 nx, D.str sx, D.slice ax []] [D.int IntKind.u8 ky, D.int IntKind.i64 ny, D.str sy, D.slice ay []])) (0 : Nat) (finF true (0 : Nat) rs60) (2000 : Nat) (cut sc60 (0 : Nat)) (hdRE k n s a k' n' s' a' i) = PRE2 k n s a k' n' s' a' i kx nx sx ax ky ny sy ay c := by kernel_rfl
noncomputable def PSS (a : List (List D)) (a' : List (List D)) : Go.Sx.Tr := brT (!decide ((↑(List.length a) : Int) = (↑(List.length a') : Int))) (Tr.ret (D.bool false) []) (Tr.jmp (cut sc61 (0 : Nat)) { tm := [((0 : Nat), D.slice a []), ((1 : Nat), D.slice a' []), ((5 : Nat), D.int IntKind.i64 (0 : Int))], ob := [] })
theorem PSS_eq (a : List (List D)) (a' : List (List D)) : goT Tryz.prog (ctr libT) (0 : Nat) (finF true (0 : Nat) rs61) (2000 : Nat) [Fr.sc sc61] { tm := envOf (0 : Nat) [D.slice a [], D.slice a' []], ob := [] } = PSS a a' := by kernel_rfl
def hdSS (a a' : List (List D)) (i : Int) : St := ⟨[(0, .slice a []), (1, .slice a' []), (5, .int .i64 i)], []⟩
noncomputable def PSS2 (a : List (List D)) (a' : List (List D)) (i : Int) (kx : Int) (nx : Int) (sx : List UInt8) (ax : List (List D)) (ky : Int) (ny : Int) (sy : List UInt8) (ay : List (List D)) (c : Bool) : Go.Sx.Tr := brT (decide (i < (↑(List.length a) : Int))) (Tr.owe ((0 : Int) ≤ i ∧ a[Int.toNat i]? = some [D.int IntKind.u8 kx, D.int IntKind.i64 nx, D.str sx, D.slice ax []]) (Tr.owe ((0 : Int) ≤ i ∧ a'[Int.toNat i]? = some [D.int IntKind.u8 ky, D.int IntKind.i64 ny, D.str sy, D.slice ay []]) (Tr.owe (FnOK Tryz.prog (30 : FuncId) [D.agg [D.int IntKind.u8 kx, D.int IntKind.i64 nx, D.str sx, D.slice ax []], D.agg [D.int IntKind.u8 ky, D.int IntKind.i64 ny, D.str sy, D.slice ay []]] (D.bool c)) (brT (!c) (Tr.ret (D.bool false) []) (Tr.owe ((-9223372036854775808 : Int) ≤ i + (1 : Int) ∧ i + (1 : Int) ≤ (9223372036854775807 : Int)) (Tr.jmp (cut sc61 (0 : Nat)) { tm := [((0 : Nat), D.slice a []), ((1 : Nat), D.slice a' []), ((5 : Nat), D.int IntKind.i64 (i + (1 : Int)))], ob := [] })))))) (Tr.ret (D.bool true) [])
theorem PSS2_eq (a : List (List D)) (a' : List (List D)) (i : Int) (kx : Int) (nx : Int) (sx : List UInt8) (ax : List (List D)) (ky : Int) (ny : Int) (sy : List UInt8) (ay : List (List D)) (c : Bool) : goT Tryz.prog (ctr (asmP (D.bool c)) qnone (eTwo (19 : Nat) [D.int IntKind.u8 kx, D.int IntKind.i64 nx, D.str sx, D.slice ax []] [D.int IntKind.u8 ky, D.int IntKind.i64 ny, D.str sy, D.slice ay []])) (0 : Nat) (finF true (0 : Nat) rs61) (2000 : Nat) (cut sc61 (0 : Nat)) (hdSS a a' i) = PSS2 a a' i kx nx sx ax ky ny sy ay c := by kernel_rfl
noncomputable def PST (k : Int) (n : Int) (s : List UInt8) (a : List (List D)) (k' : Int) (n' : Int) (s' : List UInt8) (a' : List (List D)) (c : Bool) : Go.Sx.Tr := brT (decide (k = k')) (brT (decide (n = n')) (brT (decide (s = s')) (Tr.owe (FnOK Tryz.prog (61 : FuncId) [D.slice a [], D.slice a' []] (D.bool c)) (Tr.ret (D.bool c) [])) (Tr.ret (D.bool false) [])) (Tr.ret (D.bool false) [])) (Tr.ret (D.bool false) [])
theorem PST_eq (k : Int) (n : Int) (s : List UInt8) (a : List (List D)) (k' : Int) (n' : Int) (s' : List UInt8) (a' : List (List D)) (c : Bool) : goT Tryz.prog (ctr (asmP (D.bool c))) (0 : Nat) (finF true (0 : Nat) rs30) (2000 : Nat) [Fr.sc sc30] { tm := envOf (0 : Nat) [D.agg [D.int IntKind.u8 k, D.int IntKind.i64 n, D.str s, D.slice a []], D.agg [D.int IntKind.u8 k', D.int IntKind.i64 n', D.str s', D.slice a' []]], ob := [] } = PST k n s a k' n' s' a' c := by kernel_rfl
noncomputable def PSz (k : Int) (n : Int) (s : List UInt8) (a : List (List D)) (m : Int) (c : Int) : Go.Sx.Tr := Tr.owe ((-9223372036854775808 : Int) ≤ m - (1 : Int) ∧ m - (1 : Int) ≤ (9223372036854775807 : Int)) (Tr.owe (FnOK Tryz.prog (45 : FuncId) [D.slice a [], D.int IntKind.i64 (m - (1 : Int))] (D.int IntKind.i64 c)) (Tr.owe ((-9223372036854775808 : Int) ≤ (1 : Int) + c ∧ (1 : Int) + c ≤ (9223372036854775807 : Int)) (Tr.ret (D.int IntKind.i64 ((1 : Int) + c)) [])))
theorem PSz_eq (k : Int) (n : Int) (s : List UInt8) (a : List (List D)) (m : Int) (c : Int) : goT Tryz.prog (ctr (asmP (D.int IntKind.i64 c))) (0 : Nat) (finF true (0 : Nat) rs27) (2000 : Nat) [Fr.sc sc27] { tm := envOf (0 : Nat) [D.agg [D.int IntKind.u8 k, D.int IntKind.i64 n, D.str s, D.slice a []], D.int IntKind.i64 m], ob := [] } = PSz k n s a m c := by kernel_rfl
noncomputable def PSzs (a : List (List D)) (m : Int) : Go.Sx.Tr := Tr.jmp (cut sc45 (0 : Nat)) { tm := [((0 : Nat), D.slice a []), ((1 : Nat), D.int IntKind.i64 m), ((5 : Nat), D.int IntKind.i64 (0 : Int)), ((6 : Nat), D.int IntKind.i64 (0 : Int))], ob := [] }
theorem PSzs_eq (a : List (List D)) (m : Int) : goT Tryz.prog (ctr libT) (0 : Nat) (finF true (0 : Nat) rs45) (2000 : Nat) [Fr.sc sc45] { tm := envOf (0 : Nat) [D.slice a [], D.int IntKind.i64 m], ob := [] } = PSzs a m := by kernel_rfl
def hdSz (a : List (List D)) (m n i : Int) : St := ⟨[(0, .slice a []), (1, .int .i64 m), (5, .int .i64 n), (6, .int .i64 i)], []⟩
noncomputable def PSzs2 (a : List (List D)) (m : Int) (n : Int) (i : Int) (kx : Int) (nx : Int) (sx : List UInt8) (ax : List (List D)) (c : Int) : Go.Sx.Tr := brT (decide (i < (↑(List.length a) : Int))) (brT (decide (n ≤ m)) (Tr.owe ((0 : Int) ≤ i ∧ a[Int.toNat i]? = some [D.int IntKind.u8 kx, D.int IntKind.i64 nx, D.str sx, D.slice ax []]) (Tr.owe ((-9223372036854775808 : Int) ≤ m - n ∧ m - n ≤ (9223372036854775807 : Int)) (Tr.owe (FnOK Tryz.prog (27 : FuncId) [D.agg [D.int IntKind.u8 kx, D.int IntKind.i64 nx, D.str sx, D.slice ax []], D.int IntKind.i64 (m - n)] (D.int IntKind.i64 c)) (Tr.owe ((-9223372036854775808 : Int) ≤ n + c ∧ n + c ≤ (9223372036854775807 : Int)) (Tr.owe ((-9223372036854775808 : Int) ≤ i + (1 : Int) ∧ i + (1 : Int) ≤ (9223372036854775807 : Int)) (Tr.jmp (cut sc45 (0 : Nat)) { tm := [((0 : Nat), D.slice a []), ((1 : Nat), D.int IntKind.i64 m), ((5 : Nat), D.int IntKind.i64 (n + c)), ((6 : Nat), D.int IntKind.i64 (i + (1 : Int)))], ob := [] })))))) (Tr.ret (D.int IntKind.i64 n) [])) (Tr.ret (D.int IntKind.i64 n) [])
theorem PSzs2_eq (a : List (List D)) (m : Int) (n : Int) (i : Int) (kx : Int) (nx : Int) (sx : List UInt8) (ax : List (List D)) (c : Int) : goT Tryz.prog (ctr (asmP (D.int IntKind.i64 c)) qnone (eOne [D.int IntKind.u8 kx, D.int IntKind.i64 nx, D.str sx, D.slice ax []])) (0 : Nat) (finF true (0 : Nat) rs45) (2000 : Nat) (cut sc45 (0 : Nat)) (hdSz a m n i) = PSzs2 a m n i kx nx sx ax c := by kernel_rfl
noncomputable def PEq (k : Int) (n : Int) (s : List UInt8) (a : List (List D)) (k' : Int) (n' : Int) (s' : List UInt8) (a' : List (List D)) (c : Int) : Go.Sx.Tr := Tr.owe (FnOK Tryz.prog (17 : FuncId) [D.agg [D.int IntKind.u8 k, D.int IntKind.i64 n, D.str s, D.slice a []], D.agg [D.int IntKind.u8 k', D.int IntKind.i64 n', D.str s', D.slice a' []]] (D.int IntKind.i64 c)) (Tr.ret (D.bool (decide (c = (0 : Int)))) [])
theorem PEq_eq (k : Int) (n : Int) (s : List UInt8) (a : List (List D)) (k' : Int) (n' : Int) (s' : List UInt8) (a' : List (List D)) (c : Int) : goT Tryz.prog (ctr (asmP (D.int IntKind.i64 c))) (0 : Nat) (finF true (0 : Nat) rs29) (2000 : Nat) [Fr.sc sc29] { tm := envOf (0 : Nat) [D.agg [D.int IntKind.u8 k, D.int IntKind.i64 n, D.str s, D.slice a []], D.agg [D.int IntKind.u8 k', D.int IntKind.i64 n', D.str s', D.slice a' []]], ob := [] } = PEq k n s a k' n' s' a' c := by kernel_rfl
/-- Equal by the reference model, the same by the kit. -/
def ReP (x y : Tm) : Prop := FnOK Tryz.prog 60 [.agg x.cells, .agg y.cells] (.bool (x.eqb y))
def SaP (x y : Tm) : Prop := FnOK Tryz.prog 30 [.agg x.cells, .agg y.cells] (.bool (x.eqb y))
theorem re_at (k : Nat) (n : Int) (s : List UInt8) (k' : Nat) (n' : Int) (s' : List UInt8) (l q : List Tm) (hlq : l.length = q.length) (hl : l.length ≤ 281474976710656) (H : ∀ x ∈ l, ∀ y ∈ q, ReP x y) : ∀ (m i : Nat), l.length - i = m → i ≤ l.length →
    At Tryz.prog 0 (cut sc60 0) (hdRE k n s (Tm.cellsL l) k' n' s' (Tm.cellsL q) i) (FinQ true 0 rs60 fun r _ => r = .bool (Tm.eqbL (l.drop i) (q.drop i))) := by
  intro m
  induction m with
  | zero =>
    intro i hm hi
    refine At.tree (ctr_ok (asmP_ok (.bool true)) qnone_ok) (PRE2_eq k n s (Tm.cellsL l) k' n' s' (Tm.cellsL q) i 0 0 [] [] 0 0 [] [] true) ?_
    unfold PRE2
    rw [List.drop_eq_nil_of_le (show l.length ≤ i by omega), List.drop_eq_nil_of_le (show q.length ≤ i by omega)]
    simp only [ok_br, ok_owe, ok_ret, ok_jmp, decide_eq_true_eq, decide_eq_false_iff_not, Int.toNat_natCast, true_and, and_true, Bool.not_eq_true', Bool.not_eq_false', List.drop_zero, List.take_length, D.bool.injEq, D.int.injEq, D.str.injEq, true_implies, Int.le_refl, cellsL_length]
    exact ⟨fun h => by omega, fun _ => rfl⟩
  | succ m ih =>
    intro i hm hi
    have h1 : i < l.length := by omega
    have h2 : i < q.length := by omega
    have hx := cellsL_get h1
    have hy := cellsL_get h2
    have hC := H _ (List.getElem_mem h1) _ (List.getElem_mem h2)
    have hI := ih (i + 1) (by omega) (by omega)
    rw [drop_cons h1, drop_cons h2]
    simp only [Tm.eqbL]
    unfold ReP at hC
    generalize Tm.eqb l[i] q[i] = c at hC ⊢
    generalize l[i] = x at hx hC
    generalize q[i] = y at hy hC
    obtain ⟨kx, nx, sx, ax⟩ := x
    obtain ⟨ky, ny, sy, ay⟩ := y
    refine At.tree (ctr_ok (asmP_ok (.bool c)) qnone_ok) (PRE2_eq k n s (Tm.cellsL l) k' n' s' (Tm.cellsL q) i kx nx sx (Tm.cellsL ax) ky ny sy (Tm.cellsL ay) c) ?_
    unfold PRE2
    simp only [ok_br, ok_owe, ok_ret, ok_jmp, decide_eq_true_eq, decide_eq_false_iff_not, Int.toNat_natCast, true_and, and_true, Bool.not_eq_true', Bool.not_eq_false', List.drop_zero, List.take_length, D.bool.injEq, D.int.injEq, D.str.injEq, true_implies, Int.le_refl, cellsL_length]
    refine ⟨fun _ => ⟨⟨by omega, hx⟩, ⟨by omega, hy⟩, hC, fun h => by rw [h]; rfl, fun h => ⟨by omega, ?_⟩⟩, fun h => by omega⟩
    rw [h, Bool.true_and]; exact hI
theorem ss_at (l q : List Tm) (hlq : l.length = q.length) (hl : l.length ≤ 281474976710656) (H : ∀ x ∈ l, ∀ y ∈ q, SaP x y) : ∀ (m i : Nat), l.length - i = m → i ≤ l.length →
    At Tryz.prog 0 (cut sc61 0) (hdSS (Tm.cellsL l) (Tm.cellsL q) i) (FinQ true 0 rs61 fun r _ => r = .bool (Tm.eqbL (l.drop i) (q.drop i))) := by
  intro m
  induction m with
  | zero =>
    intro i hm hi
    refine At.tree (ctr_ok (asmP_ok (.bool true)) qnone_ok) (PSS2_eq (Tm.cellsL l) (Tm.cellsL q) i 0 0 [] [] 0 0 [] [] true) ?_
    unfold PSS2
    rw [List.drop_eq_nil_of_le (show l.length ≤ i by omega), List.drop_eq_nil_of_le (show q.length ≤ i by omega)]
    simp only [ok_br, ok_owe, ok_ret, ok_jmp, decide_eq_true_eq, decide_eq_false_iff_not, Int.toNat_natCast, true_and, and_true, Bool.not_eq_true', Bool.not_eq_false', List.drop_zero, List.take_length, D.bool.injEq, D.int.injEq, D.str.injEq, true_implies, Int.le_refl, cellsL_length]
    exact ⟨fun h => by omega, fun _ => rfl⟩
  | succ m ih =>
    intro i hm hi
    have h1 : i < l.length := by omega
    have h2 : i < q.length := by omega
    have hx := cellsL_get h1
    have hy := cellsL_get h2
    have hC := H _ (List.getElem_mem h1) _ (List.getElem_mem h2)
    have hI := ih (i + 1) (by omega) (by omega)
    rw [drop_cons h1, drop_cons h2]
    simp only [Tm.eqbL]
    unfold SaP at hC
    generalize Tm.eqb l[i] q[i] = c at hC ⊢
    generalize l[i] = x at hx hC
    generalize q[i] = y at hy hC
    obtain ⟨kx, nx, sx, ax⟩ := x
    obtain ⟨ky, ny, sy, ay⟩ := y
    refine At.tree (ctr_ok (asmP_ok (.bool c)) qnone_ok) (PSS2_eq (Tm.cellsL l) (Tm.cellsL q) i kx nx sx (Tm.cellsL ax) ky ny sy (Tm.cellsL ay) c) ?_
    unfold PSS2
    simp only [ok_br, ok_owe, ok_ret, ok_jmp, decide_eq_true_eq, decide_eq_false_iff_not, Int.toNat_natCast, true_and, and_true, Bool.not_eq_true', Bool.not_eq_false', List.drop_zero, List.take_length, D.bool.injEq, D.int.injEq, D.str.injEq, true_implies, Int.le_refl, cellsL_length]
    refine ⟨fun _ => ⟨⟨by omega, hx⟩, ⟨by omega, hy⟩, hC, fun h => by rw [h]; rfl, fun h => ⟨by omega, ?_⟩⟩, fun h => by omega⟩
    rw [h, Bool.true_and]; exact hI

theorem eqbL_ne : ∀ {l q : List Tm}, l.length ≠ q.length → Tm.eqbL l q = false := fun {l q} h => by
  rw [Bool.eq_false_iff]
  intro h2
  exact h (by rw [eqbL_eq.1 h2])
theorem re_ok : ∀ (x y : Tm), x.wf 281474976710656 → y.wf 281474976710656 → ReP x y
  | .mk k n s l, .mk k' n' s' l', hx, hy => by
    simp only [Tm.wf] at hx hy
    obtain ⟨hk, hn1, hn2, hs, hl, hw⟩ := hx
    obtain ⟨hk', hn1', hn2', hs', hl', hw'⟩ := hy
    have hC := fun hlq => re_at k n s k' n' s' l l' hlq hl (fun x hx y hy => re_ok x y (wf_get hw hx) (wf_get hw' hy)) _ 0 rfl (Nat.zero_le _)
    refine FnOK.tree hdraw fp60 (ctr_ok libT_ok qnone_ok) (PRE_eq k n s (Tm.cellsL l) k' n' s' (Tm.cellsL l')) ?_
    unfold PRE
    have e1 : ((k : Int) = k') = (k = k') := propext (by omega)
    have e2 : ((l.length : Int) = l'.length) = (l.length = l'.length) := propext (by omega)
    simp only [ok_br, ok_owe, ok_ret, ok_jmp, decide_eq_true_eq, decide_eq_false_iff_not, Int.toNat_natCast, true_and, and_true, Bool.not_eq_true', Bool.not_eq_false', List.drop_zero, List.take_length, D.bool.injEq, D.int.injEq, D.str.injEq, true_implies, Int.le_refl, cellsL_length, Tm.eqb, e1, e2]
    refine ⟨fun h => by simp [h], fun h => ⟨fun h2 => by simp [h2], fun h2 => ⟨fun h3 => by simp [h3], fun h3 => ⟨fun h4 => by simp [eqbL_ne h4], fun h4 => ?_⟩⟩⟩⟩
    have e3 : (decide (k = k') && decide (n = n') && decide (s = s') && Tm.eqbL l l') = Tm.eqbL l l' := by simp [h, h2, h3]
    rw [e3]; exact hC h4
termination_by x => SizeOf.sizeOf x
decreasing_by
  have := List.sizeOf_lt_of_mem hx
  simp only [Tm.mk.sizeOf_spec]
  omega
theorem ss_ok (l q : List Tm) (hl : l.length ≤ 281474976710656) (H : ∀ x ∈ l, ∀ y ∈ q, SaP x y) : FnOK Tryz.prog 61 [.slice (Tm.cellsL l) [], .slice (Tm.cellsL q) []] (.bool (Tm.eqbL l q)) := by
  refine FnOK.tree hdraw fp61 (ctr_ok libT_ok qnone_ok) (PSS_eq (Tm.cellsL l) (Tm.cellsL q)) ?_
  unfold PSS
  have e2 : ((l.length : Int) = q.length) = (l.length = q.length) := propext (by omega)
  simp only [ok_br, ok_owe, ok_ret, ok_jmp, decide_eq_true_eq, decide_eq_false_iff_not, Int.toNat_natCast, true_and, and_true, Bool.not_eq_true', Bool.not_eq_false', List.drop_zero, List.take_length, D.bool.injEq, D.int.injEq, D.str.injEq, true_implies, Int.le_refl, cellsL_length, e2]
  exact ⟨fun h4 => by rw [eqbL_ne h4], fun h4 => ss_at l q h4 hl H _ 0 rfl (Nat.zero_le _)⟩
theorem sa_ok : ∀ (x y : Tm), x.wf 281474976710656 → y.wf 281474976710656 → SaP x y
  | .mk k n s l, .mk k' n' s' l', hx, hy => by
    simp only [Tm.wf] at hx hy
    obtain ⟨hk, hn1, hn2, hs, hl, hw⟩ := hx
    obtain ⟨hk', hn1', hn2', hs', hl', hw'⟩ := hy
    have hC := ss_ok l l' hl (fun x hx y hy => sa_ok x y (wf_get hw hx) (wf_get hw' hy))
    refine FnOK.tree hdraw fp30 (ctr_ok (asmP_ok (.bool (Tm.eqbL l l'))) qnone_ok) (PST_eq k n s (Tm.cellsL l) k' n' s' (Tm.cellsL l') (Tm.eqbL l l')) ?_
    unfold PST
    have e1 : ((k : Int) = k') = (k = k') := propext (by omega)
    simp only [ok_br, ok_owe, ok_ret, ok_jmp, decide_eq_true_eq, decide_eq_false_iff_not, Int.toNat_natCast, true_and, and_true, Bool.not_eq_true', Bool.not_eq_false', List.drop_zero, List.take_length, D.bool.injEq, D.int.injEq, D.str.injEq, true_implies, Int.le_refl, cellsL_length, Tm.eqb, e1]
    exact ⟨fun h => ⟨fun h2 => ⟨fun h3 => ⟨hC, by simp [h, h2, h3]⟩, fun h3 => by simp [h3]⟩, fun h2 => by simp [h2]⟩, fun h => by simp [h]⟩
termination_by x => SizeOf.sizeOf x
decreasing_by
  have := List.sizeOf_lt_of_mem hx
  simp only [Tm.mk.sizeOf_spec]
  omega
/-- Sizes. -/
def SzP (x : Tm) : Prop := ∀ m : Int, 0 ≤ m → m ≤ 1000000 → FnOK Tryz.prog 27 [.agg x.cells, .int .i64 m] (.int .i64 (x.sz m))
theorem szs_at (l : List Tm) (hl : l.length ≤ 281474976710656) (H : ∀ x ∈ l, SzP x) (M : Int) (hM : -1 ≤ M ∧ M ≤ 1000000) : ∀ (m i : Nat) (n : Int), l.length - i = m → i ≤ l.length → 0 ≤ n → n ≤ M + 1 →
    At Tryz.prog 0 (cut sc45 0) (hdSz (Tm.cellsL l) M n i) (FinQ true 0 rs45 fun r _ => r = .int .i64 (Tm.szL (l.drop i) M n)) := by
  intro m
  induction m with
  | zero =>
    intro i n hm hi hn hn2
    refine At.tree (ctr_ok (asmP_ok (.int .i64 0)) qnone_ok) (PSzs2_eq (Tm.cellsL l) M n i 0 0 [] [] 0) ?_
    unfold PSzs2
    rw [List.drop_eq_nil_of_le (show l.length ≤ i by omega)]
    simp only [ok_br, ok_owe, ok_ret, ok_jmp, decide_eq_true_eq, decide_eq_false_iff_not, Int.toNat_natCast, true_and, and_true, Bool.not_eq_true', Bool.not_eq_false', List.drop_zero, List.take_length, D.bool.injEq, D.int.injEq, D.str.injEq, true_implies, Int.le_refl, cellsL_length]
    exact ⟨fun h => by omega, fun _ => rfl⟩
  | succ m ih =>
    intro i n hm hi hn hn2
    have h1 : i < l.length := by omega
    have hx := cellsL_get h1
    have hC := H _ (List.getElem_mem h1)
    rw [drop_cons h1]
    simp only [Tm.szL]
    by_cases hnm : n ≤ M
    · rw [if_pos hnm]
      have hC2 := hC (M - n) (by omega) (by omega)
      have hge := sz_ge l[i] (M - n)
      have hle := sz_le l[i] (M - n) (by omega)
      have hI := ih (i + 1) (n + Tm.sz l[i] (M - n)) (by omega) (by omega) (by omega) (by omega)
      generalize Tm.sz l[i] (M - n) = c at hC2 hI hge hle ⊢
      generalize l[i] = x at hx hC2
      obtain ⟨kx, nx, sx, ax⟩ := x
      refine At.tree (ctr_ok (asmP_ok (.int .i64 c)) qnone_ok) (PSzs2_eq (Tm.cellsL l) M n i kx nx sx (Tm.cellsL ax) c) ?_
      unfold PSzs2
      simp only [ok_br, ok_owe, ok_ret, ok_jmp, decide_eq_true_eq, decide_eq_false_iff_not, Int.toNat_natCast, true_and, and_true, Bool.not_eq_true', Bool.not_eq_false', List.drop_zero, List.take_length, D.bool.injEq, D.int.injEq, D.str.injEq, true_implies, Int.le_refl, cellsL_length]
      exact ⟨fun _ => ⟨fun _ => ⟨⟨by omega, hx⟩, by omega, hC2, by omega, by omega, hI⟩, fun h => by omega⟩, fun h => by omega⟩
    · rw [if_neg hnm]
      refine At.tree (ctr_ok (asmP_ok (.int .i64 0)) qnone_ok) (PSzs2_eq (Tm.cellsL l) M n i 0 0 [] [] 0) ?_
      unfold PSzs2
      simp only [ok_br, ok_owe, ok_ret, ok_jmp, decide_eq_true_eq, decide_eq_false_iff_not, Int.toNat_natCast, true_and, and_true, Bool.not_eq_true', Bool.not_eq_false', List.drop_zero, List.take_length, D.bool.injEq, D.int.injEq, D.str.injEq, true_implies, Int.le_refl, cellsL_length]
      exact ⟨fun _ => ⟨fun h => by omega, fun _ => trivial⟩, fun h => by omega⟩
theorem szs_ok (l : List Tm) (hl : l.length ≤ 281474976710656) (H : ∀ x ∈ l, SzP x) (M : Int) (hM : -1 ≤ M ∧ M ≤ 1000000) : FnOK Tryz.prog 45 [.slice (Tm.cellsL l) [], .int .i64 M] (.int .i64 (Tm.szL l M 0)) :=
  FnOK.tree hdraw fp45 (ctr_ok libT_ok qnone_ok) (PSzs_eq (Tm.cellsL l) M) (szs_at l hl H M hM _ 0 0 rfl (Nat.zero_le _) (by omega) (by omega))
theorem sz_ok : ∀ (x : Tm), x.wf 281474976710656 → SzP x
  | .mk k n s l, hx => by
    simp only [Tm.wf] at hx
    obtain ⟨hk, hn1, hn2, hs, hl, hw⟩ := hx
    intro m h0 h1
    have hC := szs_ok l hl (fun x hx => sz_ok x (wf_get hw hx)) (m - 1) (by omega)
    have hge := szL_ge l (m - 1) 0
    have hle := szL_le l (m - 1) 0 (by omega)
    refine FnOK.tree hdraw fp27 (ctr_ok (asmP_ok (.int .i64 (Tm.szL l (m - 1) 0))) qnone_ok) (PSz_eq k n s (Tm.cellsL l) m (Tm.szL l (m - 1) 0)) ?_
    unfold PSz
    simp only [ok_br, ok_owe, ok_ret, ok_jmp, decide_eq_true_eq, decide_eq_false_iff_not, Int.toNat_natCast, true_and, and_true, Bool.not_eq_true', Bool.not_eq_false', List.drop_zero, List.take_length, D.bool.injEq, D.int.injEq, D.str.injEq, true_implies, Int.le_refl]
    exact ⟨by omega, hC, by omega, rfl⟩
termination_by x => SizeOf.sizeOf x
decreasing_by
  have := List.sizeOf_lt_of_mem hx
  simp only [Tm.mk.sizeOf_spec]
  omega
theorem pureC : pureF Tryz.prog 17 = true := by kernel_rfl
/-- term.Compare, called by name. -/
theorem cmp_ok (x y : Tm) (hx : x.wf 281474976710656) (hy : y.wf 281474976710656) : FnOK Tryz.prog 17 [.agg x.cells, .agg y.cells] (.int .i64 (x.cmp y)) :=
  FnOK.of_call pureC ((compC_ok x y hx hy).mono fun r ob ⟨h1, h2⟩ => by subst h1; subst h2; exact .inr ⟨rfl, rfl⟩)
theorem equal_ok (x y : Tm) (hx : x.wf 281474976710656) (hy : y.wf 281474976710656) : FnOK Tryz.prog 29 [.agg x.cells, .agg y.cells] (.bool (x.eqb y)) := by
  have hC := cmp_ok x y hx hy
  rw [eqb_cmp]
  generalize x.cmp y = c at hC ⊢
  obtain ⟨k, n, s, l⟩ := x
  obtain ⟨k', n', s', l'⟩ := y
  refine FnOK.tree hdraw fp29 (ctr_ok (asmP_ok (.int .i64 c)) qnone_ok) (PEq_eq k n s (Tm.cellsL l) k' n' s' (Tm.cellsL l') c) ?_
  unfold PEq
  simp only [ok_br, ok_owe, ok_ret, ok_jmp, decide_eq_true_eq, decide_eq_false_iff_not, Int.toNat_natCast, true_and, and_true, Bool.not_eq_true', Bool.not_eq_false', List.drop_zero, List.take_length, D.bool.injEq, D.int.injEq, D.str.injEq, true_implies, Int.le_refl]
  exact hC
/-- Pure calls, their results by their places, their contracts owed. -/
def sCtr (l : List (Nat × D)) : Ctr := ⟨fun t f az => match lk l t with | some r => some (.ok (FnOK Tryz.prog f az r) r []) | none => none, fun _ => qnone, noE⟩
theorem sCtr_ok (l : List (Nat × D)) : (sCtr l).OK Tryz.prog := by
  refine ⟨fun t f az rt h => ?_, fun _ => qnone_ok⟩
  simp only [sCtr] at h
  split at h
  · cases h; exact fun hp => hp
  · cases h
noncomputable def PTwo (k : Int) (n : Int) (s : List UInt8) (a : List (List D)) (k' : Int) (n' : Int) (s' : List UInt8) (a' : List (List D)) (c : Int) (d : Int) (e : Bool) : Go.Sx.Tr := Tr.owe (FnOK Tryz.prog (17 : FuncId) [D.agg [D.int IntKind.u8 k, D.int IntKind.i64 n, D.str s, D.slice a []], D.agg [D.int IntKind.u8 k', D.int IntKind.i64 n', D.str s', D.slice a' []]] (D.int IntKind.i64 c)) (Tr.owe (FnOK Tryz.prog (59 : FuncId) [D.agg [D.int IntKind.u8 k, D.int IntKind.i64 n, D.str s, D.slice a []], D.agg [D.int IntKind.u8 k', D.int IntKind.i64 n', D.str s', D.slice a' []]] (D.int IntKind.i64 c)) (brT (decide (c = c)) (Tr.owe (FnOK Tryz.prog (17 : FuncId) [D.agg [D.int IntKind.u8 k', D.int IntKind.i64 n', D.str s', D.slice a' []], D.agg [D.int IntKind.u8 k, D.int IntKind.i64 n, D.str s, D.slice a []]] (D.int IntKind.i64 d)) (Tr.owe (FnOK Tryz.prog (59 : FuncId) [D.agg [D.int IntKind.u8 k', D.int IntKind.i64 n', D.str s', D.slice a' []], D.agg [D.int IntKind.u8 k, D.int IntKind.i64 n, D.str s, D.slice a []]] (D.int IntKind.i64 d)) (brT (decide (d = d)) (Tr.owe (FnOK Tryz.prog (29 : FuncId) [D.agg [D.int IntKind.u8 k, D.int IntKind.i64 n, D.str s, D.slice a []], D.agg [D.int IntKind.u8 k', D.int IntKind.i64 n', D.str s', D.slice a' []]] (D.bool e)) (Tr.owe (FnOK Tryz.prog (60 : FuncId) [D.agg [D.int IntKind.u8 k, D.int IntKind.i64 n, D.str s, D.slice a []], D.agg [D.int IntKind.u8 k', D.int IntKind.i64 n', D.str s', D.slice a' []]] (D.bool e)) (Tr.ret (D.bool (e == e)) []))) (Tr.ret (D.bool false) [])))) (Tr.ret (D.bool false) [])))
theorem PTwo_eq (k : Int) (n : Int) (s : List UInt8) (a : List (List D)) (k' : Int) (n' : Int) (s' : List UInt8) (a' : List (List D)) (c : Int) (d : Int) (e : Bool) : goT Tryz.prog (sCtr [((7 : Nat), D.int IntKind.i64 c), ((10 : Nat), D.int IntKind.i64 c), ((15 : Nat), D.int IntKind.i64 d), ((18 : Nat), D.int IntKind.i64 d), ((24 : Nat), D.bool e), ((27 : Nat), D.bool e)]) (0 : Nat) (finF true (0 : Nat) rs28) (2000 : Nat) [Fr.sc sc28] { tm := envOf (0 : Nat) [D.agg [D.int IntKind.u8 k, D.int IntKind.i64 n, D.str s, D.slice a []], D.agg [D.int IntKind.u8 k', D.int IntKind.i64 n', D.str s', D.slice a' []]], ob := [] } = PTwo k n s a k' n' s' a' c d e := by kernel_rfl
noncomputable def PTC (k : Int) (n : Int) (s : List UInt8) (a : List (List D)) (k' : Int) (n' : Int) (s' : List UInt8) (a' : List (List D)) (c : Int) (d : Int) : Go.Sx.Tr := Tr.owe (FnOK Tryz.prog (27 : FuncId) [D.agg [D.int IntKind.u8 k, D.int IntKind.i64 n, D.str s, D.slice a []], D.int IntKind.i64 (300 : Int)] (D.int IntKind.i64 c)) (brT (decide ((300 : Int) < c)) (Tr.owe (FnOK Tryz.prog (9 : FuncId) [] (D.bool true)) (Tr.ret (D.bool true) [])) (Tr.owe (FnOK Tryz.prog (27 : FuncId) [D.agg [D.int IntKind.u8 k', D.int IntKind.i64 n', D.str s', D.slice a' []], D.int IntKind.i64 (300 : Int)] (D.int IntKind.i64 d)) (brT (decide ((300 : Int) < d)) (Tr.owe (FnOK Tryz.prog (9 : FuncId) [] (D.bool true)) (Tr.ret (D.bool true) [])) (Tr.owe (FnOK Tryz.prog (28 : FuncId) [D.agg [D.int IntKind.u8 k, D.int IntKind.i64 n, D.str s, D.slice a []], D.agg [D.int IntKind.u8 k', D.int IntKind.i64 n', D.str s', D.slice a' []]] (D.bool true)) (Tr.owe (FnOK Tryz.prog (28 : FuncId) [D.agg [D.int IntKind.u8 k, D.int IntKind.i64 n, D.str s, D.slice a []], D.agg [D.int IntKind.u8 k, D.int IntKind.i64 n, D.str s, D.slice a []]] (D.bool true)) (Tr.owe (FnOK Tryz.prog (9 : FuncId) [] (D.bool true)) (Tr.ret (D.bool true) [])))))))
theorem PTC_eq (k : Int) (n : Int) (s : List UInt8) (a : List (List D)) (k' : Int) (n' : Int) (s' : List UInt8) (a' : List (List D)) (c : Int) (d : Int) : goT Tryz.prog (sCtr [((6 : Nat), D.int IntKind.i64 c), ((10 : Nat), D.int IntKind.i64 d), ((13 : Nat), D.bool true), ((16 : Nat), D.bool true), ((20 : Nat), D.bool true), ((23 : Nat), D.bool true)]) (0 : Nat) (finF true (0 : Nat) rs6) (2000 : Nat) [Fr.sc sc6] { tm := envOf (0 : Nat) [D.agg [D.int IntKind.u8 k, D.int IntKind.i64 n, D.str s, D.slice a []], D.agg [D.int IntKind.u8 k', D.int IntKind.i64 n', D.str s', D.slice a' []]], ob := [] } = PTC k n s a k' n' s' a' c d := by kernel_rfl
theorem two_ok (x y : Tm) (hx : x.wf 281474976710656) (hy : y.wf 281474976710656) (fx : x.few 1000) (fy : y.few 1000) : FnOK Tryz.prog 28 [.agg x.cells, .agg y.cells] (.bool true) := by
  have h1 := cmp_ok x y hx hy
  have h2 := rc_ok x y hx hy fx fy
  have h3 := cmp_ok y x hy hx
  have h4 := rc_ok y x hy hx fy fx
  have h5 := equal_ok x y hx hy
  have h6 := re_ok x y hx hy
  unfold RcP at h2 h4
  unfold ReP at h6
  generalize x.cmp y = c at *
  generalize y.cmp x = d at *
  generalize x.eqb y = e at *
  obtain ⟨k, n, s, l⟩ := x
  obtain ⟨k', n', s', l'⟩ := y
  refine FnOK.tree hdraw fp28 (sCtr_ok _) (PTwo_eq k n s (Tm.cellsL l) k' n' s' (Tm.cellsL l') c d e) ?_
  unfold PTwo
  simp only [ok_br, ok_owe, ok_ret, ok_jmp, decide_eq_true_eq, decide_eq_false_iff_not, Int.toNat_natCast, true_and, and_true, Bool.not_eq_true', Bool.not_eq_false', List.drop_zero, List.take_length, D.bool.injEq, D.int.injEq, D.str.injEq, true_implies, Int.le_refl]
  exact ⟨h1, h2, ⟨h3, h4, ⟨h5, h6, by simp⟩, fun h => absurd trivial h⟩, fun h => absurd trivial h⟩
/-- TermCompares RETURNS true. -/
theorem compares_ok (x y : Tm) (hx : x.wf 281474976710656) (hy : y.wf 281474976710656) : FnOK Tryz.prog 6 [.agg x.cells, .agg y.cells] (.bool true) := by
  have h1 := sz_ok x hx 300 (by omega) (by omega)
  have h2 := sz_ok y hy 300 (by omega) (by omega)
  have f1 := sz_few (N := 1000) x 300 (by omega)
  have f2 := sz_few (N := 1000) y 300 (by omega)
  have t1 := two_ok x y hx hy
  have t2 := two_ok x x hx hx
  generalize x.sz 300 = c at *
  generalize y.sz 300 = d at *
  generalize x.few 1000 = F at *
  generalize y.few 1000 = G at *
  obtain ⟨k, n, s, l⟩ := x
  obtain ⟨k', n', s', l'⟩ := y
  refine FnOK.tree hdraw fp6 (sCtr_ok _) (PTC_eq k n s (Tm.cellsL l) k' n' s' (Tm.cellsL l') c d) ?_
  unfold PTC
  simp only [ok_br, ok_owe, ok_ret, ok_jmp, decide_eq_true_eq, decide_eq_false_iff_not, Int.toNat_natCast, true_and, and_true, Bool.not_eq_true', Bool.not_eq_false', List.drop_zero, List.take_length, D.bool.injEq, D.int.injEq, D.str.injEq, true_implies, Int.le_refl]
  refine ⟨h1, fun _ => awake_ok, fun hc => ⟨h2, fun _ => awake_ok, fun hd => ?_⟩⟩
  have g1 := f1 (by omega)
  have g2 := f2 (by omega)
  exact ⟨t1 g1 g2, t2 g1 g1, awake_ok⟩
end Go.Proofs.YtbcgpkgdbepfbaaGreatDoor
