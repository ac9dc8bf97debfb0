/- TermValues. -/
import Derived.Test.YtbcgpkgdbepfbaaGreatDoorTermE
set_option linter.unusedSectionVars false
set_option linter.unusedVariables false
set_option linter.unusedSimpArgs false
set_option linter.deprecated false
set_option maxRecDepth 100000
namespace Go.Proofs.YtbcgpkgdbepfbaaGreatDoor
open Go.Sx
theorem cmpX_ok (x y : Tm) (e e' : List (List D)) (hx : x.wf 281474976710656) (hy : y.wf 281474976710656) : FnOK Tryz.prog 17 [.agg (cellsE x e), .agg (cellsE y e')] (.int .i64 (x.cmp y)) :=
  FnOK.of_call pureC ((compX_ok x y e e' hx hy).mono fun r ob ⟨h1, h2⟩ => by subst h1; subst h2; exact .inr ⟨rfl, rfl⟩)
noncomputable def PNm (n : Int) : Go.Sx.Tr := Tr.ret (D.agg [D.int IntKind.u8 (1 : Int), D.int IntKind.i64 n, D.str [], D.slice [] []]) []
theorem PNm_eq (n : Int) : goT Tryz.prog (ctr libT) (0 : Nat) (finF true (0 : Nat) rs15) (2000 : Nat) [Fr.sc sc15] { tm := envOf (0 : Nat) [D.int IntKind.i64 n], ob := [] } = PNm n := by kernel_rfl
theorem numT_ok (n : Int) : FnOK Tryz.prog 15 [.int .i64 n] (.agg [.int .u8 1, .int .i64 n, .str [], .slice [] []]) := by
  refine FnOK.tree hdraw fp15 (ctr_ok libT_ok qnone_ok) (PNm_eq n) ?_
  unfold PNm
  simp only [ok_br, ok_owe, ok_ret, ok_jmp, decide_eq_true_eq, decide_eq_false_iff_not, Int.toNat_natCast, true_and, and_true, Bool.not_eq_true', Bool.not_eq_false', List.drop_zero, List.take_length, D.bool.injEq, D.int.injEq, D.str.injEq, true_implies, Int.le_refl]
noncomputable def PSyT (s : List UInt8) : Go.Sx.Tr := Tr.ret (D.agg [D.int IntKind.u8 (2 : Int), D.int IntKind.i64 (0 : Int), D.str s, D.slice [] []]) []
theorem PSyT_eq (s : List UInt8) : goT Tryz.prog (ctr libT) (0 : Nat) (finF true (0 : Nat) rs16) (2000 : Nat) [Fr.sc sc16] { tm := envOf (0 : Nat) [D.str s], ob := [] } = PSyT s := by kernel_rfl
theorem symT_ok (s : List UInt8) : FnOK Tryz.prog 16 [.str s] (.agg [.int .u8 2, .int .i64 0, .str s, .slice [] []]) := by
  refine FnOK.tree hdraw fp16 (ctr_ok libT_ok qnone_ok) (PSyT_eq s) ?_
  unfold PSyT
  simp only [ok_br, ok_owe, ok_ret, ok_jmp, decide_eq_true_eq, decide_eq_false_iff_not, Int.toNat_natCast, true_and, and_true, Bool.not_eq_true', Bool.not_eq_false', List.drop_zero, List.take_length, D.bool.injEq, D.int.injEq, D.str.injEq, true_implies, Int.le_refl]
noncomputable def PFuT (s : List UInt8) (a : List (List D)) (e : List (List D)) : Go.Sx.Tr := Tr.ret (D.agg [D.int IntKind.u8 (4 : Int), D.int IntKind.i64 (0 : Int), D.str s, D.slice a e]) []
theorem PFuT_eq (s : List UInt8) (a : List (List D)) (e : List (List D)) : goT Tryz.prog (ctr libT) (0 : Nat) (finF true (0 : Nat) rs19) (2000 : Nat) [Fr.sc sc19] { tm := envOf (0 : Nat) [D.str s, D.slice a e], ob := [] } = PFuT s a e := by kernel_rfl
theorem funT_ok (s : List UInt8) (a e : List (List D)) : FnOK Tryz.prog 19 [.str s, .slice a e] (.agg [.int .u8 4, .int .i64 0, .str s, .slice a e]) := by
  refine FnOK.tree hdraw fp19 (ctr_ok libT_ok qnone_ok) (PFuT_eq s a e) ?_
  unfold PFuT
  simp only [ok_br, ok_owe, ok_ret, ok_jmp, decide_eq_true_eq, decide_eq_false_iff_not, Int.toNat_natCast, true_and, and_true, Bool.not_eq_true', Bool.not_eq_false', List.drop_zero, List.take_length, D.bool.injEq, D.int.injEq, D.str.injEq, true_implies, Int.le_refl]
noncomputable def PRi (es : List (List D)) : Go.Sx.Tr := Tr.jmp (cut sc18 (0 : Nat)) { tm := [((0 : Nat), D.slice es []), ((3 : Nat), D.int IntKind.i64 (1 : Int))], ob := [] }
theorem PRi_eq (es : List (List D)) : goT Tryz.prog (ctr libT) (0 : Nat) (finF true (0 : Nat) rs18) (2000 : Nat) [Fr.sc sc18] { tm := envOf (0 : Nat) [D.slice es []], ob := [] } = PRi es := by kernel_rfl
def hdRi (es : List (List D)) (i : Int) : St := ⟨[(0, .slice es []), (3, .int .i64 i)], []⟩
noncomputable def PRi2 (es : List (List D)) (i : Int) (kx : Int) (nx : Int) (sx : List UInt8) (ax : List (List D)) (bx : List (List D)) (ky : Int) (ny : Int) (sy : List UInt8) (ay : List (List D)) (yb : List (List D)) (c : Int) : Go.Sx.Tr := brT (decide (i < (↑(List.length es) : Int))) (Tr.owe ((-9223372036854775808 : Int) ≤ i - (1 : Int) ∧ i - (1 : Int) ≤ (9223372036854775807 : Int)) (Tr.owe ((0 : Int) ≤ i - (1 : Int) ∧ es[Int.toNat (i - (1 : Int))]? = some [D.int IntKind.u8 kx, D.int IntKind.i64 nx, D.str sx, D.slice ax bx]) (Tr.owe ((0 : Int) ≤ i ∧ es[Int.toNat i]? = some [D.int IntKind.u8 ky, D.int IntKind.i64 ny, D.str sy, D.slice ay yb]) (Tr.owe (FnOK Tryz.prog (17 : FuncId) [D.agg [D.int IntKind.u8 kx, D.int IntKind.i64 nx, D.str sx, D.slice ax bx], D.agg [D.int IntKind.u8 ky, D.int IntKind.i64 ny, D.str sy, D.slice ay yb]] (D.int IntKind.i64 c)) (brT (!decide (c = (-1 : Int))) (Tr.ret (D.bool false) []) (Tr.owe ((-9223372036854775808 : Int) ≤ i + (1 : Int) ∧ i + (1 : Int) ≤ (9223372036854775807 : Int)) (Tr.jmp (cut sc18 (0 : Nat)) { tm := [((0 : Nat), D.slice es []), ((3 : Nat), D.int IntKind.i64 (i + (1 : Int)))], ob := [] }))))))) (Tr.ret (D.bool true) [])
theorem PRi2_eq (es : List (List D)) (i : Int) (kx : Int) (nx : Int) (sx : List UInt8) (ax : List (List D)) (bx : List (List D)) (ky : Int) (ny : Int) (sy : List UInt8) (ay : List (List D)) (yb : List (List D)) (c : Int) : goT Tryz.prog (ctr (asmP (D.int IntKind.i64 c)) qnone (eTwo (13 : Nat) [D.int IntKind.u8 kx, D.int IntKind.i64 nx, D.str sx, D.slice ax bx] [D.int IntKind.u8 ky, D.int IntKind.i64 ny, D.str sy, D.slice ay yb])) (0 : Nat) (finF true (0 : Nat) rs18) (2000 : Nat) (cut sc18 (0 : Nat)) (hdRi es i) = PRi2 es i kx nx sx ax bx ky ny sy ay yb c := by kernel_rfl
def rowsE (l : List (Tm × List (List D))) : List (List D) := l.map fun p => cellsE p.1 p.2
theorem rowsE_get {l : List (Tm × List (List D))} {i : Nat} (h : i < l.length) : (rowsE l)[i]? = some (cellsE l[i].1 l[i].2) := by simp [rowsE, h]
theorem rises_at (l : List (Tm × List (List D))) (hl : l.length ≤ 1000) (hw : ∀ p ∈ l, p.1.wf 281474976710656) (H : ∀ (i : Nat) (h : i + 1 < l.length), (l[i].1).cmp (l[i + 1].1) = -1) : ∀ (m i : Nat), l.length - i = m → 1 ≤ i →
    At Tryz.prog 0 (cut sc18 0) (hdRi (rowsE l) i) (FinQ true 0 rs18 fun r _ => r = .bool true) := by
  have hrl : (rowsE l).length = l.length := by simp [rowsE]
  intro m
  induction m with
  | zero =>
    intro i hm hi
    refine At.tree (ctr_ok (asmP_ok (.int .i64 0)) qnone_ok) (PRi2_eq (rowsE l) i 0 0 [] [] [] 0 0 [] [] [] 0) ?_
    unfold PRi2
    simp only [ok_br, ok_owe, ok_ret, ok_jmp, decide_eq_true_eq, decide_eq_false_iff_not, Int.toNat_natCast, true_and, and_true, Bool.not_eq_true', Bool.not_eq_false', List.drop_zero, List.take_length, D.bool.injEq, D.int.injEq, D.str.injEq, true_implies, Int.le_refl, hrl]
    exact ⟨fun h => by omega, fun _ => trivial⟩
  | succ m ih =>
    intro i hm hi
    obtain ⟨j, rfl⟩ : ∃ j, i = j + 1 := ⟨i - 1, by omega⟩
    have h1 : j + 1 < l.length := by omega
    have hx := rowsE_get (l := l) (i := j) (by omega)
    have hy := rowsE_get h1
    have hC := cmpX_ok l[j].1 l[j + 1].1 l[j].2 l[j + 1].2 (hw _ (List.getElem_mem _)) (hw _ (List.getElem_mem _))
    rw [H j h1] at hC
    have hI := ih (j + 1 + 1) (by omega) (by omega)
    generalize l[j].1 = x at hx hC
    generalize l[j].2 = u at hx hC
    generalize l[j + 1].1 = y at hy hC
    generalize l[j + 1].2 = v at hy hC
    obtain ⟨kx, nx, sx, ax⟩ := x
    obtain ⟨ky, ny, sy, ay⟩ := y
    refine At.tree (ctr_ok (asmP_ok (.int .i64 (-1))) qnone_ok) (PRi2_eq (rowsE l) ((j + 1 : Nat) : Int) kx nx sx (Tm.cellsL ax) u ky ny sy (Tm.cellsL ay) v (-1)) ?_
    unfold PRi2
    have e1 : (((j + 1 : Nat) : Int) - 1).toNat = j := by omega
    simp only [ok_br, ok_owe, ok_ret, ok_jmp, decide_eq_true_eq, decide_eq_false_iff_not, Int.toNat_natCast, true_and, and_true, Bool.not_eq_true', Bool.not_eq_false', List.drop_zero, List.take_length, D.bool.injEq, D.int.injEq, D.str.injEq, true_implies, Int.le_refl, hrl, e1]
    exact ⟨fun _ => ⟨by omega, ⟨by omega, hx⟩, ⟨by omega, hy⟩, hC, fun h => absurd trivial h, by omega, hI⟩, fun h => by omega⟩
theorem rises_ok (l : List (Tm × List (List D))) (hl : l.length ≤ 1000) (hw : ∀ p ∈ l, p.1.wf 281474976710656) (H : ∀ (i : Nat) (h : i + 1 < l.length), (l[i].1).cmp (l[i + 1].1) = -1) : FnOK Tryz.prog 18 [.slice (rowsE l) []] (.bool true) :=
  FnOK.tree hdraw fp18 (ctr_ok libT_ok qnone_ok) (PRi_eq (rowsE l)) (rises_at l hl hw H _ 1 rfl (Nat.le_refl _))
end Go.Proofs.YtbcgpkgdbepfbaaGreatDoor
