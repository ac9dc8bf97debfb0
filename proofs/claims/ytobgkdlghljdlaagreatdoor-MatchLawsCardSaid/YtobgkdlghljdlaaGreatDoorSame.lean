/- The same by the kit. -/
import Derived.Test.YtobgkdlghljdlaaGreatDoorCmD
set_option linter.unusedSectionVars false
set_option linter.unusedVariables false
set_option linter.unusedSimpArgs false
set_option linter.deprecated false
set_option maxRecDepth 100000
namespace Go.Proofs.YtobgkdlghljdlaaGreatDoor
open Go.Sx
noncomputable def PSS (a : List (List D)) (a' : List (List D)) : Tr := brT (!decide ((↑(List.length a) : Int) = (↑(List.length a') : Int))) (Tr.ret (D.bool false) []) (Tr.jmp (cut sc50 0) { tm := [(0, D.slice a []), (1, D.slice a' []), (5, D.int .i64 (0 : Int))], ob := [] })
theorem PSS_eq (a : List (List D)) (a' : List (List D)) : goT Tryz.prog (ctr libT) 0 (finF true 0 rs50) 2000 [Fr.sc sc50] { tm := envOf 0 [D.slice a [], D.slice a' []], ob := [] } = PSS a a' := by kernel_rfl
def hdSS (a a' : List (List D)) (i : Int) : St := ⟨[(0, .slice a []), (1, .slice a' []), (5, .int .i64 i)], []⟩
noncomputable def PSS2 (a : List (List D)) (a' : List (List D)) (i : Int) (kx : Int) (nx : Int) (sx : List UInt8) (ax : List (List D)) (ky : Int) (ny : Int) (sy : List UInt8) (ay : List (List D)) (c : Bool) : Tr := brT (decide (i < (↑(List.length a) : Int))) (Tr.owe ((0 : Int) ≤ i ∧ a[Int.toNat i]? = some [D.int .u8 kx, D.int .i64 nx, D.str sx, D.slice ax []]) (Tr.owe ((0 : Int) ≤ i ∧ a'[Int.toNat i]? = some [D.int .u8 ky, D.int .i64 ny, D.str sy, D.slice ay []]) (Tr.owe (FnOK Tryz.prog 24 [D.agg [D.int .u8 kx, D.int .i64 nx, D.str sx, D.slice ax []], D.agg [D.int .u8 ky, D.int .i64 ny, D.str sy, D.slice ay []]] (D.bool c)) (brT (!c) (Tr.ret (D.bool false) []) (Tr.owe ((-9223372036854775808 : Int) ≤ i + (1 : Int) ∧ i + (1 : Int) ≤ (9223372036854775807 : Int)) (Tr.jmp (cut sc50 0) { tm := [(0, D.slice a []), (1, D.slice a' []), (5, D.int .i64 (i + (1 : Int)))], ob := [] })))))) (Tr.ret (D.bool true) [])
theorem PSS2_eq (a : List (List D)) (a' : List (List D)) (i : Int) (kx : Int) (nx : Int) (sx : List UInt8) (ax : List (List D)) (ky : Int) (ny : Int) (sy : List UInt8) (ay : List (List D)) (c : Bool) : goT Tryz.prog (ctr (asmP (D.bool c)) qnone (eTwo 19 [D.int .u8 kx, D.int .i64 nx, D.str sx, D.slice ax []] [D.int .u8 ky, D.int .i64 ny, D.str sy, D.slice ay []])) 0 (finF true 0 rs50) 2000 (cut sc50 0) (hdSS a a' i) = PSS2 a a' i kx nx sx ax ky ny sy ay c := by kernel_rfl
noncomputable def PST (k : Int) (n : Int) (s : List UInt8) (a : List (List D)) (k' : Int) (n' : Int) (s' : List UInt8) (a' : List (List D)) (c : Bool) : Tr := brT (decide (k = k')) (brT (decide (n = n')) (brT (decide (s = s')) (Tr.owe (FnOK Tryz.prog 50 [D.slice a [], D.slice a' []] (D.bool c)) (Tr.ret (D.bool c) [])) (Tr.ret (D.bool false) [])) (Tr.ret (D.bool false) [])) (Tr.ret (D.bool false) [])
theorem PST_eq (k : Int) (n : Int) (s : List UInt8) (a : List (List D)) (k' : Int) (n' : Int) (s' : List UInt8) (a' : List (List D)) (c : Bool) : goT Tryz.prog (ctr (asmP (D.bool c))) 0 (finF true 0 rs24) 2000 [Fr.sc sc24] { tm := envOf 0 [D.agg [D.int .u8 k, D.int .i64 n, D.str s, D.slice a []], D.agg [D.int .u8 k', D.int .i64 n', D.str s', D.slice a' []]], ob := [] } = PST k n s a k' n' s' a' c := by kernel_rfl
def SaP (x y : Tm) : Prop := FnOK Tryz.prog 24 [.agg x.cells, .agg y.cells] (.bool (x.eqb y))
theorem ss_at (l q : List Tm) (hlq : l.length = q.length) (hl : l.length ≤ 281474976710656) (H : ∀ x ∈ l, ∀ y ∈ q, SaP x y) : ∀ (m i : Nat), l.length - i = m → i ≤ l.length →
    At Tryz.prog 0 (cut sc50 0) (hdSS (Tm.cellsL l) (Tm.cellsL q) i) (FinQ true 0 rs50 fun r _ => r = .bool (Tm.eqbL (l.drop i) (q.drop i))) := by
  intro m
  induction m with
  | zero =>
    intro i hm hi
    refine At.tree (ctr_ok (asmP_ok (.bool true)) qnone_ok) (PSS2_eq (Tm.cellsL l) (Tm.cellsL q) i 0 0 [] [] 0 0 [] [] true) ?_
    unfold PSS2
    rw [List.drop_eq_nil_of_le (show l.length ≤ i by omega), List.drop_eq_nil_of_le (show q.length ≤ i by omega)]
    simp only [ok_br, ok_owe, ok_ret, ok_jmp, decide_eq_true_eq, decide_eq_false_iff_not, Int.toNat_natCast, true_and, and_true, Bool.not_eq_true', Bool.not_eq_false', List.drop_zero, List.take_length, D.bool.injEq, D.int.injEq, D.str.injEq, true_implies, Int.le_refl, cellsL_length]
    exact ⟨fun h => by omega, fun _ => rfl⟩
  | succ m ih =>
    intro i hm hi
    have h1 : i < l.length := by omega
    have h2 : i < q.length := by omega
    have hx := cellsL_get h1
    have hy := cellsL_get h2
    have hC := H _ (List.getElem_mem h1) _ (List.getElem_mem h2)
    have hI := ih (i + 1) (by omega) (by omega)
    rw [drop_cons h1, drop_cons h2]
    simp only [Tm.eqbL]
    unfold SaP at hC
    generalize Tm.eqb l[i] q[i] = c at hC ⊢
    generalize l[i] = x at hx hC
    generalize q[i] = y at hy hC
    obtain ⟨kx, nx, sx, ax⟩ := x
    obtain ⟨ky, ny, sy, ay⟩ := y
    refine At.tree (ctr_ok (asmP_ok (.bool c)) qnone_ok) (PSS2_eq (Tm.cellsL l) (Tm.cellsL q) i kx nx sx (Tm.cellsL ax) ky ny sy (Tm.cellsL ay) c) ?_
    unfold PSS2
    simp only [ok_br, ok_owe, ok_ret, ok_jmp, decide_eq_true_eq, decide_eq_false_iff_not, Int.toNat_natCast, true_and, and_true, Bool.not_eq_true', Bool.not_eq_false', List.drop_zero, List.take_length, D.bool.injEq, D.int.injEq, D.str.injEq, true_implies, Int.le_refl, cellsL_length]
    refine ⟨fun _ => ⟨⟨by omega, hx⟩, ⟨by omega, hy⟩, hC, fun h => by rw [h]; rfl, fun h => ⟨by omega, ?_⟩⟩, fun h => by omega⟩
    rw [h, Bool.true_and]; exact hI

theorem eqbL_ne : ∀ {l q : List Tm}, l.length ≠ q.length → Tm.eqbL l q = false := fun {l q} h => by
  rw [Bool.eq_false_iff]
  intro h2
  exact h (by rw [eqbL_eq.1 h2])
theorem ss_ok (l q : List Tm) (hl : l.length ≤ 281474976710656) (H : ∀ x ∈ l, ∀ y ∈ q, SaP x y) : FnOK Tryz.prog 50 [.slice (Tm.cellsL l) [], .slice (Tm.cellsL q) []] (.bool (Tm.eqbL l q)) := by
  refine FnOK.tree hdraw fp50 (ctr_ok libT_ok qnone_ok) (PSS_eq (Tm.cellsL l) (Tm.cellsL q)) ?_
  unfold PSS
  have e2 : ((l.length : Int) = q.length) = (l.length = q.length) := propext (by omega)
  simp only [ok_br, ok_owe, ok_ret, ok_jmp, decide_eq_true_eq, decide_eq_false_iff_not, Int.toNat_natCast, true_and, and_true, Bool.not_eq_true', Bool.not_eq_false', List.drop_zero, List.take_length, D.bool.injEq, D.int.injEq, D.str.injEq, true_implies, Int.le_refl, cellsL_length, e2]
  exact ⟨fun h4 => by rw [eqbL_ne h4], fun h4 => ss_at l q h4 hl H _ 0 rfl (Nat.zero_le _)⟩
theorem sa_ok : ∀ (x y : Tm), x.wf 281474976710656 → y.wf 281474976710656 → SaP x y
  | .mk k n s l, .mk k' n' s' l', hx, hy => by
    simp only [Tm.wf] at hx hy
    obtain ⟨hk, hn1, hn2, hs, hl, hw⟩ := hx
    obtain ⟨hk', hn1', hn2', hs', hl', hw'⟩ := hy
    have hC := ss_ok l l' hl (fun x hx y hy => sa_ok x y (wf_get hw hx) (wf_get hw' hy))
    refine FnOK.tree hdraw fp24 (ctr_ok (asmP_ok (.bool (Tm.eqbL l l'))) qnone_ok) (PST_eq k n s (Tm.cellsL l) k' n' s' (Tm.cellsL l') (Tm.eqbL l l')) ?_
    unfold PST
    have e1 : ((k : Int) = k') = (k = k') := propext (by omega)
    simp only [ok_br, ok_owe, ok_ret, ok_jmp, decide_eq_true_eq, decide_eq_false_iff_not, Int.toNat_natCast, true_and, and_true, Bool.not_eq_true', Bool.not_eq_false', List.drop_zero, List.take_length, D.bool.injEq, D.int.injEq, D.str.injEq, true_implies, Int.le_refl, cellsL_length, Tm.eqb, e1]
    exact ⟨fun h => ⟨fun h2 => ⟨fun h3 => ⟨hC, by simp [h, h2, h3]⟩, fun h3 => by simp [h3]⟩, fun h2 => by simp [h2]⟩, fun h => by simp [h]⟩
termination_by x => SizeOf.sizeOf x
decreasing_by
  have := List.sizeOf_lt_of_mem hx
  simp only [Tm.mk.sizeOf_spec]
  omega
end Go.Proofs.YtobgkdlghljdlaaGreatDoor
