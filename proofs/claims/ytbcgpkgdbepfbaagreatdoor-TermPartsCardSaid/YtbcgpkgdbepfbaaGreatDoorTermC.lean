/- The reference model's comparison. -/
import Derived.Test.YtbcgpkgdbepfbaaGreatDoorTermB
set_option linter.unusedSectionVars false
set_option linter.unusedVariables false
set_option linter.unusedSimpArgs false
set_option linter.deprecated false
set_option maxRecDepth 100000
namespace Go.Proofs.YtbcgpkgdbepfbaaGreatDoor
open Go.Sx
def rcP : PT := fun f xs => match xs with
  | [.int .u8 k] => if f = 82 then some (.ok (0 ≤ k ∧ k ≤ 255) (.int .i64 (rkI k + 1)) []) else none
  | [.int .i64 a, .int .i64 b] => if f = 81 then some (.ok True (.int .i64 (ncmp a b)) []) else none
  | [.str a, .str b] => if f = 83 then some (.ok True (.int .i64 (Lib.compareBytes a b)) []) else none
  | _ => none
theorem rcP_ok : rcP.OK := by
  intro f xs rt h
  unfold rcP at h
  split at h
  · split at h
    · rename_i hf; subst hf; cases h; exact fun hk => rrank_ok _ hk
    · cases h
  · split at h
    · rename_i hf; subst hf; cases h; exact fun _ => num_ok _ _
    · cases h
  · split at h
    · rename_i hf; subst hf; cases h; exact fun _ => txt_ok _ _
    · cases h
  · cases h
noncomputable def PRC (k : Int) (n : Int) (s : List UInt8) (a : List (List D)) (k' : Int) (n' : Int) (s' : List UInt8) (a' : List (List D)) : Go.Sx.Tr := Tr.owe ((0 : Int) ≤ k ∧ k ≤ (255 : Int)) (Tr.owe ((0 : Int) ≤ k' ∧ k' ≤ (255 : Int)) (Tr.owe True (Tr.owe True (Tr.owe True (brT (decide (k = (1 : Int))) (Tr.owe True (Tr.owe ((0 : Int) ≤ (1 : Int) ∧ (1 : Int) < (↑(4 : Nat) : Int)) (Tr.owe ((1 : Nat) < (4 : Nat)) (Tr.jmp (cut sc59 (0 : Nat)) { tm := [((2 : Nat), D.ptr (0 : Nat) (0 : Nat)), ((3 : Nat), D.ptr (1 : Nat) (0 : Nat)), ((5 : Nat), D.vec (2 : Nat)), ((6 : Nat), D.int IntKind.i64 (0 : Int))], ob := [((0 : Nat), Ob.cells [D.int IntKind.u8 k, D.int IntKind.i64 n, D.str s, D.slice a []]), ((1 : Nat), Ob.cells [D.int IntKind.u8 k', D.int IntKind.i64 n', D.str s', D.slice a' []]), ((2 : Nat), Ob.arr false (1 : Nat) (3 : TypeId) [[D.int IntKind.i64 (ncmp (rkI k + (1 : Int)) (rkI k' + (1 : Int)))], [D.int IntKind.i64 (ncmp n n')], [D.int IntKind.i64 (ncmp (↑(List.length a) : Int) (↑(List.length a') : Int))], [D.int IntKind.i64 (Lib.compareBytes s s')]])] })))) (Tr.jmp (cut sc59 (0 : Nat)) { tm := [((2 : Nat), D.ptr (0 : Nat) (0 : Nat)), ((3 : Nat), D.ptr (1 : Nat) (0 : Nat)), ((5 : Nat), D.vec (2 : Nat)), ((6 : Nat), D.int IntKind.i64 (0 : Int))], ob := [((0 : Nat), Ob.cells [D.int IntKind.u8 k, D.int IntKind.i64 n, D.str s, D.slice a []]), ((1 : Nat), Ob.cells [D.int IntKind.u8 k', D.int IntKind.i64 n', D.str s', D.slice a' []]), ((2 : Nat), Ob.arr false (1 : Nat) (3 : TypeId) [[D.int IntKind.i64 (ncmp (rkI k + (1 : Int)) (rkI k' + (1 : Int)))], [D.int IntKind.i64 (0 : Int)], [D.int IntKind.i64 (ncmp (↑(List.length a) : Int) (↑(List.length a') : Int))], [D.int IntKind.i64 (Lib.compareBytes s s')]])] }))))))
theorem PRC_eq (k : Int) (n : Int) (s : List UInt8) (a : List (List D)) (k' : Int) (n' : Int) (s' : List UInt8) (a' : List (List D)) : goT Tryz.prog (ctr rcP) (0 : Nat) (finF true (0 : Nat) rs59) (2000 : Nat) [Fr.sc sc59] { tm := envOf (0 : Nat) [D.agg [D.int IntKind.u8 k, D.int IntKind.i64 n, D.str s, D.slice a []], D.agg [D.int IntKind.u8 k', D.int IntKind.i64 n', D.str s', D.slice a' []]], ob := [] } = PRC k n s a k' n' s' a' := by kernel_rfl
def hdRC (k n : Int) (s : List UInt8) (a : List (List D)) (k' n' : Int) (s' : List UInt8) (a' es : List (List D)) (i : Int) : St := ⟨[(2, .ptr 0 0), (3, .ptr 1 0), (5, .vec 2), (6, .int .i64 i)], [(0, .cells [.int .u8 k, .int .i64 n, .str s, .slice a []]), (1, .cells [.int .u8 k', .int .i64 n', .str s', .slice a' []]), (2, .arr false 1 3 es)]⟩
noncomputable def PRC2 (k : Int) (n : Int) (s : List UInt8) (a : List (List D)) (k' : Int) (n' : Int) (s' : List UInt8) (a' : List (List D)) (es : List (List D)) (i : Int) (kx : Int) (nx : Int) (sx : List UInt8) (ax : List (List D)) (ky : Int) (ny : Int) (sy : List UInt8) (ay : List (List D)) (c : Int) : Go.Sx.Tr := brT (decide (i < (↑(List.length a) : Int))) (brT (decide (i < (↑(List.length a') : Int))) (Tr.owe ((0 : Int) ≤ i ∧ a[Int.toNat i]? = some [D.int IntKind.u8 kx, D.int IntKind.i64 nx, D.str sx, D.slice ax []]) (Tr.owe ((0 : Int) ≤ i ∧ a'[Int.toNat i]? = some [D.int IntKind.u8 ky, D.int IntKind.i64 ny, D.str sy, D.slice ay []]) (Tr.owe (FnOK Tryz.prog (59 : FuncId) [D.agg [D.int IntKind.u8 kx, D.int IntKind.i64 nx, D.str sx, D.slice ax []], D.agg [D.int IntKind.u8 ky, D.int IntKind.i64 ny, D.str sy, D.slice ay []]] (D.int IntKind.i64 c)) (Tr.owe (allLen (1 : Nat) [[D.int IntKind.i64 c]] ∧ List.length es + (1 : Nat) ≤ (1073741824 : Nat)) (Tr.owe ((-9223372036854775808 : Int) ≤ i + (1 : Int) ∧ i + (1 : Int) ≤ (9223372036854775807 : Int)) (Tr.jmp (cut sc59 (0 : Nat)) { tm := [((2 : Nat), D.ptr (0 : Nat) (0 : Nat)), ((3 : Nat), D.ptr (1 : Nat) (0 : Nat)), ((5 : Nat), D.vec (2 : Nat)), ((6 : Nat), D.int IntKind.i64 (i + (1 : Int)))], ob := [((0 : Nat), Ob.cells [D.int IntKind.u8 k, D.int IntKind.i64 n, D.str s, D.slice a []]), ((1 : Nat), Ob.cells [D.int IntKind.u8 k', D.int IntKind.i64 n', D.str s', D.slice a' []]), ((2 : Nat), Ob.arr false (1 : Nat) (3 : TypeId) (es ++ [[D.int IntKind.i64 c]]))] })))))) (Tr.owe True (Tr.owe (allLen (1 : Nat) [[D.int IntKind.i64 (ncmp n n')]] ∧ List.length es + (1 : Nat) ≤ (1073741824 : Nat)) (Tr.jmp (cut sc59 (1 : Nat)) { tm := [((5 : Nat), D.vec (0 : Nat)), ((7 : Nat), D.int IntKind.i64 (0 : Int))], ob := [((0 : Nat), Ob.arr false (1 : Nat) (3 : TypeId) (es ++ [[D.int IntKind.i64 (ncmp n n')]]))] })))) (Tr.owe True (Tr.owe (allLen (1 : Nat) [[D.int IntKind.i64 (ncmp n n')]] ∧ List.length es + (1 : Nat) ≤ (1073741824 : Nat)) (Tr.jmp (cut sc59 (1 : Nat)) { tm := [((5 : Nat), D.vec (0 : Nat)), ((7 : Nat), D.int IntKind.i64 (0 : Int))], ob := [((0 : Nat), Ob.arr false (1 : Nat) (3 : TypeId) (es ++ [[D.int IntKind.i64 (ncmp n n')]]))] })))
theorem PRC2_eq (k : Int) (n : Int) (s : List UInt8) (a : List (List D)) (k' : Int) (n' : Int) (s' : List UInt8) (a' : List (List D)) (es : List (List D)) (i : Int) (kx : Int) (nx : Int) (sx : List UInt8) (ax : List (List D)) (ky : Int) (ny : Int) (sy : List UInt8) (ay : List (List D)) (c : Int) : goT Tryz.prog (ctr (PT.or rcP (asmP (D.int IntKind.i64 c))) qnone (eTwo (56 : Nat) [D.int IntKind.u8 kx, D.int IntKind.i64 nx, D.str sx, D.slice ax []] [D.int IntKind.u8 ky, D.int IntKind.i64 ny, D.str sy, D.slice ay []])) (0 : Nat) (finF true (0 : Nat) rs59) (2000 : Nat) (cut sc59 (0 : Nat)) (hdRC k n s a k' n' s' a' es i) = PRC2 k n s a k' n' s' a' es i kx nx sx ax ky ny sy ay c := by kernel_rfl
def hdRD (es : List (List D)) (i : Int) : St := ⟨[(5, .vec 0), (7, .int .i64 i)], [(0, .arr false 1 3 es)]⟩
noncomputable def PRC3 (es : List (List D)) (i : Int) (c : Int) : Go.Sx.Tr := brT (decide (i < (↑(List.length es) : Int))) (Tr.owe ((0 : Int) ≤ i ∧ i < (↑(List.length es) : Int)) (Tr.owe (es[Int.toNat i]? = some [D.int IntKind.i64 c]) (brT (!decide (c = (0 : Int))) (Tr.owe ((0 : Int) ≤ i ∧ i < (↑(List.length es) : Int)) (Tr.owe (es[Int.toNat i]? = some [D.int IntKind.i64 c]) (Tr.ret (D.int IntKind.i64 c) []))) (Tr.owe ((-9223372036854775808 : Int) ≤ i + (1 : Int) ∧ i + (1 : Int) ≤ (9223372036854775807 : Int)) (Tr.jmp (cut sc59 (1 : Nat)) { tm := [((5 : Nat), D.vec (0 : Nat)), ((7 : Nat), D.int IntKind.i64 (i + (1 : Int)))], ob := [((0 : Nat), Ob.arr false (1 : Nat) (3 : TypeId) es)] }))))) (Tr.ret (D.int IntKind.i64 (0 : Int)) [])
theorem PRC3_eq (es : List (List D)) (i : Int) (c : Int) : goT Tryz.prog (ctr libT qnone (eOne [D.int IntKind.i64 c])) (0 : Nat) (finF true (0 : Nat) rs59) (2000 : Nat) (cut sc59 (1 : Nat)) (hdRD es i) = PRC3 es i c := by kernel_rfl
theorem intC_app (k : IntKind) (a b : List Int) : intC k (a ++ b) = intC k a ++ intC k b := by simp [intC]
theorem intC_len (k : IntKind) (l : List Int) : (intC k l).length = l.length := by simp [intC]
theorem rd_at (l : List Int) (hl : l.length ≤ 4611686018427387904) : ∀ (m i : Nat), l.length - i = m → i ≤ l.length →
    At Tryz.prog 0 (cut sc59 1) (hdRD (intC .i64 l) i) (FinQ true 0 rs59 fun r _ => r = .int .i64 (fst0 (l.drop i))) := by
  intro m
  induction m with
  | zero =>
    intro i hm hi
    refine At.tree (ctr_ok libT_ok qnone_ok) (PRC3_eq (intC .i64 l) i 0) ?_
    unfold PRC3
    rw [List.drop_eq_nil_of_le (by omega)]
    simp only [ok_br, ok_owe, ok_ret, ok_jmp, decide_eq_true_eq, decide_eq_false_iff_not, Int.toNat_natCast, true_and, and_true, Bool.not_eq_true', Bool.not_eq_false', List.drop_zero, List.take_length, D.bool.injEq, D.int.injEq, D.str.injEq, true_implies, Int.le_refl, intC_len]
    exact ⟨fun h => by omega, fun _ => rfl⟩
  | succ m ih =>
    intro i hm hi
    have h1 : i < l.length := by omega
    refine At.tree (ctr_ok libT_ok qnone_ok) (PRC3_eq (intC .i64 l) i l[i]) ?_
    unfold PRC3
    rw [drop_cons h1]
    simp only [ok_br, ok_owe, ok_ret, ok_jmp, decide_eq_true_eq, decide_eq_false_iff_not, Int.toNat_natCast, true_and, and_true, Bool.not_eq_true', Bool.not_eq_false', List.drop_zero, List.take_length, D.bool.injEq, D.int.injEq, D.str.injEq, true_implies, Int.le_refl, fst0, intC_len]
    refine ⟨fun _ => ⟨by omega, intC_get h1, fun h => ⟨by omega, intC_get h1, by rw [if_pos h]⟩, fun h => ⟨by omega, ?_⟩⟩, fun h => by omega⟩
    rw [if_neg (by simpa using h)]; exact ih (i + 1) (by omega) (by omega)
/-- The reference model compares as term.Compare does. -/
def RcP (x y : Tm) : Prop := FnOK Tryz.prog 59 [.agg x.cells, .agg y.cells] (.int .i64 (x.cmp y))
theorem rc_at (k : Nat) (n : Int) (s : List UInt8) (l : List Tm) (k' : Nat) (n' : Int) (s' : List UInt8) (q : List Tm) (hl : l.length ≤ 1000) (hq : q.length ≤ 1000) (H : ∀ x ∈ l, ∀ y ∈ q, RcP x y) : ∀ (m i : Nat) (acc : List Int), l.length - i = m → i ≤ l.length → acc.length + (l.length - i) ≤ 10000 →
    At Tryz.prog 0 (cut sc59 0) (hdRC k n s (Tm.cellsL l) k' n' s' (Tm.cellsL q) (intC .i64 acc) i) (FinQ true 0 rs59 fun r _ => r = .int .i64 (fst0 (acc ++ List.zipWith Tm.cmp (l.drop i) (q.drop i) ++ [ncmp n n']))) := by
  have hend : ∀ acc : List Int, acc.length ≤ 10000 → At Tryz.prog 0 (cut sc59 1) (hdRD (intC .i64 acc ++ [[.int .i64 (ncmp n n')]]) 0) (FinQ true 0 rs59 fun r _ => r = .int .i64 (fst0 (acc ++ [] ++ [ncmp n n']))) := fun acc hacc => by
    have := rd_at (acc ++ [ncmp n n']) (by simp; omega) _ 0 rfl (Nat.zero_le _)
    rw [intC_app] at this
    rw [List.append_nil]
    exact this
  intro m
  induction m with
  | zero =>
    intro i acc hm hi hacc
    refine At.tree (ctr_ok (PT.or_ok rcP_ok (asmP_ok (.int .i64 0))) qnone_ok) (PRC2_eq k n s (Tm.cellsL l) k' n' s' (Tm.cellsL q) (intC .i64 acc) i 0 0 [] [] 0 0 [] [] 0) ?_
    unfold PRC2
    rw [List.drop_eq_nil_of_le (show l.length ≤ i by omega), List.zipWith_nil_left]
    simp only [ok_br, ok_owe, ok_ret, ok_jmp, decide_eq_true_eq, decide_eq_false_iff_not, Int.toNat_natCast, true_and, and_true, Bool.not_eq_true', Bool.not_eq_false', List.drop_zero, List.take_length, D.bool.injEq, D.int.injEq, D.str.injEq, true_implies, Int.le_refl, cellsL_length, intC_len, allLen_cons, allLen_nil, List.length_cons, List.length_nil]
    exact ⟨fun h => by omega, fun _ => ⟨by omega, hend acc (by omega)⟩⟩
  | succ m ih =>
    intro i acc hm hi hacc
    have h1 : i < l.length := by omega
    have hx := cellsL_get h1
    have hmx : l[i] ∈ l := List.getElem_mem h1
    by_cases h2 : i < q.length
    · have hy := cellsL_get h2
      have hC := H _ hmx _ (List.getElem_mem h2)
      rw [drop_cons h1, drop_cons h2, List.zipWith_cons_cons]
      unfold RcP at hC
      have hI := ih (i + 1) (acc ++ [Tm.cmp l[i] q[i]]) (by omega) (by omega) (by simp; omega)
      rw [intC_app, List.append_assoc acc, List.singleton_append] at hI
      generalize Tm.cmp l[i] q[i] = c at hC hI ⊢
      generalize l[i] = x at hx hC
      generalize q[i] = y at hy hC
      obtain ⟨kx, nx, sx, ax⟩ := x
      obtain ⟨ky, ny, sy, ay⟩ := y
      refine At.tree (ctr_ok (PT.or_ok rcP_ok (asmP_ok (.int .i64 c))) qnone_ok) (PRC2_eq k n s (Tm.cellsL l) k' n' s' (Tm.cellsL q) (intC .i64 acc) i kx nx sx (Tm.cellsL ax) ky ny sy (Tm.cellsL ay) c) ?_
      unfold PRC2
      simp only [ok_br, ok_owe, ok_ret, ok_jmp, decide_eq_true_eq, decide_eq_false_iff_not, Int.toNat_natCast, true_and, and_true, Bool.not_eq_true', Bool.not_eq_false', List.drop_zero, List.take_length, D.bool.injEq, D.int.injEq, D.str.injEq, true_implies, Int.le_refl, cellsL_length, intC_len, allLen_cons, allLen_nil, List.length_cons, List.length_nil]
      exact ⟨fun _ => ⟨fun _ => ⟨⟨by omega, hx⟩, ⟨by omega, hy⟩, hC, by omega, by omega, hI⟩, fun h => by omega⟩, fun h => by omega⟩
    · refine At.tree (ctr_ok (PT.or_ok rcP_ok (asmP_ok (.int .i64 0))) qnone_ok) (PRC2_eq k n s (Tm.cellsL l) k' n' s' (Tm.cellsL q) (intC .i64 acc) i 0 0 [] [] 0 0 [] [] 0) ?_
      unfold PRC2
      rw [List.drop_eq_nil_of_le (show q.length ≤ i by omega), List.zipWith_nil_right]
      simp only [ok_br, ok_owe, ok_ret, ok_jmp, decide_eq_true_eq, decide_eq_false_iff_not, Int.toNat_natCast, true_and, and_true, Bool.not_eq_true', Bool.not_eq_false', List.drop_zero, List.take_length, D.bool.injEq, D.int.injEq, D.str.injEq, true_implies, Int.le_refl, cellsL_length, intC_len, allLen_cons, allLen_nil, List.length_cons, List.length_nil]
      exact ⟨fun _ => ⟨fun h => by omega, fun _ => ⟨by omega, hend acc (by omega)⟩⟩, fun h => by omega⟩
theorem few_get {B : Nat} {l : List Tm} (h : Tm.fewL B l) {t : Tm} (ht : t ∈ l) : t.few B := fewL_all.1 h t ht
theorem ncmp_one (a b : Int) : ncmp (a + 1) (b + 1) = ncmp a b := by
  unfold ncmp
  repeat' split
  all_goals omega
theorem rc_ok : ∀ (x y : Tm), x.wf 281474976710656 → y.wf 281474976710656 → x.few 1000 → y.few 1000 → RcP x y
  | .mk k n s l, .mk k' n' s' l', hx, hy, fx, fy => by
    simp only [Tm.wf] at hx hy
    simp only [Tm.few] at fx fy
    obtain ⟨hk, hn1, hn2, hs, hl, hw⟩ := hx
    obtain ⟨hk', hn1', hn2', hs', hl', hw'⟩ := hy
    have hC := fun acc => rc_at k n s l k' n' s' l' fx.1 fy.1 (fun x hx y hy => rc_ok x y (wf_get hw hx) (wf_get hw' hy) (few_get fx.2 hx) (few_get fy.2 hy)) _ 0 acc rfl (Nat.zero_le _)
    refine FnOK.tree hdraw fp59 (ctr_ok rcP_ok qnone_ok) (PRC_eq k n s (Tm.cellsL l) k' n' s' (Tm.cellsL l')) ?_
    unfold PRC
    have e1 : ((k : Int) = 1) = (k = 1) := propext (by omega)
    have hr := cmp_ref k n s l k' n' s' l'
    simp only [ok_br, ok_owe, ok_ret, ok_jmp, decide_eq_true_eq, decide_eq_false_iff_not, Int.toNat_natCast, true_and, and_true, Bool.not_eq_true', Bool.not_eq_false', List.drop_zero, List.take_length, D.bool.injEq, D.int.injEq, D.str.injEq, true_implies, Int.le_refl, cellsL_length, ncmp_one, e1]
    refine ⟨by omega, by omega, fun h => ⟨by omega, by omega, ?_⟩, fun h => ?_⟩
    · rw [← hr, if_pos h]
      exact hC [ncmp (rkI k) (rkI k'), ncmp n n', ncmp l.length l'.length, Lib.compareBytes s s'] (by simp; omega)
    · rw [← hr, if_neg h]
      exact hC [ncmp (rkI k) (rkI k'), 0, ncmp l.length l'.length, Lib.compareBytes s s'] (by simp; omega)
termination_by x => SizeOf.sizeOf x
decreasing_by
  have := List.sizeOf_lt_of_mem hx
  simp only [Tm.mk.sizeOf_spec]
  omega
end Go.Proofs.YtbcgpkgdbepfbaaGreatDoor
