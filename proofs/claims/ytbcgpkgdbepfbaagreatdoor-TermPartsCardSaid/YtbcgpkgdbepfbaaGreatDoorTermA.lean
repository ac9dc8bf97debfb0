/- Small comparisons. -/
import Derived.Test.YtbcgpkgdbepfbaaGreatDoorLibT
import Derived.Test.YtbcgpkgdbepfbaaGreatDoorSx6
set_option linter.unusedSectionVars false
set_option linter.unusedVariables false
set_option linter.unusedSimpArgs false
set_option linter.deprecated false
set_option maxRecDepth 100000
namespace Go.Proofs.YtbcgpkgdbepfbaaGreatDoor
open Go.Sx
/-- A pure call with this result, its contract owed. -/
def asmP (r : D) : PT := fun f xs => some (.ok (FnOK Tryz.prog f xs r) r [])
theorem asmP_ok (r : D) : (asmP r).OK := by intro f xs rt h; cases h; exact fun hp => hp
/-- A call of a value, with this result and no objects, its contract owed. -/
def asmQ (r : D) : QT := fun d xs ob => match ob with
  | [] => some (.ok (CallL Tryz.prog d xs [] fun r0 ob0 => r0 = r ∧ ob0 = []) r [])
  | _ => none
theorem asmQ_ok (r : D) : (asmQ r).OK := by
  intro d xs ob rt h
  unfold asmQ at h
  split at h
  · cases h; exact fun hp => hp
  · cases h

noncomputable def PNan (n : Int) : Go.Sx.Tr := Tr.ret (D.bool !decide (n = n)) []
theorem PNan_eq (n : Int) : goT Tryz.prog (ctr libT) (0 : Nat) (finF true (0 : Nat) rs66) (2000 : Nat) [Fr.sc sc66] { tm := envOf (0 : Nat) [D.int IntKind.i64 n], ob := [] } = PNan n := by kernel_rfl
theorem nan_ok (n : Int) : FnOK Tryz.prog 66 [.int .i64 n] (.bool false) := by
  refine FnOK.tree hdraw fp66 (ctr_ok libT_ok qnone_ok) (PNan_eq n) ?_
  unfold PNan
  simp [ok_ret]
def nanP : PT := fun f xs => match xs with
  | [.int .i64 n] => if f = 66 then some (.ok True (.bool false) []) else none
  | _ => none
theorem nanP_ok : nanP.OK := by
  intro f xs rt h
  unfold nanP at h
  split at h
  · split at h
    · rename_i hf; subst hf; cases h; exact fun _ => nan_ok _
    · cases h
  · cases h
noncomputable def PCmp (a : Int) (b : Int) : Go.Sx.Tr := Tr.owe True (Tr.owe True (brT (decide (a < b)) (Tr.ret (D.int IntKind.i64 (-1 : Int)) []) (brT (decide (b < a)) (Tr.ret (D.int IntKind.i64 (1 : Int)) []) (Tr.ret (D.int IntKind.i64 (0 : Int)) []))))
theorem PCmp_eq (a : Int) (b : Int) : goT Tryz.prog (ctr nanP) (0 : Nat) (finF true (0 : Nat) rs46) (2000 : Nat) [Fr.sc sc46] { tm := envOf (0 : Nat) [D.int IntKind.i64 a, D.int IntKind.i64 b], ob := [] } = PCmp a b := by kernel_rfl
theorem ncmp_ok (a b : Int) : FnOK Tryz.prog 46 [.int .i64 a, .int .i64 b] (.int .i64 (ncmp a b)) := by
  refine FnOK.tree hdraw fp46 (ctr_ok nanP_ok qnone_ok) (PCmp_eq a b) ?_
  unfold PCmp
  simp only [ok_br, ok_owe, ok_ret, ok_jmp, decide_eq_true_eq, decide_eq_false_iff_not, Int.toNat_natCast, true_and, and_true, Bool.not_eq_true', Bool.not_eq_false', List.drop_zero, List.take_length, D.bool.injEq, D.int.injEq, D.str.injEq, true_implies, Int.le_refl]
  refine ⟨fun h => by simp [ncmp, h], fun h => ⟨fun h2 => ?_, fun h2 => ?_⟩⟩
  · simp [ncmp, h, h2]
  · simp [ncmp, h, h2]
def eOne (c : List D) : Nat → Int → List D := fun _ _ => c
theorem drop_cons {α : Type} {l : List α} {i : Nat} (h : i < l.length) : l.drop i = l[i] :: l.drop (i + 1) := List.drop_eq_getElem_cons h
theorem intC_get {k : IntKind} {l : List Int} {i : Nat} (h : i < l.length) : (intC k l)[i]? = some [.int k l[i]] := by simp [intC, h]
noncomputable def PIdx (es : List (List D)) (k : Int) : Go.Sx.Tr := Tr.jmp (cut sc67 (0 : Nat)) { tm := [((0 : Nat), D.slice es []), ((1 : Nat), D.int IntKind.u8 k), ((7 : Nat), D.int IntKind.i64 (↑(List.length es) : Int)), ((8 : Nat), D.int IntKind.i64 (0 : Int))], ob := [] }
theorem PIdx_eq (es : List (List D)) (k : Int) : goT Tryz.prog (ctr libT) (0 : Nat) (finF true (0 : Nat) rs67) (2000 : Nat) [Fr.sc sc67] { tm := envOf (0 : Nat) [D.slice es [], D.int IntKind.u8 k], ob := [] } = PIdx es k := by kernel_rfl
def hdIx (es : List (List D)) (k n i : Int) : St := ⟨[(0, .slice es []), (1, .int .u8 k), (7, .int .i64 n), (8, .int .i64 i)], []⟩
noncomputable def PIdx2 (es : List (List D)) (k : Int) (n : Int) (i : Int) (c : Int) : Go.Sx.Tr := brT (decide (i < n)) (Tr.owe ((0 : Int) ≤ i ∧ es[Int.toNat i]? = some [D.int IntKind.u8 c]) (brT (decide (k = c)) (Tr.ret (D.int IntKind.i64 i) []) (Tr.owe ((-9223372036854775808 : Int) ≤ i + (1 : Int) ∧ i + (1 : Int) ≤ (9223372036854775807 : Int)) (Tr.jmp (cut sc67 (0 : Nat)) { tm := [((0 : Nat), D.slice es []), ((1 : Nat), D.int IntKind.u8 k), ((7 : Nat), D.int IntKind.i64 n), ((8 : Nat), D.int IntKind.i64 (i + (1 : Int)))], ob := [] })))) (Tr.ret (D.int IntKind.i64 (-1 : Int)) [])
theorem PIdx2_eq (es : List (List D)) (k : Int) (n : Int) (i : Int) (c : Int) : goT Tryz.prog (ctr libT qnone (eOne [D.int IntKind.u8 c])) (0 : Nat) (finF true (0 : Nat) rs67) (2000 : Nat) (cut sc67 (0 : Nat)) (hdIx es k n i) = PIdx2 es k n i c := by kernel_rfl
def ixF (k : Int) : List Int → Int → Int
  | [], _ => -1
  | a :: r, i => if k = a then i else ixF k r (i + 1)
theorem ix_at (l : List Int) (k : Int) (hl : l.length ≤ 4611686018427387904) : ∀ (m i : Nat), l.length - i = m → i ≤ l.length →
    At Tryz.prog 0 (cut sc67 0) (hdIx (intC .u8 l) k l.length i) (FinQ true 0 rs67 fun r _ => r = .int .i64 (ixF k (l.drop i) i)) := by
  intro m
  induction m with
  | zero =>
    intro i hm hi
    refine At.tree (ctr_ok libT_ok qnone_ok) (PIdx2_eq (intC .u8 l) k l.length i 0) ?_
    unfold PIdx2
    rw [List.drop_eq_nil_of_le (by omega)]
    simp only [ok_br, ok_owe, ok_ret, ok_jmp, decide_eq_true_eq, decide_eq_false_iff_not, Int.toNat_natCast, true_and, and_true, Bool.not_eq_true', Bool.not_eq_false', List.drop_zero, List.take_length, D.bool.injEq, D.int.injEq, D.str.injEq, true_implies, Int.le_refl]
    exact ⟨fun h => by omega, fun _ => rfl⟩
  | succ m ih =>
    intro i hm hi
    have h1 : i < l.length := by omega
    refine At.tree (ctr_ok libT_ok qnone_ok) (PIdx2_eq (intC .u8 l) k l.length i l[i]) ?_
    unfold PIdx2
    rw [drop_cons h1]
    simp only [ok_br, ok_owe, ok_ret, ok_jmp, decide_eq_true_eq, decide_eq_false_iff_not, Int.toNat_natCast, true_and, and_true, Bool.not_eq_true', Bool.not_eq_false', List.drop_zero, List.take_length, D.bool.injEq, D.int.injEq, D.str.injEq, true_implies, Int.le_refl, ixF]
    refine ⟨fun _ => ⟨⟨by omega, intC_get h1⟩, fun h => by rw [if_pos h], fun h => ⟨by omega, ?_⟩⟩, fun h => by omega⟩
    rw [if_neg h]; exact ih (i + 1) (by omega) (by omega)
theorem idx_ok (k : Int) : FnOK Tryz.prog 67 [.slice [[.int .u8 1], [.int .u8 2], [.int .u8 4], [.int .u8 3], [.int .u8 5], [.int .u8 6]] [], .int .u8 k] (.int .i64 (idxI k)) := by
  have h := ix_at [1, 2, 4, 3, 5, 6] k (by decide) _ 0 rfl (Nat.zero_le _)
  exact FnOK.tree hdraw fp67 (ctr_ok libT_ok qnone_ok) (PIdx_eq _ k) h
def idxP : PT := fun f xs => match xs with
  | [.slice [[.int .u8 1], [.int .u8 2], [.int .u8 4], [.int .u8 3], [.int .u8 5], [.int .u8 6]] [], .int .u8 k] => if f = 67 then some (.ok True (.int .i64 (idxI k)) []) else none
  | _ => none
theorem idxP_ok : idxP.OK := by
  intro f xs rt h
  unfold idxP at h
  split at h
  · split at h
    · rename_i hf; subst hf; cases h; exact fun _ => idx_ok _
    · cases h
  · cases h
noncomputable def PRank (k : Int) : Go.Sx.Tr := Tr.owe True (brT (decide ((0 : Int) ≤ idxI k)) (Tr.ret (D.int IntKind.i64 (idxI k)) []) (Tr.owe ((-9223372036854775808 : Int) ≤ k ∧ k ≤ (9223372036854775807 : Int)) (Tr.owe ((-9223372036854775808 : Int) ≤ (↑(6 : Nat) : Int) + k ∧ (↑(6 : Nat) : Int) + k ≤ (9223372036854775807 : Int)) (Tr.ret (D.int IntKind.i64 ((↑(6 : Nat) : Int) + k)) []))))
theorem PRank_eq (k : Int) : goT Tryz.prog (ctr idxP) (0 : Nat) (finF true (0 : Nat) rs47) (2000 : Nat) [Fr.sc sc47] { tm := envOf (0 : Nat) [D.int IntKind.u8 k], ob := [] } = PRank k := by kernel_rfl
theorem rank_ok (k : Int) (hk : 0 ≤ k ∧ k ≤ 255) : FnOK Tryz.prog 47 [.int .u8 k] (.int .i64 (rkI k)) := by
  refine FnOK.tree hdraw fp47 (ctr_ok idxP_ok qnone_ok) (PRank_eq k) ?_
  unfold PRank
  simp only [ok_br, ok_owe, ok_ret, ok_jmp, decide_eq_true_eq, decide_eq_false_iff_not, Int.toNat_natCast, true_and, and_true, Bool.not_eq_true', Bool.not_eq_false', List.drop_zero, List.take_length, D.bool.injEq, D.int.injEq, D.str.injEq, true_implies, Int.le_refl]
  unfold idxI rkI
  refine ⟨fun h => ?_, fun h => ⟨by omega, ⟨by omega, ?_⟩⟩⟩
  · (repeat' split) <;> first | rfl | (split at h <;> omega) | (simp_all; done)
  · (repeat' split) <;> first | omega | (simp_all; done)
noncomputable def POr (es : List (List D)) : Go.Sx.Tr := Tr.jmp (cut sc48 (0 : Nat)) { tm := [((3 : Nat), D.int IntKind.i64 (0 : Int)), ((6 : Nat), D.slice es []), ((7 : Nat), D.int IntKind.i64 (↑(List.length es) : Int)), ((8 : Nat), D.int IntKind.i64 (0 : Int))], ob := [] }
theorem POr_eq (es : List (List D)) : goT Tryz.prog (ctr libT) (0 : Nat) (finF true (0 : Nat) rs48) (2000 : Nat) [Fr.sc sc48] { tm := envOf (0 : Nat) [D.slice es []], ob := [] } = POr es := by kernel_rfl
def hdOr (es : List (List D)) (n i : Int) : St := ⟨[(3, .int .i64 0), (6, .slice es []), (7, .int .i64 n), (8, .int .i64 i)], []⟩
noncomputable def POr2 (es : List (List D)) (n : Int) (i : Int) (c : Int) : Go.Sx.Tr := brT (decide (i < n)) (Tr.owe ((0 : Int) ≤ i ∧ es[Int.toNat i]? = some [D.int IntKind.i64 c]) (brT (!decide (c = (0 : Int))) (Tr.ret (D.int IntKind.i64 c) []) (Tr.owe ((-9223372036854775808 : Int) ≤ i + (1 : Int) ∧ i + (1 : Int) ≤ (9223372036854775807 : Int)) (Tr.jmp (cut sc48 (0 : Nat)) { tm := [((3 : Nat), D.int IntKind.i64 (0 : Int)), ((6 : Nat), D.slice es []), ((7 : Nat), D.int IntKind.i64 n), ((8 : Nat), D.int IntKind.i64 (i + (1 : Int)))], ob := [] })))) (Tr.ret (D.int IntKind.i64 (0 : Int)) [])
theorem POr2_eq (es : List (List D)) (n : Int) (i : Int) (c : Int) : goT Tryz.prog (ctr libT qnone (eOne [D.int IntKind.i64 c])) (0 : Nat) (finF true (0 : Nat) rs48) (2000 : Nat) (cut sc48 (0 : Nat)) (hdOr es n i) = POr2 es n i c := by kernel_rfl
theorem or_at (l : List Int) (hl : l.length ≤ 4611686018427387904) : ∀ (m i : Nat), l.length - i = m → i ≤ l.length →
    At Tryz.prog 0 (cut sc48 0) (hdOr (intC .i64 l) l.length i) (FinQ true 0 rs48 fun r _ => r = .int .i64 (fst0 (l.drop i))) := by
  intro m
  induction m with
  | zero =>
    intro i hm hi
    refine At.tree (ctr_ok libT_ok qnone_ok) (POr2_eq (intC .i64 l) l.length i 0) ?_
    unfold POr2
    rw [List.drop_eq_nil_of_le (by omega)]
    simp only [ok_br, ok_owe, ok_ret, ok_jmp, decide_eq_true_eq, decide_eq_false_iff_not, Int.toNat_natCast, true_and, and_true, Bool.not_eq_true', Bool.not_eq_false', List.drop_zero, List.take_length, D.bool.injEq, D.int.injEq, D.str.injEq, true_implies, Int.le_refl]
    exact ⟨fun h => by omega, fun _ => rfl⟩
  | succ m ih =>
    intro i hm hi
    have h1 : i < l.length := by omega
    refine At.tree (ctr_ok libT_ok qnone_ok) (POr2_eq (intC .i64 l) l.length i l[i]) ?_
    unfold POr2
    rw [drop_cons h1]
    simp only [ok_br, ok_owe, ok_ret, ok_jmp, decide_eq_true_eq, decide_eq_false_iff_not, Int.toNat_natCast, true_and, and_true, Bool.not_eq_true', Bool.not_eq_false', List.drop_zero, List.take_length, D.bool.injEq, D.int.injEq, D.str.injEq, true_implies, Int.le_refl, fst0]
    refine ⟨fun _ => ⟨⟨by omega, intC_get h1⟩, fun h => by rw [if_pos h], fun h => ⟨by omega, ?_⟩⟩, fun h => by omega⟩
    rw [if_neg (by simpa using h)]; exact ih (i + 1) (by omega) (by omega)
theorem or_ok (a b c d : Int) : FnOK Tryz.prog 48 [.slice [[.int .i64 a], [.int .i64 b], [.int .i64 c], [.int .i64 d]] []] (.int .i64 (fst0 [a, b, c, d])) := by
  have h := or_at [a, b, c, d] (by simp) _ 0 rfl (Nat.zero_le _)
  exact FnOK.tree hdraw fp48 (ctr_ok libT_ok qnone_ok) (POr_eq _) h
noncomputable def PNum (a : Int) (b : Int) : Go.Sx.Tr := brT (decide (a < b)) (Tr.ret (D.int IntKind.i64 (-1 : Int)) []) (brT (decide (b < a)) (Tr.ret (D.int IntKind.i64 (1 : Int)) []) (Tr.ret (D.int IntKind.i64 (0 : Int)) []))
theorem PNum_eq (a : Int) (b : Int) : goT Tryz.prog (ctr libT) (0 : Nat) (finF true (0 : Nat) rs81) (2000 : Nat) [Fr.sc sc81] { tm := envOf (0 : Nat) [D.int IntKind.i64 a, D.int IntKind.i64 b], ob := [] } = PNum a b := by kernel_rfl
theorem num_ok (a b : Int) : FnOK Tryz.prog 81 [.int .i64 a, .int .i64 b] (.int .i64 (ncmp a b)) := by
  refine FnOK.tree hdraw fp81 (ctr_ok libT_ok qnone_ok) (PNum_eq a b) ?_
  unfold PNum
  simp only [ok_br, ok_owe, ok_ret, ok_jmp, decide_eq_true_eq, decide_eq_false_iff_not, Int.toNat_natCast, true_and, and_true, Bool.not_eq_true', Bool.not_eq_false', List.drop_zero, List.take_length, D.bool.injEq, D.int.injEq, D.str.injEq, true_implies, Int.le_refl]
  refine ⟨fun h => by simp [ncmp, h], fun h => ⟨fun h2 => ?_, fun h2 => ?_⟩⟩
  · simp [ncmp, h, h2]
  · simp [ncmp, h, h2]
noncomputable def PTxt (a : List UInt8) (b : List UInt8) : Go.Sx.Tr := brT (Op.bytesLess a b) (Tr.ret (D.int IntKind.i64 (-1 : Int)) []) (brT (!(Op.bytesLess a b || decide (a = b))) (Tr.ret (D.int IntKind.i64 (1 : Int)) []) (Tr.ret (D.int IntKind.i64 (0 : Int)) []))
theorem PTxt_eq (a : List UInt8) (b : List UInt8) : goT Tryz.prog (ctr libT) (0 : Nat) (finF true (0 : Nat) rs83) (2000 : Nat) [Fr.sc sc83] { tm := envOf (0 : Nat) [D.str a, D.str b], ob := [] } = PTxt a b := by kernel_rfl
theorem txt_ok (a b : List UInt8) : FnOK Tryz.prog 83 [.str a, .str b] (.int .i64 (Lib.compareBytes a b)) := by
  refine FnOK.tree hdraw fp83 (ctr_ok libT_ok qnone_ok) (PTxt_eq a b) ?_
  unfold PTxt
  rw [bcmp_less]
  simp only [ok_br, ok_owe, ok_ret, ok_jmp, decide_eq_true_eq, decide_eq_false_iff_not, Int.toNat_natCast, true_and, and_true, Bool.not_eq_true', Bool.not_eq_false', List.drop_zero, List.take_length, D.bool.injEq, D.int.injEq, D.str.injEq, true_implies, Int.le_refl]
  refine ⟨fun h => by simp [h], fun h => ⟨fun h2 => ?_, fun h2 => ?_⟩⟩
  · rw [h2]; simp [h]
  · rw [h2]; simp [h]
noncomputable def PRr (k : Int) : Go.Sx.Tr := brT (decide (k = (1 : Int))) (brT (decide (k = (1 : Int))) (Tr.owe ((-9223372036854775808 : Int) ≤ k ∧ k ≤ (9223372036854775807 : Int)) (Tr.ret (D.int IntKind.i64 k) [])) (brT (decide (k = (4 : Int))) (Tr.ret (D.int IntKind.i64 (3 : Int)) []) (brT (decide (k = (3 : Int))) (Tr.ret (D.int IntKind.i64 (4 : Int)) []) (brT (decide (k = (5 : Int))) (brT (decide (k = (5 : Int))) (Tr.owe ((-9223372036854775808 : Int) ≤ k ∧ k ≤ (9223372036854775807 : Int)) (Tr.ret (D.int IntKind.i64 k) [])) (Tr.owe ((-9223372036854775808 : Int) ≤ k ∧ k ≤ (9223372036854775807 : Int)) (Tr.owe ((-9223372036854775808 : Int) ≤ k + (7 : Int) ∧ k + (7 : Int) ≤ (9223372036854775807 : Int)) (Tr.ret (D.int IntKind.i64 (k + (7 : Int))) [])))) (brT (decide (k = (6 : Int))) (Tr.owe ((-9223372036854775808 : Int) ≤ k ∧ k ≤ (9223372036854775807 : Int)) (Tr.ret (D.int IntKind.i64 k) [])) (Tr.owe ((-9223372036854775808 : Int) ≤ k ∧ k ≤ (9223372036854775807 : Int)) (Tr.owe ((-9223372036854775808 : Int) ≤ k + (7 : Int) ∧ k + (7 : Int) ≤ (9223372036854775807 : Int)) (Tr.ret (D.int IntKind.i64 (k + (7 : Int))) [])))))))) (brT (decide (k = (2 : Int))) (Tr.owe ((-9223372036854775808 : Int) ≤ k ∧ k ≤ (9223372036854775807 : Int)) (Tr.ret (D.int IntKind.i64 k) [])) (brT (decide (k = (4 : Int))) (Tr.ret (D.int IntKind.i64 (3 : Int)) []) (brT (decide (k = (3 : Int))) (Tr.ret (D.int IntKind.i64 (4 : Int)) []) (brT (decide (k = (5 : Int))) (brT (decide (k = (5 : Int))) (Tr.owe ((-9223372036854775808 : Int) ≤ k ∧ k ≤ (9223372036854775807 : Int)) (Tr.ret (D.int IntKind.i64 k) [])) (Tr.owe ((-9223372036854775808 : Int) ≤ k ∧ k ≤ (9223372036854775807 : Int)) (Tr.owe ((-9223372036854775808 : Int) ≤ k + (7 : Int) ∧ k + (7 : Int) ≤ (9223372036854775807 : Int)) (Tr.ret (D.int IntKind.i64 (k + (7 : Int))) [])))) (brT (decide (k = (6 : Int))) (Tr.owe ((-9223372036854775808 : Int) ≤ k ∧ k ≤ (9223372036854775807 : Int)) (Tr.ret (D.int IntKind.i64 k) [])) (Tr.owe ((-9223372036854775808 : Int) ≤ k ∧ k ≤ (9223372036854775807 : Int)) (Tr.owe ((-9223372036854775808 : Int) ≤ k + (7 : Int) ∧ k + (7 : Int) ≤ (9223372036854775807 : Int)) (Tr.ret (D.int IntKind.i64 (k + (7 : Int))) []))))))))
theorem PRr_eq (k : Int) : goT Tryz.prog (ctr libT) (0 : Nat) (finF true (0 : Nat) rs82) (2000 : Nat) [Fr.sc sc82] { tm := envOf (0 : Nat) [D.int IntKind.u8 k], ob := [] } = PRr k := by kernel_rfl
theorem rrank_ok (k : Int) (hk : 0 ≤ k ∧ k ≤ 255) : FnOK Tryz.prog 82 [.int .u8 k] (.int .i64 (rkI k + 1)) := by
  refine FnOK.tree hdraw fp82 (ctr_ok libT_ok qnone_ok) (PRr_eq k) ?_
  unfold PRr
  simp only [ok_br, ok_owe, ok_ret, ok_jmp, decide_eq_true_eq, decide_eq_false_iff_not, Int.toNat_natCast, true_and, and_true, Bool.not_eq_true', Bool.not_eq_false', List.drop_zero, List.take_length, D.bool.injEq, D.int.injEq, D.str.injEq, true_implies, Int.le_refl]
  unfold rkI
  have hc : k = 1 ∨ k = 2 ∨ k = 3 ∨ k = 4 ∨ k = 5 ∨ k = 6 ∨ (k ≠ 1 ∧ k ≠ 2 ∧ k ≠ 3 ∧ k ≠ 4 ∧ k ≠ 5 ∧ k ≠ 6) := by omega
  rcases hc with rfl | rfl | rfl | rfl | rfl | rfl | ⟨h1, h2, h3, h4, h5, h6⟩
  · simp
  · simp
  · simp
  · simp
  · simp
  · simp
  · simp [h1, h2, h3, h4, h5, h6]; omega
end Go.Proofs.YtbcgpkgdbepfbaaGreatDoor
