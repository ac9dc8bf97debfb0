/- The reference model's words. -/
import Derived.Test.YtbcgpkgdbepfbaaGreatDoorWord2
import Derived.Test.YtbcgpkgdbepfbaaGreatDoorSx7
set_option linter.unusedSectionVars false
set_option linter.unusedVariables false
set_option linter.unusedSimpArgs false
set_option linter.deprecated false
set_option maxRecDepth 100000
namespace Go.Proofs.YtbcgpkgdbepfbaaGreatDoor
open Go.Sx
noncomputable def PRlow (b : Int) : Go.Sx.Tr := brT (decide ((97 : Int) ≤ b)) (Tr.ret (D.bool (decide (b ≤ (122 : Int)))) []) (Tr.ret (D.bool false) [])
theorem PRlow_eq (b : Int) : goT Tryz.prog (ctr libT) (0 : Nat) (finF true (0 : Nat) rs37) (2000 : Nat) [Fr.sc sc37] { tm := envOf (0 : Nat) [D.int IntKind.u8 b], ob := [] } = PRlow b := by kernel_rfl
noncomputable def PRupp (b : Int) : Go.Sx.Tr := brT (decide ((65 : Int) ≤ b)) (Tr.ret (D.bool (decide (b ≤ (90 : Int)))) []) (Tr.ret (D.bool false) [])
theorem PRupp_eq (b : Int) : goT Tryz.prog (ctr libT) (0 : Nat) (finF true (0 : Nat) rs43) (2000 : Nat) [Fr.sc sc43] { tm := envOf (0 : Nat) [D.int IntKind.u8 b], ob := [] } = PRupp b := by kernel_rfl
noncomputable def PRdig (b : Int) : Go.Sx.Tr := brT (decide ((48 : Int) ≤ b)) (Tr.ret (D.bool (decide (b ≤ (57 : Int)))) []) (Tr.ret (D.bool false) [])
theorem PRdig_eq (b : Int) : goT Tryz.prog (ctr libT) (0 : Nat) (finF true (0 : Nat) rs44) (2000 : Nat) [Fr.sc sc44] { tm := envOf (0 : Nat) [D.int IntKind.u8 b], ob := [] } = PRdig b := by kernel_rfl
theorem rlow_ok (b : Int) (hb : 0 ≤ b ∧ b < 256) : FnOK Tryz.prog 37 [.int .u8 b] (.bool (tb Lx.isLow b)) := by
  refine FnOK.tree hdraw fp37 (ctr_ok libT_ok qnone_ok) (PRlow_eq b) ?_
  unfold PRlow
  rw [tb_of Lx.isLow b hb (q := fun b => decide (97 ≤ b) && decide (b ≤ 122)) (by kernel_rfl)]
  cases h : decide (97 ≤ b) <;> simp [brT, ok_ret]
theorem rupp_ok (b : Int) (hb : 0 ≤ b ∧ b < 256) : FnOK Tryz.prog 43 [.int .u8 b] (.bool (tb Lx.isUp b)) := by
  refine FnOK.tree hdraw fp43 (ctr_ok libT_ok qnone_ok) (PRupp_eq b) ?_
  unfold PRupp
  rw [tb_of Lx.isUp b hb (q := fun b => decide (65 ≤ b) && decide (b ≤ 90)) (by kernel_rfl)]
  cases h : decide (65 ≤ b) <;> simp [brT, ok_ret]
theorem rdig_ok (b : Int) (hb : 0 ≤ b ∧ b < 256) : FnOK Tryz.prog 44 [.int .u8 b] (.bool (tb Lx.isDig b)) := by
  refine FnOK.tree hdraw fp44 (ctr_ok libT_ok qnone_ok) (PRdig_eq b) ?_
  unfold PRdig
  rw [tb_of Lx.isDig b hb (q := fun b => decide (48 ≤ b) && decide (b ≤ 57)) (by kernel_rfl)]
  cases h : decide (48 ≤ b) <;> simp [brT, ok_ret]
def refF (f : FuncId) : Option (UInt8 → Bool) := if f = 37 then some Lx.isLow else if f = 43 then some Lx.isUp else if f = 44 then some Lx.isDig else none
def refP : PT := fun f xs => match xs with
  | [.int .u8 b] => match refF f with
    | some p => some (.ok (0 ≤ b ∧ b < 256) (.bool (tb p b)) [])
    | none => none
  | _ => none
theorem refP_ok : refP.OK := by
  intro f xs rt h
  unfold refP at h
  split at h
  · split at h
    · rename_i p hp
      cases h
      intro hb
      unfold refF at hp
      split at hp
      · rename_i hf; subst hf; cases hp; exact rlow_ok _ hb
      split at hp
      · rename_i hf; subst hf; cases hp; exact rupp_ok _ hb
      split at hp
      · rename_i hf; subst hf; cases hp; exact rdig_ok _ hb
      · cases hp
    · cases h
  · cases h
noncomputable def PUnd (s : List UInt8) : Go.Sx.Tr := Tr.jmp (cut sc36 (0 : Nat)) { tm := [((0 : Nat), D.str s), ((3 : Nat), D.int IntKind.i64 (0 : Int))], ob := [] }
theorem PUnd_eq (s : List UInt8) : goT Tryz.prog (ctr refP) (0 : Nat) (finF true (0 : Nat) rs36) (2000 : Nat) [Fr.sc sc36] { tm := envOf (0 : Nat) [D.str s], ob := [] } = PUnd s := by kernel_rfl
def hdUnd (s : List UInt8) (i : Int) : St := ⟨[(0, .str s), (3, .int .i64 i)], []⟩
noncomputable def PUnd2 (s : List UInt8) (i : Int) : Go.Sx.Tr := brT (decide (i < (↑(List.length s) : Int))) (Tr.owe ((0 : Int) ≤ i ∧ i < (↑(List.length s) : Int)) (brT (decide ((↑(UInt8.toNat (List.getD s (Int.toNat i) (0 : UInt8))) : Int) = (95 : Int))) (Tr.owe ((-9223372036854775808 : Int) ≤ i + (1 : Int) ∧ i + (1 : Int) ≤ (9223372036854775807 : Int)) (Tr.jmp (cut sc36 (0 : Nat)) { tm := [((0 : Nat), D.str s), ((3 : Nat), D.int IntKind.i64 (i + (1 : Int)))], ob := [] })) (Tr.ret (D.int IntKind.i64 i) []))) (Tr.ret (D.int IntKind.i64 i) [])
theorem PUnd2_eq (s : List UInt8) (i : Int) : goT Tryz.prog (ctr refP) (0 : Nat) (finF true (0 : Nat) rs36) (2000 : Nat) (cut sc36 (0 : Nat)) (hdUnd s i) = PUnd2 s i := by kernel_rfl
noncomputable def PWo (s : List UInt8) (n : Int) : Go.Sx.Tr := Tr.jmp (cut sc38 (0 : Nat)) { tm := [((0 : Nat), D.str s), ((5 : Nat), D.int IntKind.i64 n)], ob := [] }
theorem PWo_eq (s : List UInt8) (n : Int) : goT Tryz.prog (ctr refP) (0 : Nat) (finF true (0 : Nat) rs38) (2000 : Nat) [Fr.sc sc38] { tm := envOf (0 : Nat) [D.str s, D.int IntKind.i64 n], ob := [] } = PWo s n := by kernel_rfl
def hdWo (s : List UInt8) (i : Int) : St := ⟨[(0, .str s), (5, .int .i64 i)], []⟩
noncomputable def PWo2 (s : List UInt8) (i : Int) : Go.Sx.Tr := brT (decide (i < (↑(List.length s) : Int))) (Tr.owe ((0 : Int) ≤ i ∧ i < (↑(List.length s) : Int)) (Tr.owe ((0 : Int) ≤ (↑(UInt8.toNat (List.getD s (Int.toNat i) (0 : UInt8))) : Int) ∧ (↑(UInt8.toNat (List.getD s (Int.toNat i) (0 : UInt8))) : Int) < (256 : Int)) (brT (!tb Lx.isLow (↑(UInt8.toNat (List.getD s (Int.toNat i) (0 : UInt8))) : Int)) (Tr.owe ((0 : Int) ≤ i ∧ i < (↑(List.length s) : Int)) (Tr.owe ((0 : Int) ≤ (↑(UInt8.toNat (List.getD s (Int.toNat i) (0 : UInt8))) : Int) ∧ (↑(UInt8.toNat (List.getD s (Int.toNat i) (0 : UInt8))) : Int) < (256 : Int)) (brT (!tb Lx.isUp (↑(UInt8.toNat (List.getD s (Int.toNat i) (0 : UInt8))) : Int)) (Tr.owe ((0 : Int) ≤ i ∧ i < (↑(List.length s) : Int)) (Tr.owe ((0 : Int) ≤ (↑(UInt8.toNat (List.getD s (Int.toNat i) (0 : UInt8))) : Int) ∧ (↑(UInt8.toNat (List.getD s (Int.toNat i) (0 : UInt8))) : Int) < (256 : Int)) (brT (!tb Lx.isDig (↑(UInt8.toNat (List.getD s (Int.toNat i) (0 : UInt8))) : Int)) (Tr.owe ((0 : Int) ≤ i ∧ i < (↑(List.length s) : Int)) (brT (!decide ((↑(UInt8.toNat (List.getD s (Int.toNat i) (0 : UInt8))) : Int) = (95 : Int))) (Tr.ret (D.bool false) []) (Tr.owe ((-9223372036854775808 : Int) ≤ i + (1 : Int) ∧ i + (1 : Int) ≤ (9223372036854775807 : Int)) (Tr.jmp (cut sc38 (0 : Nat)) { tm := [((0 : Nat), D.str s), ((5 : Nat), D.int IntKind.i64 (i + (1 : Int)))], ob := [] })))) (Tr.owe ((-9223372036854775808 : Int) ≤ i + (1 : Int) ∧ i + (1 : Int) ≤ (9223372036854775807 : Int)) (Tr.jmp (cut sc38 (0 : Nat)) { tm := [((0 : Nat), D.str s), ((5 : Nat), D.int IntKind.i64 (i + (1 : Int)))], ob := [] }))))) (Tr.owe ((-9223372036854775808 : Int) ≤ i + (1 : Int) ∧ i + (1 : Int) ≤ (9223372036854775807 : Int)) (Tr.jmp (cut sc38 (0 : Nat)) { tm := [((0 : Nat), D.str s), ((5 : Nat), D.int IntKind.i64 (i + (1 : Int)))], ob := [] }))))) (Tr.owe ((-9223372036854775808 : Int) ≤ i + (1 : Int) ∧ i + (1 : Int) ≤ (9223372036854775807 : Int)) (Tr.jmp (cut sc38 (0 : Nat)) { tm := [((0 : Nat), D.str s), ((5 : Nat), D.int IntKind.i64 (i + (1 : Int)))], ob := [] }))))) (Tr.ret (D.bool (decide ((↑(List.length s) : Int) ≤ (32 : Int)))) [])
theorem PWo2_eq (s : List UInt8) (i : Int) : goT Tryz.prog (ctr refP) (0 : Nat) (finF true (0 : Nat) rs38) (2000 : Nat) (cut sc38 (0 : Nat)) (hdWo s i) = PWo2 s i := by kernel_rfl
theorem und95 (b : UInt8) : decide ((b.toNat : Int) = 95) = Lx.isUnd b := by
  unfold Lx.isUnd
  by_cases h : b = 95
  · subst h; rfl
  · have h2 : ¬ ((b.toNat : Int) = 95) := fun h2 => h (UInt8.toNat_inj.1 (by have : (95 : UInt8).toNat = 95 := rfl; omega))
    rw [decide_eq_false h2]; simp [h]
theorem und_at (s : List UInt8) (hl : s.length ≤ 4611686018427387904) : ∀ (m i : Nat), s.length - i = m → i ≤ s.length →
    At Tryz.prog 0 (cut sc36 0) (hdUnd s i) (FinQ true 0 rs36 fun r _ => r = .int .i64 (runTo Lx.isUnd s i)) := by
  intro m
  induction m with
  | zero =>
    intro i hm hi
    refine At.tree (ctr_ok refP_ok qnone_ok) (PUnd2_eq s i) ?_
    unfold PUnd2
    rw [runTo_end (by omega)]
    simp only [ok_br, ok_owe, ok_ret, ok_jmp, decide_eq_true_eq, decide_eq_false_iff_not, Int.toNat_natCast, true_and, and_true, Bool.not_eq_true', Bool.not_eq_false', List.drop_zero, List.take_length, D.bool.injEq, D.int.injEq, D.str.injEq, true_implies, Int.le_refl]
    exact ⟨fun h => by omega, fun _ => trivial⟩
  | succ m ih =>
    intro i hm hi
    have h1 : i < s.length := by omega
    refine At.tree (ctr_ok refP_ok qnone_ok) (PUnd2_eq s i) ?_
    unfold PUnd2
    rw [und95]
    simp only [ok_br, ok_owe, ok_ret, ok_jmp, decide_eq_true_eq, decide_eq_false_iff_not, Int.toNat_natCast, true_and, and_true, Bool.not_eq_true', Bool.not_eq_false', List.drop_zero, List.take_length, D.bool.injEq, D.int.injEq, D.str.injEq, true_implies, Int.le_refl]
    refine ⟨fun _ => ⟨by omega, fun h => ⟨by omega, ?_⟩, fun h => by rw [runTo_stop h1 h]⟩, fun h => by omega⟩
    rw [runTo_step h1 h]; exact ih (i + 1) (by omega) (by omega)
theorem und_ok (s : List UInt8) (hl : s.length ≤ 4611686018427387904) : FnOK Tryz.prog 36 [.str s] (.int .i64 (runTo Lx.isUnd s 0)) :=
  FnOK.tree hdraw fp36 (ctr_ok refP_ok qnone_ok) (PUnd_eq s) (und_at s hl _ 0 rfl (Nat.zero_le _))
theorem wo_at (s : List UInt8) (hl : s.length ≤ 4611686018427387904) : ∀ (m i : Nat), s.length - i = m → i ≤ s.length →
    At Tryz.prog 0 (cut sc38 0) (hdWo s i) (FinQ true 0 rs38 fun r _ => r = .bool ((s.drop i).all Lx.isName && decide (s.length ≤ 32))) := by
  intro m
  induction m with
  | zero =>
    intro i hm hi
    refine At.tree (ctr_ok refP_ok qnone_ok) (PWo2_eq s i) ?_
    unfold PWo2
    rw [List.drop_eq_nil_of_le (by omega)]
    simp only [ok_br, ok_owe, ok_ret, ok_jmp, decide_eq_true_eq, decide_eq_false_iff_not, Int.toNat_natCast, true_and, and_true, Bool.not_eq_true', Bool.not_eq_false', List.drop_zero, List.take_length, D.bool.injEq, D.int.injEq, D.str.injEq, true_implies, Int.le_refl]
    exact ⟨fun h => by omega, fun _ => by rw [List.all_nil, Bool.true_and]; exact decide_eq_decide.2 (by omega)⟩
  | succ m ih =>
    intro i hm hi
    have h1 : i < s.length := by omega
    refine At.tree (ctr_ok refP_ok qnone_ok) (PWo2_eq s i) ?_
    unfold PWo2
    have hI := ih (i + 1) (by omega) (by omega)
    have hx : 0 ≤ (i : Int) ∧ (i : Int) < s.length := by omega
    have hr : -9223372036854775808 ≤ (i : Int) + 1 ∧ (i : Int) + 1 ≤ 9223372036854775807 := by omega
    have hb := byte_lt s i
    rw [all_drop h1]
    simp only [und95, tb_nat, ok_br, ok_owe, ok_ret, ok_jmp, decide_eq_true_eq, decide_eq_false_iff_not, Int.toNat_natCast, true_and, and_true, Bool.not_eq_true', Bool.not_eq_false', List.drop_zero, List.take_length, D.bool.injEq, D.int.injEq, D.str.injEq, true_implies, Int.le_refl, hx, hr, hb, not_true_eq_false, false_implies, false_and, true_implies, forall_const]
    generalize s.getD i 0 = b
    unfold Lx.isName Lx.isLet
    refine ⟨fun h1 => ⟨fun h2 => ⟨fun h3 => ⟨fun h4 => ?_, fun h4 => ?_⟩, fun h3 => ?_⟩, fun h2 => ?_⟩, fun h1 => ?_⟩
    · simp only [h1, h2, h3, h4, Bool.or_false, Bool.false_and]
    · simp only [h4, Bool.or_true, Bool.true_and]; exact hI
    · simp only [h3, Bool.or_true, Bool.true_or, Bool.true_and]; exact hI
    · simp only [h2, Bool.or_true, Bool.true_or, Bool.true_and]; exact hI
    · simp only [h1, Bool.true_or, Bool.true_and]; exact hI
theorem wo_ok (s : List UInt8) (n : Nat) (hl : s.length ≤ 4611686018427387904) (hn : n ≤ s.length) : FnOK Tryz.prog 38 [.str s, .int .i64 n] (.bool ((s.drop n).all Lx.isName && decide (s.length ≤ 32))) :=
  FnOK.tree hdraw fp38 (ctr_ok refP_ok qnone_ok) (PWo_eq s n) (wo_at s hl _ n rfl hn)
def refP2 : PT := fun f xs => match xs with
  | [.str s] => if f = 36 then some (.ok (s.length ≤ 4611686018427387904) (.int .i64 (runTo Lx.isUnd s 0)) []) else none
  | [.str s, .int .i64 n] => if f = 38 then some (.ok (s.length ≤ 4611686018427387904 ∧ 0 ≤ n ∧ n ≤ s.length) (.bool ((s.drop n.toNat).all Lx.isName && decide (s.length ≤ 32))) []) else none
  | xs => refP f xs
theorem refP2_ok : refP2.OK := by
  intro f xs rt h
  unfold refP2 at h
  split at h
  · split at h
    · rename_i hf; subst hf; cases h; exact fun hl => und_ok _ hl
    · cases h
  · split at h
    · rename_i hf; subst hf; cases h
      rintro ⟨h1, h2, h3⟩
      have := wo_ok _ _ h1 (show Int.toNat _ ≤ _ from Int.toNat_le.2 h3)
      rwa [Int.toNat_of_nonneg h2] at this
    · cases h
  · exact refP_ok _ _ _ h
noncomputable def PSy (s : List UInt8) : Go.Sx.Tr := Tr.owe (List.length s ≤ (4611686018427387904 : Nat)) (brT (decide ((↑(runTo Lx.isUnd s (0 : Nat)) : Int) < (↑(List.length s) : Int))) (Tr.owe ((0 : Int) ≤ (↑(runTo Lx.isUnd s (0 : Nat)) : Int) ∧ (↑(runTo Lx.isUnd s (0 : Nat)) : Int) < (↑(List.length s) : Int)) (Tr.owe ((0 : Int) ≤ (↑(UInt8.toNat (List.getD s (Int.toNat (↑(runTo Lx.isUnd s (0 : Nat)) : Int)) (0 : UInt8))) : Int) ∧ (↑(UInt8.toNat (List.getD s (Int.toNat (↑(runTo Lx.isUnd s (0 : Nat)) : Int)) (0 : UInt8))) : Int) < (256 : Int)) (brT (tb Lx.isLow (↑(UInt8.toNat (List.getD s (Int.toNat (↑(runTo Lx.isUnd s (0 : Nat)) : Int)) (0 : UInt8))) : Int)) (Tr.owe (List.length s ≤ (4611686018427387904 : Nat) ∧ (0 : Int) ≤ (↑(runTo Lx.isUnd s (0 : Nat)) : Int) ∧ (↑(runTo Lx.isUnd s (0 : Nat)) : Int) ≤ (↑(List.length s) : Int)) (brT (List.all (List.drop (Int.toNat (↑(runTo Lx.isUnd s (0 : Nat)) : Int)) s) Lx.isName && decide (List.length s ≤ (32 : Nat))) (Tr.ret (D.bool !decide (s = [(110 : UInt8), (111 : UInt8), (116 : UInt8)])) []) (Tr.ret (D.bool false) []))) (Tr.ret (D.bool false) [])))) (Tr.ret (D.bool false) []))
theorem PSy_eq (s : List UInt8) : goT Tryz.prog (ctr refP2) (0 : Nat) (finF true (0 : Nat) rs11) (2000 : Nat) [Fr.sc sc11] { tm := envOf (0 : Nat) [D.str s], ob := [] } = PSy s := by kernel_rfl
noncomputable def PVa (s : List UInt8) : Go.Sx.Tr := Tr.owe (List.length s ≤ (4611686018427387904 : Nat)) (brT (decide ((↑(runTo Lx.isUnd s (0 : Nat)) : Int) < (↑(List.length s) : Int))) (Tr.owe ((0 : Int) ≤ (↑(runTo Lx.isUnd s (0 : Nat)) : Int) ∧ (↑(runTo Lx.isUnd s (0 : Nat)) : Int) < (↑(List.length s) : Int)) (Tr.owe ((0 : Int) ≤ (↑(UInt8.toNat (List.getD s (Int.toNat (↑(runTo Lx.isUnd s (0 : Nat)) : Int)) (0 : UInt8))) : Int) ∧ (↑(UInt8.toNat (List.getD s (Int.toNat (↑(runTo Lx.isUnd s (0 : Nat)) : Int)) (0 : UInt8))) : Int) < (256 : Int)) (brT (tb Lx.isUp (↑(UInt8.toNat (List.getD s (Int.toNat (↑(runTo Lx.isUnd s (0 : Nat)) : Int)) (0 : UInt8))) : Int)) (Tr.owe (List.length s ≤ (4611686018427387904 : Nat) ∧ (0 : Int) ≤ (↑(runTo Lx.isUnd s (0 : Nat)) : Int) ∧ (↑(runTo Lx.isUnd s (0 : Nat)) : Int) ≤ (↑(List.length s) : Int)) (Tr.ret (D.bool (List.all (List.drop (Int.toNat (↑(runTo Lx.isUnd s (0 : Nat)) : Int)) s) Lx.isName && decide (List.length s ≤ (32 : Nat)))) [])) (brT (!decide ((↑(runTo Lx.isUnd s (0 : Nat)) : Int) = (1 : Int))) (Tr.ret (D.bool false) []) (brT (decide ((32 : Int) < (↑(List.length s) : Int))) (Tr.ret (D.bool false) []) (Tr.jmp (cut sc13 (0 : Nat)) { tm := [((0 : Nat), D.str s), ((4 : Nat), D.int IntKind.i64 (1 : Int))], ob := [] })))))) (brT (!decide ((↑(runTo Lx.isUnd s (0 : Nat)) : Int) = (1 : Int))) (Tr.ret (D.bool false) []) (brT (decide ((32 : Int) < (↑(List.length s) : Int))) (Tr.ret (D.bool false) []) (Tr.jmp (cut sc13 (0 : Nat)) { tm := [((0 : Nat), D.str s), ((4 : Nat), D.int IntKind.i64 (1 : Int))], ob := [] }))))
theorem PVa_eq (s : List UInt8) : goT Tryz.prog (ctr refP2) (0 : Nat) (finF true (0 : Nat) rs13) (2000 : Nat) [Fr.sc sc13] { tm := envOf (0 : Nat) [D.str s], ob := [] } = PVa s := by kernel_rfl
def hdVa (s : List UInt8) (i : Int) : St := ⟨[(0, .str s), (4, .int .i64 i)], []⟩
noncomputable def PVa2 (s : List UInt8) (i : Int) : Go.Sx.Tr := brT (decide (i < (↑(List.length s) : Int))) (Tr.owe ((0 : Int) ≤ i ∧ i < (↑(List.length s) : Int)) (Tr.owe ((0 : Int) ≤ (↑(UInt8.toNat (List.getD s (Int.toNat i) (0 : UInt8))) : Int) ∧ (↑(UInt8.toNat (List.getD s (Int.toNat i) (0 : UInt8))) : Int) < (256 : Int)) (brT (!tb Lx.isDig (↑(UInt8.toNat (List.getD s (Int.toNat i) (0 : UInt8))) : Int)) (Tr.ret (D.bool false) []) (Tr.owe ((-9223372036854775808 : Int) ≤ i + (1 : Int) ∧ i + (1 : Int) ≤ (9223372036854775807 : Int)) (Tr.jmp (cut sc13 (0 : Nat)) { tm := [((0 : Nat), D.str s), ((4 : Nat), D.int IntKind.i64 (i + (1 : Int)))], ob := [] }))))) (Tr.ret (D.bool true) [])
theorem PVa2_eq (s : List UInt8) (i : Int) : goT Tryz.prog (ctr refP2) (0 : Nat) (finF true (0 : Nat) rs13) (2000 : Nat) (cut sc13 (0 : Nat)) (hdVa s i) = PVa2 s i := by kernel_rfl
theorem symR_ok (s : List UInt8) (hl : s.length ≤ 4611686018427387904) : FnOK Tryz.prog 11 [.str s] (.bool (Lx.symbolB s)) := by
  refine FnOK.tree hdraw fp11 (ctr_ok refP2_ok qnone_ok) (PSy_eq s) ?_
  unfold PSy
  have hn : runTo Lx.isUnd s 0 ≤ s.length := runTo_len (Nat.zero_le _)
  have e : ((runTo Lx.isUnd s 0 : Nat) : Int).toNat = runTo Lx.isUnd s 0 := Int.toNat_natCast _
  rw [Lx.symbolB_ref]
  generalize runTo Lx.isUnd s 0 = n at hn e ⊢
  have hd : decide ((n : Int) < s.length) = decide (n < s.length) := decide_eq_decide.2 (by omega)
  simp only [hd, e, tb_nat, ok_br, ok_owe, ok_ret]
  refine ⟨hl, fun h1 => ⟨by have := of_decide_eq_true h1; omega, byte_lt s n, fun h2 => ⟨⟨hl, by omega, by omega⟩, fun h3 => ?_, fun h3 => ?_⟩, fun h2 => ?_⟩, fun h1 => ?_⟩
  · rw [h1, h2, h3]; rfl
  · rw [h3]; simp
  · rw [h2]; simp
  · rw [h1]; simp
theorem va_at (s : List UInt8) (hl : s.length ≤ 4611686018427387904) : ∀ (m i : Nat), s.length - i = m → i ≤ s.length →
    At Tryz.prog 0 (cut sc13 0) (hdVa s i) (FinQ true 0 rs13 fun r _ => r = .bool ((s.drop i).all Lx.isDig)) := by
  intro m
  induction m with
  | zero =>
    intro i hm hi
    refine At.tree (ctr_ok refP2_ok qnone_ok) (PVa2_eq s i) ?_
    unfold PVa2
    rw [List.drop_eq_nil_of_le (by omega)]
    simp only [ok_br, ok_owe, ok_ret, ok_jmp, decide_eq_true_eq, decide_eq_false_iff_not, Int.toNat_natCast, true_and, and_true, Bool.not_eq_true', Bool.not_eq_false', List.drop_zero, List.take_length, D.bool.injEq, D.int.injEq, D.str.injEq, true_implies, Int.le_refl]
    exact ⟨fun h => by omega, fun _ => rfl⟩
  | succ m ih =>
    intro i hm hi
    have h1 : i < s.length := by omega
    refine At.tree (ctr_ok refP2_ok qnone_ok) (PVa2_eq s i) ?_
    unfold PVa2
    rw [all_drop h1]
    simp only [tb_nat, ok_br, ok_owe, ok_ret, ok_jmp, decide_eq_true_eq, decide_eq_false_iff_not, Int.toNat_natCast, true_and, and_true, Bool.not_eq_true', Bool.not_eq_false', List.drop_zero, List.take_length, D.bool.injEq, D.int.injEq, D.str.injEq, true_implies, Int.le_refl]
    refine ⟨fun _ => ⟨by omega, byte_lt s i, fun h => by rw [h, Bool.false_and], fun h => ⟨by omega, ?_⟩⟩, fun h => by omega⟩
    rw [h, Bool.true_and]; exact ih (i + 1) (by omega) (by omega)
theorem varR_ok (s : List UInt8) (hl : s.length ≤ 4611686018427387904) : FnOK Tryz.prog 13 [.str s] (.bool (Lx.variableB s)) := by
  refine FnOK.tree hdraw fp13 (ctr_ok refP2_ok qnone_ok) (PVa_eq s) ?_
  unfold PVa
  have hn : runTo Lx.isUnd s 0 ≤ s.length := runTo_len (Nat.zero_le _)
  have e : ((runTo Lx.isUnd s 0 : Nat) : Int).toNat = runTo Lx.isUnd s 0 := Int.toNat_natCast _
  rw [← Lx.varR_eq]
  unfold Lx.varR
  have hA := fun h : 1 ≤ s.length => va_at s hl _ 1 rfl h
  generalize runTo Lx.isUnd s 0 = n at hn e ⊢
  simp only [e, tb_nat, ok_br, ok_owe, ok_ret, ok_jmp, decide_eq_true_eq, decide_eq_false_iff_not, Int.toNat_natCast, true_and, and_true, Bool.not_eq_true', Bool.not_eq_false', List.drop_zero, List.take_length, D.bool.injEq, D.int.injEq, D.str.injEq, true_implies, Int.le_refl]
  refine ⟨hl, fun h1 => ⟨by omega, byte_lt s n, fun h2 => ⟨⟨hl, by omega, by omega⟩, ?_⟩, fun h2 => ⟨fun h3 => ?_, fun h3 => ⟨fun h4 => ?_, fun h4 => ?_⟩⟩⟩, fun h1 => ⟨fun h3 => ?_, fun h3 => ⟨fun h4 => ?_, fun h4 => ?_⟩⟩⟩
  · rw [if_pos ⟨by omega, h2⟩]
  · rw [if_neg (fun h => by rw [h2] at h; simp at h), if_neg (by omega)]
  · rw [if_neg (fun h => by rw [h2] at h; simp at h), if_neg (by omega)]
  · rw [if_neg (fun h => by rw [h2] at h; simp at h), if_pos ⟨by omega, by omega⟩]; exact hA (by omega)
  · rw [if_neg (by omega), if_neg (by omega)]
  · rw [if_neg (by omega), if_neg (by omega)]
  · rw [if_neg (by omega), if_pos ⟨by omega, by omega⟩]; exact hA (by omega)
def refP3 : PT := fun f xs => match xs with
  | [.str s] => if f = 11 then some (.ok (s.length ≤ 4611686018427387904) (.bool (Lx.symbolB s)) []) else if f = 13 then some (.ok (s.length ≤ 4611686018427387904) (.bool (Lx.variableB s)) []) else refP f xs
  | xs => refP f xs
theorem refP3_ok : refP3.OK := by
  intro f xs rt h
  unfold refP3 at h
  split at h
  · split at h
    · rename_i hf; subst hf; cases h; exact fun hl => symR_ok _ hl
    split at h
    · rename_i hf; subst hf; cases h; exact fun hl => varR_ok _ hl
    · exact refP_ok _ _ _ h
  · exact refP_ok _ _ _ h
end Go.Proofs.YtbcgpkgdbepfbaaGreatDoor
