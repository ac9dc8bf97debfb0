/- The reference model's words. -/
import Derived.Test.YtdkbjkccpnhjgaaGreatDoorAll
import Derived.Test.YtdkbjkccpnhjgaaGreatDoorSx6
set_option linter.unusedSectionVars false
set_option linter.unusedVariables false
set_option linter.unusedSimpArgs false
set_option linter.deprecated false
set_option maxRecDepth 100000
namespace Go.Proofs.YtdkbjkccpnhjgaaGreatDoor
open Go.Sx
noncomputable def PRlow (b : Int) : Go.Sx.Tr := brT (decide ((97 : Int) ≤ b)) (Tr.ret (D.bool (decide (b ≤ (122 : Int)))) []) (Tr.ret (D.bool false) [])
theorem PRlow_eq (b : Int) : goT Tryz.prog (ctr libT) (0 : Nat) (finF true (0 : Nat) rs81) (2000 : Nat) [Fr.sc sc81] { tm := envOf (0 : Nat) [D.int IntKind.u8 b], ob := [] } = PRlow b := by kernel_rfl
noncomputable def PRupp (b : Int) : Go.Sx.Tr := brT (decide ((65 : Int) ≤ b)) (Tr.ret (D.bool (decide (b ≤ (90 : Int)))) []) (Tr.ret (D.bool false) [])
theorem PRupp_eq (b : Int) : goT Tryz.prog (ctr libT) (0 : Nat) (finF true (0 : Nat) rs83) (2000 : Nat) [Fr.sc sc83] { tm := envOf (0 : Nat) [D.int IntKind.u8 b], ob := [] } = PRupp b := by kernel_rfl
noncomputable def PRdig (b : Int) : Go.Sx.Tr := brT (decide ((48 : Int) ≤ b)) (Tr.ret (D.bool (decide (b ≤ (57 : Int)))) []) (Tr.ret (D.bool false) [])
theorem PRdig_eq (b : Int) : goT Tryz.prog (ctr libT) (0 : Nat) (finF true (0 : Nat) rs84) (2000 : Nat) [Fr.sc sc84] { tm := envOf (0 : Nat) [D.int IntKind.u8 b], ob := [] } = PRdig b := by kernel_rfl
noncomputable def PRlet (b : Int) : Go.Sx.Tr := brT (decide ((97 : Int) ≤ b)) (brT (decide (b ≤ (122 : Int))) (Tr.ret (D.bool true) []) (brT (decide ((65 : Int) ≤ b)) (Tr.ret (D.bool (decide (b ≤ (90 : Int)))) []) (Tr.ret (D.bool false) []))) (brT (decide ((65 : Int) ≤ b)) (Tr.ret (D.bool (decide (b ≤ (90 : Int)))) []) (Tr.ret (D.bool false) []))
theorem PRlet_eq (b : Int) : goT Tryz.prog (ctr libT) (0 : Nat) (finF true (0 : Nat) rs32) (2000 : Nat) [Fr.sc sc32] { tm := envOf (0 : Nat) [D.int IntKind.u8 b], ob := [] } = PRlet b := by kernel_rfl
noncomputable def PRdi3 (b : Int) : Go.Sx.Tr := brT (decide ((48 : Int) ≤ b)) (Tr.ret (D.bool (decide (b ≤ (57 : Int)))) []) (Tr.ret (D.bool false) [])
theorem PRdi3_eq (b : Int) : goT Tryz.prog (ctr libT) (0 : Nat) (finF true (0 : Nat) rs33) (2000 : Nat) [Fr.sc sc33] { tm := envOf (0 : Nat) [D.int IntKind.u8 b], ob := [] } = PRdi3 b := by kernel_rfl
noncomputable def PRbla (b : Int) : Go.Sx.Tr := brT (decide (b = (32 : Int))) (Tr.ret (D.bool true) []) (brT (decide (b = (9 : Int))) (Tr.ret (D.bool true) []) (brT (decide (b = (10 : Int))) (Tr.ret (D.bool true) []) (Tr.ret (D.bool (decide (b = (13 : Int)))) [])))
theorem PRbla_eq (b : Int) : goT Tryz.prog (ctr libT) (0 : Nat) (finF true (0 : Nat) rs31) (2000 : Nat) [Fr.sc sc31] { tm := envOf (0 : Nat) [D.int IntKind.u8 b], ob := [] } = PRbla b := by kernel_rfl
theorem rlow_ok (b : Int) (hb : 0 ≤ b ∧ b < 256) : FnOK Tryz.prog 81 [.int .u8 b] (.bool (tb Lx.isLow b)) := by
  refine FnOK.tree hdraw fp81 (ctr_ok libT_ok qnone_ok) (PRlow_eq b) ?_
  unfold PRlow
  rw [tb_of Lx.isLow b hb (q := fun b => decide (97 ≤ b) && decide (b ≤ 122)) (by kernel_rfl)]
  cases h : decide (97 ≤ b) <;> simp [brT, ok_ret]
theorem rupp_ok (b : Int) (hb : 0 ≤ b ∧ b < 256) : FnOK Tryz.prog 83 [.int .u8 b] (.bool (tb Lx.isUp b)) := by
  refine FnOK.tree hdraw fp83 (ctr_ok libT_ok qnone_ok) (PRupp_eq b) ?_
  unfold PRupp
  rw [tb_of Lx.isUp b hb (q := fun b => decide (65 ≤ b) && decide (b ≤ 90)) (by kernel_rfl)]
  cases h : decide (65 ≤ b) <;> simp [brT, ok_ret]
theorem rdig_ok (b : Int) (hb : 0 ≤ b ∧ b < 256) : FnOK Tryz.prog 84 [.int .u8 b] (.bool (tb Lx.isDig b)) := by
  refine FnOK.tree hdraw fp84 (ctr_ok libT_ok qnone_ok) (PRdig_eq b) ?_
  unfold PRdig
  rw [tb_of Lx.isDig b hb (q := fun b => decide (48 ≤ b) && decide (b ≤ 57)) (by kernel_rfl)]
  cases h : decide (48 ≤ b) <;> simp [brT, ok_ret]
theorem rdi3_ok (b : Int) (hb : 0 ≤ b ∧ b < 256) : FnOK Tryz.prog 33 [.int .u8 b] (.bool (tb Lx.isDig b)) := by
  refine FnOK.tree hdraw fp33 (ctr_ok libT_ok qnone_ok) (PRdi3_eq b) ?_
  unfold PRdi3
  rw [tb_of Lx.isDig b hb (q := fun b => decide (48 ≤ b) && decide (b ≤ 57)) (by kernel_rfl)]
  cases h : decide (48 ≤ b) <;> simp [brT, ok_ret]
theorem rlet_ok (b : Int) (hb : 0 ≤ b ∧ b < 256) : FnOK Tryz.prog 32 [.int .u8 b] (.bool (tb Lx.isLet b)) := by
  refine FnOK.tree hdraw fp32 (ctr_ok libT_ok qnone_ok) (PRlet_eq b) ?_
  unfold PRlet
  rw [tb_of Lx.isLet b hb (q := fun b => decide (97 ≤ b) && decide (b ≤ 122) || decide (65 ≤ b) && decide (b ≤ 90)) (by kernel_rfl)]
  cases h : decide (97 ≤ b) <;> cases h2 : decide (b ≤ 122) <;> cases h3 : decide (65 ≤ b) <;> simp [brT, ok_ret]
theorem rbla_ok (b : Int) (hb : 0 ≤ b ∧ b < 256) : FnOK Tryz.prog 31 [.int .u8 b] (.bool (tb Lx.isBlank b)) := by
  refine FnOK.tree hdraw fp31 (ctr_ok libT_ok qnone_ok) (PRbla_eq b) ?_
  unfold PRbla
  rw [tb_of Lx.isBlank b hb (q := fun b => decide (b = 32) || decide (b = 9) || decide (b = 10) || decide (b = 13)) (by kernel_rfl)]
  cases h : decide (b = 32) <;> cases h2 : decide (b = 9) <;> cases h3 : decide (b = 10) <;> simp [brT, ok_ret]
def refF (f : FuncId) : Option (UInt8 → Bool) := if f = 81 then some Lx.isLow else if f = 83 then some Lx.isUp else if f = 84 then some Lx.isDig else if f = 33 then some Lx.isDig
  else if f = 32 then some Lx.isLet else if f = 31 then some Lx.isBlank else none
def refP : PT := fun f xs => match xs with
  | [.int .u8 b] => match refF f with
    | some p => some (.ok (0 ≤ b ∧ b < 256) (.bool (tb p b)) [])
    | none => none
  | _ => none
theorem refP_ok : refP.OK := by
  intro f xs rt h
  unfold refP at h
  split at h
  · split at h
    · rename_i p hp
      cases h
      intro hb
      unfold refF at hp
      split at hp
      · rename_i hf; subst hf; cases hp; exact rlow_ok _ hb
      split at hp
      · rename_i hf; subst hf; cases hp; exact rupp_ok _ hb
      split at hp
      · rename_i hf; subst hf; cases hp; exact rdig_ok _ hb
      split at hp
      · rename_i hf; subst hf; cases hp; exact rdi3_ok _ hb
      split at hp
      · rename_i hf; subst hf; cases hp; exact rlet_ok _ hb
      split at hp
      · rename_i hf; subst hf; cases hp; exact rbla_ok _ hb
      · cases hp
    · cases h
  · cases h
noncomputable def PUnd (s : List UInt8) : Go.Sx.Tr := Tr.jmp (cut sc80 (0 : Nat)) { tm := [((0 : Nat), D.str s), ((3 : Nat), D.int IntKind.i64 (0 : Int))], ob := [] }
theorem PUnd_eq (s : List UInt8) : goT Tryz.prog (ctr refP) (0 : Nat) (finF true (0 : Nat) rs80) (2000 : Nat) [Fr.sc sc80] { tm := envOf (0 : Nat) [D.str s], ob := [] } = PUnd s := by kernel_rfl
def hdUnd (s : List UInt8) (i : Int) : St := ⟨[(0, .str s), (3, .int .i64 i)], []⟩
noncomputable def PUnd2 (s : List UInt8) (i : Int) : Go.Sx.Tr := brT (decide (i < (↑(List.length s) : Int))) (Tr.owe ((0 : Int) ≤ i ∧ i < (↑(List.length s) : Int)) (brT (decide ((↑(UInt8.toNat (List.getD s (Int.toNat i) (0 : UInt8))) : Int) = (95 : Int))) (Tr.owe ((-9223372036854775808 : Int) ≤ i + (1 : Int) ∧ i + (1 : Int) ≤ (9223372036854775807 : Int)) (Tr.jmp (cut sc80 (0 : Nat)) { tm := [((0 : Nat), D.str s), ((3 : Nat), D.int IntKind.i64 (i + (1 : Int)))], ob := [] })) (Tr.ret (D.int IntKind.i64 i) []))) (Tr.ret (D.int IntKind.i64 i) [])
theorem PUnd2_eq (s : List UInt8) (i : Int) : goT Tryz.prog (ctr refP) (0 : Nat) (finF true (0 : Nat) rs80) (2000 : Nat) (cut sc80 (0 : Nat)) (hdUnd s i) = PUnd2 s i := by kernel_rfl
noncomputable def PWo (s : List UInt8) (n : Int) : Go.Sx.Tr := Tr.jmp (cut sc82 (0 : Nat)) { tm := [((0 : Nat), D.str s), ((5 : Nat), D.int IntKind.i64 n)], ob := [] }
theorem PWo_eq (s : List UInt8) (n : Int) : goT Tryz.prog (ctr refP) (0 : Nat) (finF true (0 : Nat) rs82) (2000 : Nat) [Fr.sc sc82] { tm := envOf (0 : Nat) [D.str s, D.int IntKind.i64 n], ob := [] } = PWo s n := by kernel_rfl
def hdWo (s : List UInt8) (i : Int) : St := ⟨[(0, .str s), (5, .int .i64 i)], []⟩
noncomputable def PWo2 (s : List UInt8) (i : Int) : Go.Sx.Tr := brT (decide (i < (↑(List.length s) : Int))) (Tr.owe ((0 : Int) ≤ i ∧ i < (↑(List.length s) : Int)) (Tr.owe ((0 : Int) ≤ (↑(UInt8.toNat (List.getD s (Int.toNat i) (0 : UInt8))) : Int) ∧ (↑(UInt8.toNat (List.getD s (Int.toNat i) (0 : UInt8))) : Int) < (256 : Int)) (brT (!tb Lx.isLow (↑(UInt8.toNat (List.getD s (Int.toNat i) (0 : UInt8))) : Int)) (Tr.owe ((0 : Int) ≤ i ∧ i < (↑(List.length s) : Int)) (Tr.owe ((0 : Int) ≤ (↑(UInt8.toNat (List.getD s (Int.toNat i) (0 : UInt8))) : Int) ∧ (↑(UInt8.toNat (List.getD s (Int.toNat i) (0 : UInt8))) : Int) < (256 : Int)) (brT (!tb Lx.isUp (↑(UInt8.toNat (List.getD s (Int.toNat i) (0 : UInt8))) : Int)) (Tr.owe ((0 : Int) ≤ i ∧ i < (↑(List.length s) : Int)) (Tr.owe ((0 : Int) ≤ (↑(UInt8.toNat (List.getD s (Int.toNat i) (0 : UInt8))) : Int) ∧ (↑(UInt8.toNat (List.getD s (Int.toNat i) (0 : UInt8))) : Int) < (256 : Int)) (brT (!tb Lx.isDig (↑(UInt8.toNat (List.getD s (Int.toNat i) (0 : UInt8))) : Int)) (Tr.owe ((0 : Int) ≤ i ∧ i < (↑(List.length s) : Int)) (brT (!decide ((↑(UInt8.toNat (List.getD s (Int.toNat i) (0 : UInt8))) : Int) = (95 : Int))) (Tr.ret (D.bool false) []) (Tr.owe ((-9223372036854775808 : Int) ≤ i + (1 : Int) ∧ i + (1 : Int) ≤ (9223372036854775807 : Int)) (Tr.jmp (cut sc82 (0 : Nat)) { tm := [((0 : Nat), D.str s), ((5 : Nat), D.int IntKind.i64 (i + (1 : Int)))], ob := [] })))) (Tr.owe ((-9223372036854775808 : Int) ≤ i + (1 : Int) ∧ i + (1 : Int) ≤ (9223372036854775807 : Int)) (Tr.jmp (cut sc82 (0 : Nat)) { tm := [((0 : Nat), D.str s), ((5 : Nat), D.int IntKind.i64 (i + (1 : Int)))], ob := [] }))))) (Tr.owe ((-9223372036854775808 : Int) ≤ i + (1 : Int) ∧ i + (1 : Int) ≤ (9223372036854775807 : Int)) (Tr.jmp (cut sc82 (0 : Nat)) { tm := [((0 : Nat), D.str s), ((5 : Nat), D.int IntKind.i64 (i + (1 : Int)))], ob := [] }))))) (Tr.owe ((-9223372036854775808 : Int) ≤ i + (1 : Int) ∧ i + (1 : Int) ≤ (9223372036854775807 : Int)) (Tr.jmp (cut sc82 (0 : Nat)) { tm := [((0 : Nat), D.str s), ((5 : Nat), D.int IntKind.i64 (i + (1 : Int)))], ob := [] }))))) (Tr.ret (D.bool (decide ((↑(List.length s) : Int) ≤ (32 : Int)))) [])
theorem PWo2_eq (s : List UInt8) (i : Int) : goT Tryz.prog (ctr refP) (0 : Nat) (finF true (0 : Nat) rs82) (2000 : Nat) (cut sc82 (0 : Nat)) (hdWo s i) = PWo2 s i := by kernel_rfl
theorem und95 (b : UInt8) : decide ((b.toNat : Int) = 95) = Lx.isUnd b := by
  unfold Lx.isUnd
  by_cases h : b = 95
  · subst h; rfl
  · have h2 : ¬ ((b.toNat : Int) = 95) := fun h2 => h (UInt8.toNat_inj.1 (by have : (95 : UInt8).toNat = 95 := rfl; omega))
    rw [decide_eq_false h2]; simp [h]
theorem und_at (s : List UInt8) (hl : s.length ≤ 4611686018427387904) : ∀ (m i : Nat), s.length - i = m → i ≤ s.length →
    At Tryz.prog 0 (cut sc80 0) (hdUnd s i) (FinQ true 0 rs80 fun r _ => r = .int .i64 (runTo Lx.isUnd s i)) := by
  intro m
  induction m with
  | zero =>
    intro i hm hi
    refine At.tree (ctr_ok refP_ok qnone_ok) (PUnd2_eq s i) ?_
    unfold PUnd2
    rw [runTo_end (by omega)]
    simp only [ok_br, ok_owe, ok_ret, ok_jmp, decide_eq_true_eq, decide_eq_false_iff_not, Int.toNat_natCast, true_and, and_true, Bool.not_eq_true', Bool.not_eq_false', List.drop_zero, List.take_length, D.bool.injEq, D.int.injEq, D.str.injEq, true_implies, Int.le_refl]
    exact ⟨fun h => by omega, fun _ => trivial⟩
  | succ m ih =>
    intro i hm hi
    have h1 : i < s.length := by omega
    refine At.tree (ctr_ok refP_ok qnone_ok) (PUnd2_eq s i) ?_
    unfold PUnd2
    rw [und95]
    simp only [ok_br, ok_owe, ok_ret, ok_jmp, decide_eq_true_eq, decide_eq_false_iff_not, Int.toNat_natCast, true_and, and_true, Bool.not_eq_true', Bool.not_eq_false', List.drop_zero, List.take_length, D.bool.injEq, D.int.injEq, D.str.injEq, true_implies, Int.le_refl]
    refine ⟨fun _ => ⟨by omega, fun h => ⟨by omega, ?_⟩, fun h => by rw [runTo_stop h1 h]⟩, fun h => by omega⟩
    rw [runTo_step h1 h]; exact ih (i + 1) (by omega) (by omega)
theorem und_ok (s : List UInt8) (hl : s.length ≤ 4611686018427387904) : FnOK Tryz.prog 80 [.str s] (.int .i64 (runTo Lx.isUnd s 0)) :=
  FnOK.tree hdraw fp80 (ctr_ok refP_ok qnone_ok) (PUnd_eq s) (und_at s hl _ 0 rfl (Nat.zero_le _))
theorem wo_at (s : List UInt8) (hl : s.length ≤ 4611686018427387904) : ∀ (m i : Nat), s.length - i = m → i ≤ s.length →
    At Tryz.prog 0 (cut sc82 0) (hdWo s i) (FinQ true 0 rs82 fun r _ => r = .bool ((s.drop i).all Lx.isName && decide (s.length ≤ 32))) := by
  intro m
  induction m with
  | zero =>
    intro i hm hi
    refine At.tree (ctr_ok refP_ok qnone_ok) (PWo2_eq s i) ?_
    unfold PWo2
    rw [List.drop_eq_nil_of_le (by omega)]
    simp only [ok_br, ok_owe, ok_ret, ok_jmp, decide_eq_true_eq, decide_eq_false_iff_not, Int.toNat_natCast, true_and, and_true, Bool.not_eq_true', Bool.not_eq_false', List.drop_zero, List.take_length, D.bool.injEq, D.int.injEq, D.str.injEq, true_implies, Int.le_refl]
    exact ⟨fun h => by omega, fun _ => by rw [List.all_nil, Bool.true_and]; exact decide_eq_decide.2 (by omega)⟩
  | succ m ih =>
    intro i hm hi
    have h1 : i < s.length := by omega
    refine At.tree (ctr_ok refP_ok qnone_ok) (PWo2_eq s i) ?_
    unfold PWo2
    have hI := ih (i + 1) (by omega) (by omega)
    have hx : 0 ≤ (i : Int) ∧ (i : Int) < s.length := by omega
    have hr : -9223372036854775808 ≤ (i : Int) + 1 ∧ (i : Int) + 1 ≤ 9223372036854775807 := by omega
    have hb := byte_lt s i
    rw [all_drop h1]
    simp only [und95, tb_nat, ok_br, ok_owe, ok_ret, ok_jmp, decide_eq_true_eq, decide_eq_false_iff_not, Int.toNat_natCast, true_and, and_true, Bool.not_eq_true', Bool.not_eq_false', List.drop_zero, List.take_length, D.bool.injEq, D.int.injEq, D.str.injEq, true_implies, Int.le_refl, hx, hr, hb, not_true_eq_false, false_implies, false_and, true_implies, forall_const]
    generalize s.getD i 0 = b
    unfold Lx.isName Lx.isLet
    refine ⟨fun h1 => ⟨fun h2 => ⟨fun h3 => ⟨fun h4 => ?_, fun h4 => ?_⟩, fun h3 => ?_⟩, fun h2 => ?_⟩, fun h1 => ?_⟩
    · simp only [h1, h2, h3, h4, Bool.or_false, Bool.false_and]
    · simp only [h4, Bool.or_true, Bool.true_and]; exact hI
    · simp only [h3, Bool.or_true, Bool.true_or, Bool.true_and]; exact hI
    · simp only [h2, Bool.or_true, Bool.true_or, Bool.true_and]; exact hI
    · simp only [h1, Bool.true_or, Bool.true_and]; exact hI
theorem wo_ok (s : List UInt8) (n : Nat) (hl : s.length ≤ 4611686018427387904) (hn : n ≤ s.length) : FnOK Tryz.prog 82 [.str s, .int .i64 n] (.bool ((s.drop n).all Lx.isName && decide (s.length ≤ 32))) :=
  FnOK.tree hdraw fp82 (ctr_ok refP_ok qnone_ok) (PWo_eq s n) (wo_at s hl _ n rfl hn)
def refP2 : PT := fun f xs => match xs with
  | [.str s] => if f = 80 then some (.ok (s.length ≤ 4611686018427387904) (.int .i64 (runTo Lx.isUnd s 0)) []) else none
  | [.str s, .int .i64 n] => if f = 82 then some (.ok (s.length ≤ 4611686018427387904 ∧ 0 ≤ n ∧ n ≤ s.length) (.bool ((s.drop n.toNat).all Lx.isName && decide (s.length ≤ 32))) []) else none
  | xs => refP f xs
theorem refP2_ok : refP2.OK := by
  intro f xs rt h
  unfold refP2 at h
  split at h
  · split at h
    · rename_i hf; subst hf; cases h; exact fun hl => und_ok _ hl
    · cases h
  · split at h
    · rename_i hf; subst hf; cases h
      rintro ⟨h1, h2, h3⟩
      have := wo_ok _ _ h1 (show Int.toNat _ ≤ _ from Int.toNat_le.2 h3)
      rwa [Int.toNat_of_nonneg h2] at this
    · cases h
  · exact refP_ok _ _ _ h
noncomputable def PSy (s : List UInt8) : Go.Sx.Tr := Tr.owe (List.length s ≤ (4611686018427387904 : Nat)) (brT (decide ((↑(runTo Lx.isUnd s (0 : Nat)) : Int) < (↑(List.length s) : Int))) (Tr.owe ((0 : Int) ≤ (↑(runTo Lx.isUnd s (0 : Nat)) : Int) ∧ (↑(runTo Lx.isUnd s (0 : Nat)) : Int) < (↑(List.length s) : Int)) (Tr.owe ((0 : Int) ≤ (↑(UInt8.toNat (List.getD s (Int.toNat (↑(runTo Lx.isUnd s (0 : Nat)) : Int)) (0 : UInt8))) : Int) ∧ (↑(UInt8.toNat (List.getD s (Int.toNat (↑(runTo Lx.isUnd s (0 : Nat)) : Int)) (0 : UInt8))) : Int) < (256 : Int)) (brT (tb Lx.isLow (↑(UInt8.toNat (List.getD s (Int.toNat (↑(runTo Lx.isUnd s (0 : Nat)) : Int)) (0 : UInt8))) : Int)) (Tr.owe (List.length s ≤ (4611686018427387904 : Nat) ∧ (0 : Int) ≤ (↑(runTo Lx.isUnd s (0 : Nat)) : Int) ∧ (↑(runTo Lx.isUnd s (0 : Nat)) : Int) ≤ (↑(List.length s) : Int)) (brT (List.all (List.drop (Int.toNat (↑(runTo Lx.isUnd s (0 : Nat)) : Int)) s) Lx.isName && decide (List.length s ≤ (32 : Nat))) (Tr.ret (D.bool !decide (s = [(110 : UInt8), (111 : UInt8), (116 : UInt8)])) []) (Tr.ret (D.bool false) []))) (Tr.ret (D.bool false) [])))) (Tr.ret (D.bool false) []))
theorem PSy_eq (s : List UInt8) : goT Tryz.prog (ctr refP2) (0 : Nat) (finF true (0 : Nat) rs58) (2000 : Nat) [Fr.sc sc58] { tm := envOf (0 : Nat) [D.str s], ob := [] } = PSy s := by kernel_rfl
noncomputable def PVa (s : List UInt8) : Go.Sx.Tr := Tr.owe (List.length s ≤ (4611686018427387904 : Nat)) (brT (decide ((↑(runTo Lx.isUnd s (0 : Nat)) : Int) < (↑(List.length s) : Int))) (Tr.owe ((0 : Int) ≤ (↑(runTo Lx.isUnd s (0 : Nat)) : Int) ∧ (↑(runTo Lx.isUnd s (0 : Nat)) : Int) < (↑(List.length s) : Int)) (Tr.owe ((0 : Int) ≤ (↑(UInt8.toNat (List.getD s (Int.toNat (↑(runTo Lx.isUnd s (0 : Nat)) : Int)) (0 : UInt8))) : Int) ∧ (↑(UInt8.toNat (List.getD s (Int.toNat (↑(runTo Lx.isUnd s (0 : Nat)) : Int)) (0 : UInt8))) : Int) < (256 : Int)) (brT (tb Lx.isUp (↑(UInt8.toNat (List.getD s (Int.toNat (↑(runTo Lx.isUnd s (0 : Nat)) : Int)) (0 : UInt8))) : Int)) (Tr.owe (List.length s ≤ (4611686018427387904 : Nat) ∧ (0 : Int) ≤ (↑(runTo Lx.isUnd s (0 : Nat)) : Int) ∧ (↑(runTo Lx.isUnd s (0 : Nat)) : Int) ≤ (↑(List.length s) : Int)) (Tr.ret (D.bool (List.all (List.drop (Int.toNat (↑(runTo Lx.isUnd s (0 : Nat)) : Int)) s) Lx.isName && decide (List.length s ≤ (32 : Nat)))) [])) (brT (!decide ((↑(runTo Lx.isUnd s (0 : Nat)) : Int) = (1 : Int))) (Tr.ret (D.bool false) []) (brT (decide ((32 : Int) < (↑(List.length s) : Int))) (Tr.ret (D.bool false) []) (Tr.jmp (cut sc59 (0 : Nat)) { tm := [((0 : Nat), D.str s), ((4 : Nat), D.int IntKind.i64 (1 : Int))], ob := [] })))))) (brT (!decide ((↑(runTo Lx.isUnd s (0 : Nat)) : Int) = (1 : Int))) (Tr.ret (D.bool false) []) (brT (decide ((32 : Int) < (↑(List.length s) : Int))) (Tr.ret (D.bool false) []) (Tr.jmp (cut sc59 (0 : Nat)) { tm := [((0 : Nat), D.str s), ((4 : Nat), D.int IntKind.i64 (1 : Int))], ob := [] }))))
theorem PVa_eq (s : List UInt8) : goT Tryz.prog (ctr refP2) (0 : Nat) (finF true (0 : Nat) rs59) (2000 : Nat) [Fr.sc sc59] { tm := envOf (0 : Nat) [D.str s], ob := [] } = PVa s := by kernel_rfl
def hdVa (s : List UInt8) (i : Int) : St := ⟨[(0, .str s), (4, .int .i64 i)], []⟩
noncomputable def PVa2 (s : List UInt8) (i : Int) : Go.Sx.Tr := brT (decide (i < (↑(List.length s) : Int))) (Tr.owe ((0 : Int) ≤ i ∧ i < (↑(List.length s) : Int)) (Tr.owe ((0 : Int) ≤ (↑(UInt8.toNat (List.getD s (Int.toNat i) (0 : UInt8))) : Int) ∧ (↑(UInt8.toNat (List.getD s (Int.toNat i) (0 : UInt8))) : Int) < (256 : Int)) (brT (!tb Lx.isDig (↑(UInt8.toNat (List.getD s (Int.toNat i) (0 : UInt8))) : Int)) (Tr.ret (D.bool false) []) (Tr.owe ((-9223372036854775808 : Int) ≤ i + (1 : Int) ∧ i + (1 : Int) ≤ (9223372036854775807 : Int)) (Tr.jmp (cut sc59 (0 : Nat)) { tm := [((0 : Nat), D.str s), ((4 : Nat), D.int IntKind.i64 (i + (1 : Int)))], ob := [] }))))) (Tr.ret (D.bool true) [])
theorem PVa2_eq (s : List UInt8) (i : Int) : goT Tryz.prog (ctr refP2) (0 : Nat) (finF true (0 : Nat) rs59) (2000 : Nat) (cut sc59 (0 : Nat)) (hdVa s i) = PVa2 s i := by kernel_rfl
theorem symR_ok (s : List UInt8) (hl : s.length ≤ 4611686018427387904) : FnOK Tryz.prog 58 [.str s] (.bool (Lx.symbolB s)) := by
  refine FnOK.tree hdraw fp58 (ctr_ok refP2_ok qnone_ok) (PSy_eq s) ?_
  unfold PSy
  have hn : runTo Lx.isUnd s 0 ≤ s.length := runTo_len (Nat.zero_le _)
  have e : ((runTo Lx.isUnd s 0 : Nat) : Int).toNat = runTo Lx.isUnd s 0 := Int.toNat_natCast _
  rw [Lx.symbolB_ref]
  generalize runTo Lx.isUnd s 0 = n at hn e ⊢
  have hd : decide ((n : Int) < s.length) = decide (n < s.length) := decide_eq_decide.2 (by omega)
  simp only [hd, e, tb_nat, ok_br, ok_owe, ok_ret]
  refine ⟨hl, fun h1 => ⟨by have := of_decide_eq_true h1; omega, byte_lt s n, fun h2 => ⟨⟨hl, by omega, by omega⟩, fun h3 => ?_, fun h3 => ?_⟩, fun h2 => ?_⟩, fun h1 => ?_⟩
  · rw [h1, h2, h3]; rfl
  · rw [h3]; simp
  · rw [h2]; simp
  · rw [h1]; simp
theorem va_at (s : List UInt8) (hl : s.length ≤ 4611686018427387904) : ∀ (m i : Nat), s.length - i = m → i ≤ s.length →
    At Tryz.prog 0 (cut sc59 0) (hdVa s i) (FinQ true 0 rs59 fun r _ => r = .bool ((s.drop i).all Lx.isDig)) := by
  intro m
  induction m with
  | zero =>
    intro i hm hi
    refine At.tree (ctr_ok refP2_ok qnone_ok) (PVa2_eq s i) ?_
    unfold PVa2
    rw [List.drop_eq_nil_of_le (by omega)]
    simp only [ok_br, ok_owe, ok_ret, ok_jmp, decide_eq_true_eq, decide_eq_false_iff_not, Int.toNat_natCast, true_and, and_true, Bool.not_eq_true', Bool.not_eq_false', List.drop_zero, List.take_length, D.bool.injEq, D.int.injEq, D.str.injEq, true_implies, Int.le_refl]
    exact ⟨fun h => by omega, fun _ => rfl⟩
  | succ m ih =>
    intro i hm hi
    have h1 : i < s.length := by omega
    refine At.tree (ctr_ok refP2_ok qnone_ok) (PVa2_eq s i) ?_
    unfold PVa2
    rw [all_drop h1]
    simp only [tb_nat, ok_br, ok_owe, ok_ret, ok_jmp, decide_eq_true_eq, decide_eq_false_iff_not, Int.toNat_natCast, true_and, and_true, Bool.not_eq_true', Bool.not_eq_false', List.drop_zero, List.take_length, D.bool.injEq, D.int.injEq, D.str.injEq, true_implies, Int.le_refl]
    refine ⟨fun _ => ⟨by omega, byte_lt s i, fun h => by rw [h, Bool.false_and], fun h => ⟨by omega, ?_⟩⟩, fun h => by omega⟩
    rw [h, Bool.true_and]; exact ih (i + 1) (by omega) (by omega)
theorem varR_ok (s : List UInt8) (hl : s.length ≤ 4611686018427387904) : FnOK Tryz.prog 59 [.str s] (.bool (Lx.variableB s)) := by
  refine FnOK.tree hdraw fp59 (ctr_ok refP2_ok qnone_ok) (PVa_eq s) ?_
  unfold PVa
  have hn : runTo Lx.isUnd s 0 ≤ s.length := runTo_len (Nat.zero_le _)
  have e : ((runTo Lx.isUnd s 0 : Nat) : Int).toNat = runTo Lx.isUnd s 0 := Int.toNat_natCast _
  rw [← Lx.varR_eq]
  unfold Lx.varR
  have hA := fun h : 1 ≤ s.length => va_at s hl _ 1 rfl h
  generalize runTo Lx.isUnd s 0 = n at hn e ⊢
  simp only [e, tb_nat, ok_br, ok_owe, ok_ret, ok_jmp, decide_eq_true_eq, decide_eq_false_iff_not, Int.toNat_natCast, true_and, and_true, Bool.not_eq_true', Bool.not_eq_false', List.drop_zero, List.take_length, D.bool.injEq, D.int.injEq, D.str.injEq, true_implies, Int.le_refl]
  refine ⟨hl, fun h1 => ⟨by omega, byte_lt s n, fun h2 => ⟨⟨hl, by omega, by omega⟩, ?_⟩, fun h2 => ⟨fun h3 => ?_, fun h3 => ⟨fun h4 => ?_, fun h4 => ?_⟩⟩⟩, fun h1 => ⟨fun h3 => ?_, fun h3 => ⟨fun h4 => ?_, fun h4 => ?_⟩⟩⟩
  · rw [if_pos ⟨by omega, h2⟩]
  · rw [if_neg (fun h => by rw [h2] at h; simp at h), if_neg (by omega)]
  · rw [if_neg (fun h => by rw [h2] at h; simp at h), if_neg (by omega)]
  · rw [if_neg (fun h => by rw [h2] at h; simp at h), if_pos ⟨by omega, by omega⟩]; exact hA (by omega)
  · rw [if_neg (by omega), if_neg (by omega)]
  · rw [if_neg (by omega), if_neg (by omega)]
  · rw [if_neg (by omega), if_pos ⟨by omega, by omega⟩]; exact hA (by omega)
def refP3 : PT := fun f xs => match xs with
  | [.str s] => if f = 58 then some (.ok (s.length ≤ 4611686018427387904) (.bool (Lx.symbolB s)) []) else if f = 59 then some (.ok (s.length ≤ 4611686018427387904) (.bool (Lx.variableB s)) []) else refP f xs
  | xs => refP f xs
theorem refP3_ok : refP3.OK := by
  intro f xs rt h
  unfold refP3 at h
  split at h
  · split at h
    · rename_i hf; subst hf; cases h; exact fun hl => symR_ok _ hl
    split at h
    · rename_i hf; subst hf; cases h; exact fun hl => varR_ok _ hl
    · exact refP_ok _ _ _ h
  · exact refP_ok _ _ _ h
noncomputable def PW3 (s : List UInt8) : Go.Sx.Tr := brT (decide (s = [(110 : UInt8), (111 : UInt8), (116 : UInt8)])) (Tr.ret (D.int IntKind.i64 (4 : Int)) []) (Tr.owe (List.length s ≤ (4611686018427387904 : Nat)) (brT (Lx.symbolB s) (Tr.ret (D.int IntKind.i64 (1 : Int)) []) (Tr.owe (List.length s ≤ (4611686018427387904 : Nat)) (brT (Lx.variableB s) (Tr.ret (D.int IntKind.i64 (2 : Int)) []) (Tr.ret (D.int IntKind.i64 (0 : Int)) [])))))
theorem PW3_eq (s : List UInt8) : goT Tryz.prog (ctr refP3) (0 : Nat) (finF true (0 : Nat) rs34) (2000 : Nat) [Fr.sc sc34] { tm := envOf (0 : Nat) [D.str s], ob := [] } = PW3 s := by kernel_rfl
theorem word3_ok (s : List UInt8) (hl : s.length ≤ 4611686018427387904) : FnOK Tryz.prog 34 [.str s] (.int .i64 (Lx.wordK s).1) := by
  refine FnOK.tree hdraw fp34 (ctr_ok refP3_ok qnone_ok) (PW3_eq s) ?_
  unfold PW3 Lx.wordK Lx.notS
  simp only [ok_br, ok_owe, ok_ret, ok_jmp, decide_eq_true_eq, decide_eq_false_iff_not, Int.toNat_natCast, true_and, and_true, Bool.not_eq_true', Bool.not_eq_false', List.drop_zero, List.take_length, D.bool.injEq, D.int.injEq, D.str.injEq, true_implies, Int.le_refl]
  refine ⟨fun h => by rw [if_pos h], fun h => ⟨hl, fun h2 => by rw [if_neg h, if_pos h2], fun h2 => ⟨hl, fun h3 => ?_, fun h3 => ?_⟩⟩⟩
  · rw [if_neg h, if_neg (by simp [h2]), if_pos h3]
  · rw [if_neg h, if_neg (by simp [h2]), if_neg (by simp [h3])]
noncomputable def PNu3 (s : List UInt8) : Go.Sx.Tr := Tr.jmp (cut sc35 (0 : Nat)) { tm := [((0 : Nat), D.str s), ((3 : Nat), D.int IntKind.i64 (0 : Int)), ((4 : Nat), D.int IntKind.i64 (0 : Int))], ob := [] }
theorem PNu3_eq (s : List UInt8) : goT Tryz.prog (ctr refP3) (0 : Nat) (finF true (0 : Nat) rs35) (2000 : Nat) [Fr.sc sc35] { tm := envOf (0 : Nat) [D.str s], ob := [] } = PNu3 s := by kernel_rfl
def hdNu (s : List UInt8) (n i : Int) : St := ⟨[(0, .str s), (3, .int .i64 n), (4, .int .i64 i)], []⟩
noncomputable def PNu32 (s : List UInt8) (n : Int) (i : Int) : Go.Sx.Tr := brT (decide (i < (↑(List.length s) : Int))) (Tr.owe ((-9223372036854775808 : Int) ≤ n * (10 : Int) ∧ n * (10 : Int) ≤ (9223372036854775807 : Int)) (Tr.owe ((0 : Int) ≤ i ∧ i < (↑(List.length s) : Int)) (Tr.owe ((-9223372036854775808 : Int) ≤ IntKind.wrap IntKind.u8 ((↑(UInt8.toNat (List.getD s (Int.toNat i) (0 : UInt8))) : Int) - (48 : Int)) ∧ IntKind.wrap IntKind.u8 ((↑(UInt8.toNat (List.getD s (Int.toNat i) (0 : UInt8))) : Int) - (48 : Int)) ≤ (9223372036854775807 : Int)) (Tr.owe ((-9223372036854775808 : Int) ≤ n * (10 : Int) + IntKind.wrap IntKind.u8 ((↑(UInt8.toNat (List.getD s (Int.toNat i) (0 : UInt8))) : Int) - (48 : Int)) ∧ n * (10 : Int) + IntKind.wrap IntKind.u8 ((↑(UInt8.toNat (List.getD s (Int.toNat i) (0 : UInt8))) : Int) - (48 : Int)) ≤ (9223372036854775807 : Int)) (brT (decide ((2147483647 : Int) < n * (10 : Int) + IntKind.wrap IntKind.u8 ((↑(UInt8.toNat (List.getD s (Int.toNat i) (0 : UInt8))) : Int) - (48 : Int)))) (Tr.ret (D.bool false) []) (brT (decide ((0 : Int) < i)) (Tr.owe ((0 : Int) ≤ (0 : Int) ∧ (0 : Int) < (↑(List.length s) : Int)) (brT (decide ((↑(UInt8.toNat (List.getD s (0 : Nat) (0 : UInt8))) : Int) = (48 : Int))) (Tr.ret (D.bool false) []) (Tr.owe ((-9223372036854775808 : Int) ≤ i + (1 : Int) ∧ i + (1 : Int) ≤ (9223372036854775807 : Int)) (Tr.jmp (cut sc35 (0 : Nat)) { tm := [((0 : Nat), D.str s), ((3 : Nat), D.int IntKind.i64 (n * (10 : Int) + IntKind.wrap IntKind.u8 ((↑(UInt8.toNat (List.getD s (Int.toNat i) (0 : UInt8))) : Int) - (48 : Int)))), ((4 : Nat), D.int IntKind.i64 (i + (1 : Int)))], ob := [] })))) (Tr.owe ((-9223372036854775808 : Int) ≤ i + (1 : Int) ∧ i + (1 : Int) ≤ (9223372036854775807 : Int)) (Tr.jmp (cut sc35 (0 : Nat)) { tm := [((0 : Nat), D.str s), ((3 : Nat), D.int IntKind.i64 (n * (10 : Int) + IntKind.wrap IntKind.u8 ((↑(UInt8.toNat (List.getD s (Int.toNat i) (0 : UInt8))) : Int) - (48 : Int)))), ((4 : Nat), D.int IntKind.i64 (i + (1 : Int)))], ob := [] })))))))) (Tr.ret (D.bool true) [])
theorem PNu32_eq (s : List UInt8) (n : Int) (i : Int) : goT Tryz.prog (ctr refP3) (0 : Nat) (finF true (0 : Nat) rs35) (2000 : Nat) (cut sc35 (0 : Nat)) (hdNu s n i) = PNu32 s n i := by kernel_rfl
noncomputable def PSg3 (s : List UInt8) (n : Int) : Go.Sx.Tr := Tr.owe ((-9223372036854775808 : Int) ≤ n + (1 : Int) ∧ n + (1 : Int) ≤ (9223372036854775807 : Int)) (brT (decide (n + (1 : Int) < (↑(List.length s) : Int))) (Tr.owe ((-9223372036854775808 : Int) ≤ n + (2 : Int) ∧ n + (2 : Int) ≤ (9223372036854775807 : Int)) (Tr.owe ((0 : Int) ≤ n ∧ n ≤ n + (2 : Int) ∧ n + (2 : Int) ≤ (↑(List.length s) : Int)) (brT (decide (List.drop (Int.toNat n) (List.take (Int.toNat (n + (2 : Int))) s) = [(58 : UInt8), (45 : UInt8)])) (Tr.ret (D.int IntKind.i64 (2 : Int)) []) (brT (decide (List.drop (Int.toNat n) (List.take (Int.toNat (n + (2 : Int))) s) = [(58 : UInt8), (126 : UInt8)])) (Tr.ret (D.int IntKind.i64 (2 : Int)) []) (brT (decide (List.drop (Int.toNat n) (List.take (Int.toNat (n + (2 : Int))) s) = [(46 : UInt8), (46 : UInt8)])) (Tr.ret (D.int IntKind.i64 (2 : Int)) []) (brT (decide (List.drop (Int.toNat n) (List.take (Int.toNat (n + (2 : Int))) s) = [(33 : UInt8), (61 : UInt8)])) (Tr.ret (D.int IntKind.i64 (2 : Int)) []) (brT (decide (List.drop (Int.toNat n) (List.take (Int.toNat (n + (2 : Int))) s) = [(60 : UInt8), (61 : UInt8)])) (Tr.ret (D.int IntKind.i64 (2 : Int)) []) (brT (decide (List.drop (Int.toNat n) (List.take (Int.toNat (n + (2 : Int))) s) = [(62 : UInt8), (61 : UInt8)])) (Tr.ret (D.int IntKind.i64 (2 : Int)) []) (Tr.jmp (cut sc36 (0 : Nat)) { tm := [((0 : Nat), D.str s), ((1 : Nat), D.int IntKind.i64 n), ((6 : Nat), D.str [(58 : UInt8), (46 : UInt8), (44 : UInt8), (59 : UInt8), (124 : UInt8), (40 : UInt8), (41 : UInt8), (123 : UInt8), (125 : UInt8), (91 : UInt8), (93 : UInt8), (61 : UInt8), (60 : UInt8), (62 : UInt8), (43 : UInt8), (45 : UInt8), (42 : UInt8), (47 : UInt8), (92 : UInt8), (64 : UInt8)]), ((7 : Nat), D.int IntKind.i64 (0 : Int))], ob := [] }))))))))) (Tr.jmp (cut sc36 (0 : Nat)) { tm := [((0 : Nat), D.str s), ((1 : Nat), D.int IntKind.i64 n), ((6 : Nat), D.str [(58 : UInt8), (46 : UInt8), (44 : UInt8), (59 : UInt8), (124 : UInt8), (40 : UInt8), (41 : UInt8), (123 : UInt8), (125 : UInt8), (91 : UInt8), (93 : UInt8), (61 : UInt8), (60 : UInt8), (62 : UInt8), (43 : UInt8), (45 : UInt8), (42 : UInt8), (47 : UInt8), (92 : UInt8), (64 : UInt8)]), ((7 : Nat), D.int IntKind.i64 (0 : Int))], ob := [] }))
theorem PSg3_eq (s : List UInt8) (n : Int) : goT Tryz.prog (ctr refP3) (0 : Nat) (finF true (0 : Nat) rs36) (2000 : Nat) [Fr.sc sc36] { tm := envOf (0 : Nat) [D.str s, D.int IntKind.i64 n], ob := [] } = PSg3 s n := by kernel_rfl
def hdSgR (s : List UInt8) (n i : Int) : St := ⟨[(0, .str s), (1, .int .i64 n), (6, .str Lx.oneL), (7, .int .i64 i)], []⟩
noncomputable def PSg32 (s : List UInt8) (n : Int) (i : Int) : Go.Sx.Tr := brT (decide (i < (20 : Int))) (Tr.owe ((0 : Int) ≤ i ∧ i < (20 : Int)) (Tr.owe ((0 : Int) ≤ n ∧ n < (↑(List.length s) : Int)) (brT (decide ((↑(UInt8.toNat (List.getD [(58 : UInt8), (46 : UInt8), (44 : UInt8), (59 : UInt8), (124 : UInt8), (40 : UInt8), (41 : UInt8), (123 : UInt8), (125 : UInt8), (91 : UInt8), (93 : UInt8), (61 : UInt8), (60 : UInt8), (62 : UInt8), (43 : UInt8), (45 : UInt8), (42 : UInt8), (47 : UInt8), (92 : UInt8), (64 : UInt8)] (Int.toNat i) (0 : UInt8))) : Int) = (↑(UInt8.toNat (List.getD s (Int.toNat n) (0 : UInt8))) : Int))) (Tr.ret (D.int IntKind.i64 (1 : Int)) []) (Tr.owe ((-9223372036854775808 : Int) ≤ i + (1 : Int) ∧ i + (1 : Int) ≤ (9223372036854775807 : Int)) (Tr.jmp (cut sc36 (0 : Nat)) { tm := [((0 : Nat), D.str s), ((1 : Nat), D.int IntKind.i64 n), ((6 : Nat), D.str [(58 : UInt8), (46 : UInt8), (44 : UInt8), (59 : UInt8), (124 : UInt8), (40 : UInt8), (41 : UInt8), (123 : UInt8), (125 : UInt8), (91 : UInt8), (93 : UInt8), (61 : UInt8), (60 : UInt8), (62 : UInt8), (43 : UInt8), (45 : UInt8), (42 : UInt8), (47 : UInt8), (92 : UInt8), (64 : UInt8)]), ((7 : Nat), D.int IntKind.i64 (i + (1 : Int)))], ob := [] }))))) (Tr.ret (D.int IntKind.i64 (0 : Int)) [])
theorem PSg32_eq (s : List UInt8) (n : Int) (i : Int) : goT Tryz.prog (ctr refP3) (0 : Nat) (finF true (0 : Nat) rs36) (2000 : Nat) (cut sc36 (0 : Nat)) (hdSgR s n i) = PSg32 s n i := by kernel_rfl
end Go.Proofs.YtdkbjkccpnhjgaaGreatDoor
