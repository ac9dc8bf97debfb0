/- The reference model's numbers, its signs. -/
import Derived.Test.YtdkbjkccpnhjgaaGreatDoorRefA
set_option linter.unusedSectionVars false
set_option linter.unusedVariables false
set_option linter.unusedSimpArgs false
set_option linter.deprecated false
set_option maxRecDepth 100000
namespace Go.Proofs.YtdkbjkccpnhjgaaGreatDoor
open Go.Sx
theorem nat8r {b : UInt8} {n : Nat} (hn : n < 256) : ((b.toNat : Int) = (n : Int)) ↔ b = UInt8.ofNat n := by
  constructor
  · intro h
    apply UInt8.toNat_inj.1
    rw [UInt8.toNat_ofNat_of_lt' (by exact hn)]
    omega
  · rintro rfl
    rw [UInt8.toNat_ofNat_of_lt' (by exact hn)]
theorem u8_dig {b : UInt8} (h : Lx.isDig b = true) : IntKind.u8.wrap ((b.toNat : Int) - 48) = ((b.toNat - 48 : Nat) : Int) := by
  rw [Lx.isDig_iff] at h
  rw [IntKind.wrap_u8]; omega
theorem val_take {s : List UInt8} {i : Nat} (h : i < s.length) : Lx.valN 0 (s.take (i + 1)) = Lx.valN 0 (s.take i) * 10 + ((s.getD i 0).toNat - 48) := by
  rw [List.take_add_one, List.getElem?_eq_getElem h, Lx.valN_app]
  simp only [Option.toList_some]
  rw [Lx.valN_cons, Lx.valN_nil, List.getD_eq_getElem?_getD, List.getElem?_eq_getElem h]; rfl
theorem val_pre (s : List UInt8) (i : Nat) : Lx.valN 0 (s.take i) ≤ Lx.valN 0 s := by
  have h : Lx.valN 0 (s.take i ++ s.drop i) = Lx.valN 0 s := by rw [List.take_append_drop]
  rw [← h, Lx.valN_app]
  exact Lx.valN_le _ _
theorem nu_at (s : List UInt8) (hl : s.length ≤ 4611686018427387904) (hne : s ≠ []) (hd : s.all Lx.isDig = true) : ∀ (m i : Nat), s.length - i = m → i ≤ s.length → Lx.valN 0 (s.take i) ≤ 2147483647 → (i ≤ 1 ∨ s.getD 0 0 ≠ 48) →
    At Tryz.prog 0 (cut sc35 0) (hdNu s (Lx.valN 0 (s.take i)) i) (FinQ true 0 rs35 fun r _ => r = .bool (decide (Lx.numE s = 0))) := by
  have hh : s.head? = some (s.getD 0 0) := by cases s with
    | nil => exact absurd rfl hne
    | cons b r => rfl
  have hlp : 0 < s.length := List.length_pos_iff.2 hne
  intro m
  induction m with
  | zero =>
    intro i hm hi hv hz
    refine At.tree (ctr_ok refP3_ok qnone_ok) (PNu32_eq s _ i) ?_
    unfold PNu32
    simp only [ok_br, ok_owe, ok_ret, ok_jmp, decide_eq_true_eq, decide_eq_false_iff_not, Int.toNat_natCast, true_and, and_true, Bool.not_eq_true', Bool.not_eq_false', List.drop_zero, List.take_length, D.bool.injEq, D.int.injEq, D.str.injEq, true_implies, Int.le_refl]
    refine ⟨fun h => by omega, fun _ => (decide_eq_true ((Lx.numE_iff hne hd).2 ?_)).symm⟩
    rw [List.take_of_length_le (by omega)] at hv
    refine ⟨hv, hz.imp (fun h => by omega) (fun h => ?_)⟩
    rw [hh]; simpa using h
  | succ m ih =>
    intro i hm hi hv hz
    have h1 : i < s.length := by omega
    have hdi : Lx.isDig (s.getD i 0) = true := List.all_eq_true.1 hd _ (by rw [List.getD_eq_getElem?_getD, List.getElem?_eq_getElem h1]; exact List.getElem_mem h1)
    have hI := ih (i + 1) (by omega) (by omega)
    refine At.tree (ctr_ok refP3_ok qnone_ok) (PNu32_eq s _ i) ?_
    unfold PNu32
    have hvt := val_take h1
    have hvp := val_pre s (i + 1)
    have hb := (Lx.isDig_iff _).1 hdi
    have e48 : (((s.getD 0 0).toNat : Int) = 48) ↔ s.getD 0 0 = 48 := nat8r (n := 48) (by decide)
    simp only [ok_br, ok_owe, ok_ret, ok_jmp, decide_eq_true_eq, decide_eq_false_iff_not, Int.toNat_natCast, true_and, and_true, Bool.not_eq_true', Bool.not_eq_false', List.drop_zero, List.take_length, D.bool.injEq, D.int.injEq, D.str.injEq, true_implies, Int.le_refl, u8_dig hdi, e48]
    rw [hvt] at hI hvp
    generalize Lx.valN 0 (s.take i) = v at hv hI hvp ⊢
    have hd9 : (s.getD i 0).toNat - 48 ≤ 9 := by omega
    generalize (s.getD i 0).toNat - 48 = d at hI hvp hd9 ⊢
    have hnum := Lx.numE_iff hne hd
    refine ⟨fun _ => ⟨by omega, by omega, by omega, by omega, fun h => ?_, fun h => ⟨fun h0 => ⟨by omega, fun hz' => ?_, fun hz' => ⟨by omega, ?_⟩⟩, fun h0 => ⟨by omega, ?_⟩⟩⟩, fun h => by omega⟩
    · exact (decide_eq_false (fun hx => by have := (hnum.1 hx).1; omega)).symm
    · refine (decide_eq_false (fun hx => ?_)).symm
      rcases (hnum.1 hx).2 with h2 | h2
      · omega
      · rw [hh, hz'] at h2; exact h2 rfl
    · exact_mod_cast hI (by omega) (.inr hz')
    · exact_mod_cast hI (by omega) (.inl (by omega))
theorem num3_ok (s : List UInt8) (hl : s.length ≤ 4611686018427387904) (hne : s ≠ []) (hd : s.all Lx.isDig = true) : FnOK Tryz.prog 35 [.str s] (.bool (decide (Lx.numE s = 0))) := by
  refine FnOK.tree hdraw fp35 (ctr_ok refP3_ok qnone_ok) (PNu3_eq s) ?_
  have := nu_at s hl hne hd _ 0 rfl (Nat.zero_le _) (by rw [List.take_zero, Lx.valN_nil]; omega) (.inl (by omega))
  rw [List.take_zero, Lx.valN_nil] at this
  exact this
theorem nat8_eq (a b : UInt8) : ((a.toNat : Int) = (b.toNat : Int)) ↔ a = b := by
  constructor
  · intro h; exact UInt8.toNat_inj.1 (by omega)
  · rintro rfl; rfl
theorem sgr_at (s : List UInt8) (n : Nat) (hn : n < s.length) : ∀ (m i : Nat), 20 - i = m → i ≤ 20 →
    At Tryz.prog 0 (cut sc36 0) (hdSgR s n i) (FinQ true 0 rs36 fun r _ => r = .int .i64 (if s.getD n 0 ∈ Lx.oneL.drop i then 1 else 0)) := by
  intro m
  induction m with
  | zero =>
    intro i hm hi
    refine At.tree (ctr_ok refP3_ok qnone_ok) (PSg32_eq s n i) ?_
    unfold PSg32
    rw [List.drop_eq_nil_of_le (show Lx.oneL.length ≤ i by show 20 ≤ i; omega)]
    simp only [ok_br, ok_owe, ok_ret, ok_jmp, decide_eq_true_eq, decide_eq_false_iff_not, Int.toNat_natCast, true_and, and_true, Bool.not_eq_true', Bool.not_eq_false', List.drop_zero, List.take_length, D.bool.injEq, D.int.injEq, D.str.injEq, true_implies, Int.le_refl]
    exact ⟨fun h => absurd (show (i : Int) < 20 by first | exact h | exact of_decide_eq_true h) (by omega), fun _ => rfl⟩
  | succ m ih =>
    intro i hm hi
    have h1 : i < Lx.oneL.length := by show i < 20; omega
    have hI := ih (i + 1) (by omega) (by omega)
    refine At.tree (ctr_ok refP3_ok qnone_ok) (PSg32_eq s n i) ?_
    unfold PSg32
    rw [drop_getD (d := 0) h1]
    change Tr.ok _ _ (brT _ (Tr.owe _ (Tr.owe _ (brT (decide (((Lx.oneL.getD (i : Int).toNat 0).toNat : Int) = _)) _ _))) _)
    simp only [ok_br, ok_owe, ok_ret, ok_jmp, decide_eq_true_eq, decide_eq_false_iff_not, Int.toNat_natCast, true_and, and_true, Bool.not_eq_true', Bool.not_eq_false', List.drop_zero, List.take_length, D.bool.injEq, D.int.injEq, D.str.injEq, true_implies, Int.le_refl, nat8_eq, List.mem_cons]
    refine ⟨fun _ => ⟨by omega, by omega, fun h => ?_, fun h => ⟨by omega, ?_⟩⟩, fun h => absurd (show (i : Int) < 20 by omega) (by first | exact h | exact of_decide_eq_false h)⟩
    · rw [if_pos (.inl h.symm)]
    · have e : (s.getD n 0 = Lx.oneL.getD i 0 ∨ s.getD n 0 ∈ Lx.oneL.drop (i + 1)) ↔ s.getD n 0 ∈ Lx.oneL.drop (i + 1) := ⟨fun x => x.resolve_left (fun y => h y.symm), .inr⟩
      simp only [e]
      exact hI
theorem sgr_ok (s : List UInt8) (n : Nat) (hl : s.length ≤ 4611686018427387904) (hn : n < s.length) : FnOK Tryz.prog 36 [.str s, .int .i64 n] (.int .i64 (Lx.signOf (s.drop n)).length) := by
  refine FnOK.tree hdraw fp36 (ctr_ok refP3_ok qnone_ok) (PSg3_eq s n) ?_
  unfold PSg3
  have hA := sgr_at s n hn _ 0 rfl (Nat.zero_le _)
  rw [List.drop_zero] at hA
  have hL := Lx.signOf_len (s.getD n 0) (s.drop (n + 1))
  rw [← drop_getD (d := 0) hn] at hL
  rw [hL]
  have e : List.drop (n : Int).toNat (List.take ((n : Int) + 2).toNat s) = (s.drop n).take 2 := by
    rw [show ((n : Int) + 2).toNat = n + 2 by omega, Int.toNat_natCast, List.drop_take, Nat.add_sub_cancel_left]
  rw [e]
  have hmem : ∀ t, t ∈ Lx.twoL ↔ t = [58, 45] ∨ t = [58, 126] ∨ t = [46, 46] ∨ t = [33, 61] ∨ t = [60, 61] ∨ t = [62, 61] := by intro t; simp [Lx.twoL]
  have hin : ∀ c : Prop, [Decidable c] → ((if c then 1 else 0 : Nat) : Int) = if c then 1 else 0 := by intro c _; split <;> rfl
  by_cases h2 : n + 1 < s.length
  · generalize hT : (s.drop n).take 2 = T
    simp only [ok_br, ok_owe, ok_ret, ok_jmp, decide_eq_true_eq, decide_eq_false_iff_not, Int.toNat_natCast, true_and, and_true, Bool.not_eq_true', Bool.not_eq_false', List.drop_zero, List.take_length, D.bool.injEq, D.int.injEq, D.str.injEq, true_implies, Int.le_refl]
    refine ⟨by omega, fun _ => ⟨by omega, by omega, fun h => ?_, fun g1 => ⟨fun h => ?_, fun g2 => ⟨fun h => ?_, fun g3 => ⟨fun h => ?_, fun g4 => ⟨fun h => ?_, fun g5 => ⟨fun h => ?_, fun g6 => ?_⟩⟩⟩⟩⟩⟩, fun h => by omega⟩
    · rw [if_pos ((hmem _).2 (by simp [h]))]; rfl
    · rw [if_pos ((hmem _).2 (by simp [h]))]; rfl
    · rw [if_pos ((hmem _).2 (by simp [h]))]; rfl
    · rw [if_pos ((hmem _).2 (by simp [h]))]; rfl
    · rw [if_pos ((hmem _).2 (by simp [h]))]; rfl
    · rw [if_pos ((hmem _).2 (by simp [h]))]; rfl
    · rw [if_neg (fun h => by rcases (hmem _).1 h with h | h | h | h | h | h <;> contradiction), hin]
      exact hA
  · have hT : ¬ ((s.drop n).take 2 ∈ Lx.twoL) := fun h => by
      have := (Lx.two_lens _ h).1
      rw [List.length_take, List.length_drop] at this
      omega
    rw [if_neg hT, hin]
    simp only [ok_br, ok_owe, ok_ret, ok_jmp, decide_eq_true_eq, decide_eq_false_iff_not, Int.toNat_natCast, true_and, and_true, Bool.not_eq_true', Bool.not_eq_false', List.drop_zero, List.take_length, D.bool.injEq, D.int.injEq, D.str.injEq, true_implies, Int.le_refl]
    exact ⟨by omega, fun h => by omega, fun _ => hA⟩
def refP4 : PT := fun f xs => match xs with
  | [.str s] => if f = 34 then some (.ok (s.length ≤ 4611686018427387904) (.int .i64 (Lx.wordK s).1) []) else if f = 35 then some (.ok (s.length ≤ 4611686018427387904 ∧ s ≠ [] ∧ s.all Lx.isDig = true) (.bool (decide (Lx.numE s = 0))) []) else none
  | [.str s, .int .i64 n] => if f = 36 then some (.ok (s.length ≤ 4611686018427387904 ∧ 0 ≤ n ∧ n < s.length) (.int .i64 (Lx.signOf (s.drop n.toNat)).length) []) else none
  | xs => refP f xs
theorem refP4_ok : refP4.OK := by
  intro f xs rt h
  unfold refP4 at h
  split at h
  · split at h
    · rename_i hf; subst hf; cases h; exact fun hl => word3_ok _ hl
    split at h
    · rename_i hf; subst hf; cases h; exact fun hl => num3_ok _ hl.1 hl.2.1 hl.2.2
    · cases h
  · split at h
    · rename_i hf; subst hf; cases h
      rintro ⟨h1, h2, h3⟩
      have := sgr_ok _ _ h1 (show Int.toNat _ < _ from (Int.toNat_lt h2).2 h3)
      rwa [Int.toNat_of_nonneg h2] at this
    · cases h
  · exact refP_ok _ _ _ h
noncomputable def PRL (s : List UInt8) : Go.Sx.Tr := brT (decide ((32768 : Int) < (↑(List.length s) : Int))) (Tr.ret (D.tuple [D.slice [] [], D.int IntKind.i64 (0 : Int), D.int IntKind.i64 (3 : Int)]) []) (Tr.jmp (cut sc15 (0 : Nat)) { tm := [((0 : Nat), D.str s), ((5 : Nat), D.vec (0 : Nat)), ((6 : Nat), D.int IntKind.i64 (0 : Int))], ob := [((0 : Nat), Ob.arr true (3 : Nat) (66 : TypeId) [])] })
theorem PRL_eq (s : List UInt8) : goT Tryz.prog (ctr refP4) (0 : Nat) (finF true (0 : Nat) rs15) (2000 : Nat) [Fr.sc sc15] { tm := envOf (0 : Nat) [D.str s], ob := [] } = PRL s := by kernel_rfl

end Go.Proofs.YtdkbjkccpnhjgaaGreatDoor
