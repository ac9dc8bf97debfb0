/- Own work: a layer over the kit: plain data, a walk over it, its soundness. -/
import Derived.Lib.Bytealg
import Derived.Lib.AtoiAll
import Derived.Lib.ItoaNum
import Derived.Sort.OwnSorted
import Derived.Test.YtfoklncmfoogcaaGreatDoorSx7
set_option linter.unusedSectionVars false
set_option linter.unusedVariables false
set_option linter.unusedSimpArgs false
set_option linter.deprecated false
/- TERMS COMPARED, in plain words. -/
namespace Go.Sx

def ncmp (a b : Int) : Int := if a < b then -1 else if b < a then 1 else 0
/-- The place of a kind in the order. -/
def rkI (k : Int) : Int := if k = 1 then 0 else if k = 2 then 1 else if k = 4 then 2 else if k = 3 then 3 else if k = 5 then 4 else if k = 6 then 5 else 6 + k
def idxI (k : Int) : Int := if k = 1 then 0 else if k = 2 then 1 else if k = 4 then 2 else if k = 3 then 3 else if k = 5 then 4 else if k = 6 then 5 else -1
/-- The first that is not nought. -/
def fst0 : List Int → Int
  | [] => 0
  | x :: r => if x ≠ 0 then x else fst0 r

mutual
def Tm.cmp : Tm → Tm → Int
  | .mk k n s l, b => match b with
    | .mk k' n' s' l' => fst0 [ncmp (rkI k) (rkI k'), if k = 1 then ncmp n n' else 0, ncmp l.length l'.length, Lib.compareBytes s s', Tm.cmpL l l', ncmp n n']
def Tm.cmpL : List Tm → List Tm → Int
  | [], q => match q with
    | [] => 0
    | _ :: _ => -1
  | a :: r, q => match q with
    | [] => 1
    | b :: q => if a.cmp b ≠ 0 then a.cmp b else Tm.cmpL r q
end

mutual
/-- The size as it is counted. -/
def Tm.sz : Tm → Int → Int
  | .mk _ _ _ l, m => 1 + Tm.szL l (m - 1) 0
def Tm.szL : List Tm → Int → Int → Int
  | [], m, n => n
  | a :: r, m, n => if n ≤ m then Tm.szL r m (n + a.sz (m - n)) else n
end

mutual
/-- The same. -/
def Tm.eqb : Tm → Tm → Bool
  | .mk k n s l, b => match b with
    | .mk k' n' s' l' => decide (k = k') && decide (n = n') && decide (s = s') && Tm.eqbL l l'
def Tm.eqbL : List Tm → List Tm → Bool
  | [], q => match q with
    | [] => true
    | _ :: _ => false
  | a :: r, q => match q with
    | [] => false
    | b :: q => a.eqb b && Tm.eqbL r q
end

theorem ncmp_eq {a b : Int} : ncmp a b = 0 ↔ a = b := by
  unfold ncmp; split
  · simp; omega
  · split
    · simp; omega
    · simp; omega
theorem ncmp_neg (a b : Int) : ncmp b a = - ncmp a b := by
  unfold ncmp
  repeat' split
  all_goals omega
theorem ncmp_range (a b : Int) : ncmp a b = -1 ∨ ncmp a b = 0 ∨ ncmp a b = 1 := by
  unfold ncmp; split
  · exact .inl rfl
  · split
    · exact .inr (.inr rfl)
    · exact .inr (.inl rfl)

theorem fst0_range {l : List Int} (h : ∀ x ∈ l, x = -1 ∨ x = 0 ∨ x = 1) : fst0 l = -1 ∨ fst0 l = 0 ∨ fst0 l = 1 := by
  induction l with
  | nil => exact .inr (.inl rfl)
  | cons x r ih =>
    unfold fst0
    split
    · exact h x (List.mem_cons_self ..)
    · exact ih fun y hy => h y (List.mem_cons_of_mem _ hy)

theorem bcmp_range : ∀ (a b : List UInt8), Lib.compareBytes a b = -1 ∨ Lib.compareBytes a b = 0 ∨ Lib.compareBytes a b = 1
  | [], [] => .inr (.inl rfl)
  | [], _ :: _ => .inl rfl
  | _ :: _, [] => .inr (.inr rfl)
  | a :: r, b :: q => by
    unfold Lib.compareBytes
    split
    · exact .inl rfl
    · split
      · exact .inr (.inr rfl)
      · exact bcmp_range r q
theorem bcmp_eq : ∀ {a b : List UInt8}, Lib.compareBytes a b = 0 ↔ a = b
  | [], [] => by simp [Lib.compareBytes]
  | [], _ :: _ => by simp [Lib.compareBytes]
  | _ :: _, [] => by simp [Lib.compareBytes]
  | a :: r, b :: q => by
    unfold Lib.compareBytes
    split
    · rename_i h; simp; intro e; subst e; exact absurd h (UInt8.lt_irrefl _)
    · split
      · rename_i h; simp; intro e; subst e; exact absurd h (UInt8.lt_irrefl _)
      · rename_i h1 h2
        have : a = b := by
          rw [← UInt8.toNat_inj]
          rw [UInt8.lt_iff_toNat_lt] at h1 h2
          omega
        rw [bcmp_eq (a := r) (b := q)]
        simp [this]
theorem bcmp_neg : ∀ (a b : List UInt8), Lib.compareBytes b a = - Lib.compareBytes a b
  | [], [] => rfl
  | [], _ :: _ => rfl
  | _ :: _, [] => rfl
  | a :: r, b :: q => by
    unfold Lib.compareBytes
    by_cases h1 : a < b
    · have h2 : ¬ b < a := by rw [UInt8.lt_iff_toNat_lt] at *; omega
      rw [if_pos h1, if_neg h2, if_pos h1]; rfl
    · by_cases h2 : b < a
      · rw [if_pos h2, if_neg h1, if_pos h2]
      · rw [if_neg h2, if_neg h1, if_neg h1, if_neg h2]; exact bcmp_neg r q
/-- By the order of strings. -/
theorem bcmp_less : ∀ (a b : List UInt8), Lib.compareBytes a b = if Op.bytesLess a b = true then -1 else if (!(Op.bytesLess a b || decide (a = b))) = true then 1 else 0
  | [], [] => rfl
  | [], _ :: _ => rfl
  | _ :: _, [] => by simp [Lib.compareBytes, Op.bytesLess]
  | a :: r, b :: q => by
    unfold Lib.compareBytes Op.bytesLess
    by_cases h1 : a < b
    · simp [h1]
    · by_cases h2 : b < a
      · have : a ≠ b := fun e => by subst e; exact h1 h2
        simp [h1, h2, this]
      · have hab : a = b := by
          rw [← UInt8.toNat_inj]
          rw [UInt8.lt_iff_toNat_lt] at h1 h2
          omega
        subst hab
        rw [bcmp_less r q]
        simp [h1]

mutual
theorem cmp_range : ∀ (a b : Tm), a.cmp b = -1 ∨ a.cmp b = 0 ∨ a.cmp b = 1
  | .mk k n s l, .mk k' n' s' l' => by
    simp only [Tm.cmp]
    refine fst0_range fun x hx => ?_
    simp only [List.mem_cons, List.not_mem_nil, or_false] at hx
    rcases hx with rfl | rfl | rfl | rfl | rfl | rfl
    · exact ncmp_range _ _
    · split
      · exact ncmp_range _ _
      · exact .inr (.inl rfl)
    · exact ncmp_range _ _
    · exact bcmp_range _ _
    · exact cmpL_range l l'
    · exact ncmp_range _ _
theorem cmpL_range : ∀ (a b : List Tm), Tm.cmpL a b = -1 ∨ Tm.cmpL a b = 0 ∨ Tm.cmpL a b = 1
  | [], [] => .inr (.inl rfl)
  | [], _ :: _ => .inl rfl
  | _ :: _, [] => .inr (.inr rfl)
  | a :: r, b :: q => by
    simp only [Tm.cmpL]
    split
    · exact cmp_range a b
    · exact cmpL_range r q
end
end Go.Sx
namespace Go.Sx
mutual
/-- All lists of arguments are this short. -/
def Tm.few (N : Nat) : Tm → Prop
  | .mk _ _ _ l => l.length ≤ N ∧ Tm.fewL N l
def Tm.fewL (N : Nat) : List Tm → Prop
  | [] => True
  | a :: r => a.few N ∧ Tm.fewL N r
end
theorem fewL_all {N : Nat} : ∀ {l : List Tm}, Tm.fewL N l ↔ ∀ t ∈ l, t.few N
  | [] => by simp [Tm.fewL]
  | a :: r => by simp [Tm.fewL, fewL_all (l := r)]

mutual
theorem sz_ge : ∀ (t : Tm) (m : Int), 1 ≤ t.sz m
  | .mk k n s l, m => by
    have := szL_ge l (m - 1) 0
    simp only [Tm.sz]; omega
theorem szL_ge : ∀ (l : List Tm) (m n : Int), n ≤ Tm.szL l m n
  | [], m, n => by simp only [Tm.szL]; omega
  | a :: r, m, n => by
    simp only [Tm.szL]
    split
    · have := szL_ge r m (n + a.sz (m - n))
      have := sz_ge a (m - n)
      omega
    · omega
end
mutual
theorem sz_le : ∀ (t : Tm) (m : Int), 0 ≤ m → t.sz m ≤ m + 1
  | .mk k n s l, m, hm => by
    have := szL_le l (m - 1) 0 (by omega)
    simp only [Tm.sz]; omega
theorem szL_le : ∀ (l : List Tm) (m n : Int), n ≤ m + 1 → Tm.szL l m n ≤ m + 1
  | [], m, n, h => by simp only [Tm.szL]; omega
  | a :: r, m, n, h => by
    simp only [Tm.szL]
    split
    · have := sz_le a (m - n) (by omega)
      exact szL_le r m _ (by omega)
    · omega
end
mutual
theorem sz_few {N : Nat} : ∀ (t : Tm) (m : Int), m ≤ N → t.sz m ≤ m → t.few N
  | .mk k n s l, m, hm, h => by
    simp only [Tm.sz] at h
    have := szL_few (N := N) l (m - 1) 0 (by omega) (by omega)
    exact ⟨by omega, this.1⟩
theorem szL_few {N : Nat} : ∀ (l : List Tm) (m n : Int), m - n ≤ N → Tm.szL l m n ≤ m → Tm.fewL N l ∧ n + l.length ≤ Tm.szL l m n
  | [], m, n, hm, h => by simp [Tm.szL, Tm.fewL]
  | a :: r, m, n, hm, h => by
    simp only [Tm.szL] at h ⊢
    split at h
    · rename_i hnm
      rw [if_pos hnm]
      have h1 := sz_ge a (m - n)
      have h2 := szL_few (N := N) r m (n + a.sz (m - n)) (by omega) h
      have h3 := sz_few (N := N) a (m - n) hm (by omega)
      exact ⟨⟨h3, h2.1⟩, by rw [List.length_cons]; omega⟩
    · omega
end

theorem fst0_zip : ∀ {l q : List Tm} {t : List Int}, l.length = q.length → fst0 (List.zipWith Tm.cmp l q ++ t) = if Tm.cmpL l q ≠ 0 then Tm.cmpL l q else fst0 t
  | [], [], t, _ => by simp [Tm.cmpL]
  | [], _ :: _, t, h => by cases h
  | _ :: _, [], t, h => by cases h
  | a :: r, b :: q, t, h => by
    by_cases hc : a.cmp b ≠ 0
    · have e : Tm.cmpL (a :: r) (b :: q) = a.cmp b := by simp only [Tm.cmpL]; rw [if_pos hc]
      rw [e, if_pos hc]
      simp only [List.zipWith_cons_cons, List.cons_append, fst0]
      rw [if_pos hc]
    · have e : Tm.cmpL (a :: r) (b :: q) = Tm.cmpL r q := by simp only [Tm.cmpL]; rw [if_neg hc]
      rw [e]
      simp only [List.zipWith_cons_cons, List.cons_append, fst0]
      rw [if_neg hc]
      exact fst0_zip (by simpa using h)
/-- The comparison, in the reference model's order. -/
theorem cmp_ref (k : Nat) (n : Int) (s : List UInt8) (l : List Tm) (k' : Nat) (n' : Int) (s' : List UInt8) (l' : List Tm) :
    fst0 ([ncmp (rkI k) (rkI k'), if k = 1 then ncmp n n' else 0, ncmp l.length l'.length, Lib.compareBytes s s'] ++ List.zipWith Tm.cmp l l' ++ [ncmp n n']) = (Tm.mk k n s l).cmp (.mk k' n' s' l') := by
  by_cases hl : l.length = l'.length
  · simp only [Tm.cmp, List.cons_append, List.nil_append, fst0, fst0_zip hl]
  · have h : ncmp l.length l'.length ≠ 0 := fun h => hl (by have := ncmp_eq.1 h; omega)
    simp [Tm.cmp, fst0, h]

theorem fst0_zero : ∀ {l : List Int}, fst0 l = 0 ↔ ∀ x ∈ l, x = 0
  | [] => by simp [fst0]
  | x :: r => by
    unfold fst0
    split
    · rename_i h; simp [h]
    · rename_i h
      have hx : x = 0 := Classical.not_not.1 h
      rw [fst0_zero (l := r)]
      simp [hx]
theorem rkI_inj {k k' : Nat} (h : rkI k = rkI k') : k = k' := by
  unfold rkI at h
  (repeat' split at h) <;> omega

mutual
theorem cmp_eq : ∀ {a b : Tm}, a.cmp b = 0 ↔ a = b
  | .mk k n s l, .mk k' n' s' l' => by
    simp only [Tm.cmp, fst0_zero, Tm.mk.injEq, List.mem_cons, List.not_mem_nil, or_false, forall_eq_or_imp, forall_eq]
    constructor
    · rintro ⟨h1, _, h3, h4, h5, h6⟩
      have h3' : l.length = l'.length := by have := ncmp_eq.1 h3; omega
      exact ⟨rkI_inj (ncmp_eq.1 h1), ncmp_eq.1 h6, bcmp_eq.1 h4, (cmpL_eq h3').1 h5⟩
    · rintro ⟨rfl, rfl, rfl, rfl⟩
      refine ⟨ncmp_eq.2 rfl, ?_, ncmp_eq.2 rfl, bcmp_eq.2 rfl, (cmpL_eq rfl).2 rfl, ncmp_eq.2 rfl⟩
      split
      · exact ncmp_eq.2 rfl
      · rfl
theorem cmpL_eq : ∀ {a b : List Tm}, a.length = b.length → (Tm.cmpL a b = 0 ↔ a = b)
  | [], [], _ => by simp [Tm.cmpL]
  | [], _ :: _, h => by cases h
  | _ :: _, [], h => by cases h
  | a :: r, b :: q, h => by
    simp only [Tm.cmpL, List.cons.injEq]
    by_cases hc : a.cmp b = 0
    · rw [if_neg (by simpa using hc)]
      have := cmp_eq.1 hc
      rw [cmpL_eq (by simpa using h)]
      simp [this]
    · rw [if_pos hc]
      have : a ≠ b := fun e => hc (cmp_eq.2 e)
      simp [hc, this]
end
mutual
theorem eqb_eq : ∀ {a b : Tm}, a.eqb b = true ↔ a = b
  | .mk k n s l, .mk k' n' s' l' => by
    simp only [Tm.eqb, Bool.and_eq_true, decide_eq_true_eq, eqbL_eq, Tm.mk.injEq]
    constructor
    · rintro ⟨⟨⟨h1, h2⟩, h3⟩, h4⟩; exact ⟨h1, h2, h3, h4⟩
    · rintro ⟨h1, h2, h3, h4⟩; exact ⟨⟨⟨h1, h2⟩, h3⟩, h4⟩
theorem eqbL_eq : ∀ {a b : List Tm}, Tm.eqbL a b = true ↔ a = b
  | [], [] => by simp [Tm.eqbL]
  | [], _ :: _ => by simp [Tm.eqbL]
  | _ :: _, [] => by simp [Tm.eqbL]
  | a :: r, b :: q => by
    simp only [Tm.eqbL, Bool.and_eq_true, List.cons.injEq, eqb_eq (a := a) (b := b), eqbL_eq (a := r) (b := q)]
end
theorem eqb_cmp (a b : Tm) : a.eqb b = decide (a.cmp b = 0) := by
  rw [Bool.eq_iff_iff, eqb_eq, decide_eq_true_eq, cmp_eq]
end Go.Sx

/- Plain laws on bytes and lists. -/
namespace Go.Sx
/-- Where the run of bytes that pass, begun at i, ends. -/
def runTo (p : UInt8 → Bool) (s : List UInt8) (i : Nat) : Nat := i + ((s.drop i).takeWhile p).length

theorem runTo_step {p : UInt8 → Bool} {s : List UInt8} {i : Nat} (h : i < s.length) (hp : p (s.getD i 0) = true) : runTo p s i = runTo p s (i + 1) := by
  unfold runTo
  rw [List.drop_eq_getElem_cons h, List.takeWhile_cons]
  rw [List.getD_eq_getElem?_getD, List.getElem?_eq_getElem h, Option.getD_some] at hp
  rw [if_pos hp, List.length_cons]
  omega
theorem runTo_stop {p : UInt8 → Bool} {s : List UInt8} {i : Nat} (h : i < s.length) (hp : p (s.getD i 0) = false) : runTo p s i = i := by
  unfold runTo
  rw [List.drop_eq_getElem_cons h, List.takeWhile_cons]
  rw [List.getD_eq_getElem?_getD, List.getElem?_eq_getElem h, Option.getD_some] at hp
  rw [if_neg (by simp [hp])]
  simp
theorem runTo_end {p : UInt8 → Bool} {s : List UInt8} {i : Nat} (h : s.length ≤ i) : runTo p s i = i := by
  unfold runTo
  rw [List.drop_eq_nil_of_le h]; simp
theorem runTo_le (p : UInt8 → Bool) (s : List UInt8) (i : Nat) : i ≤ runTo p s i := by unfold runTo; omega
theorem runTo_len {p : UInt8 → Bool} {s : List UInt8} {i : Nat} (h : i ≤ s.length) : runTo p s i ≤ s.length := by
  unfold runTo
  have := (List.takeWhile_sublist (l := s.drop i) p).length_le
  rw [List.length_drop] at this
  omega
theorem runTo_text (p : UInt8 → Bool) (s : List UInt8) (i : Nat) : (s.take (runTo p s i)).drop i = (s.drop i).takeWhile p := by
  unfold runTo
  rw [List.drop_take, Nat.add_sub_cancel_left]
  exact (List.prefix_iff_eq_take.1 (List.takeWhile_prefix p)).symm
theorem byte_lt (s : List UInt8) (i : Nat) : 0 ≤ ((s.getD i 0).toNat : Int) ∧ ((s.getD i 0).toNat : Int) < 256 := by
  have := (s.getD i 0).toNat_lt
  omega
end Go.Sx

/- The lexer, plainly. -/
namespace Go.Sx.Lx
open Go.Sx

def isLow (b : UInt8) : Bool := decide (97 ≤ b.toNat) && decide (b.toNat ≤ 122)
def isUp (b : UInt8) : Bool := decide (65 ≤ b.toNat) && decide (b.toNat ≤ 90)
def isDig (b : UInt8) : Bool := decide (48 ≤ b.toNat) && decide (b.toNat ≤ 57)
def isLet (b : UInt8) : Bool := isLow b || isUp b
def isUnd (b : UInt8) : Bool := b == 95
def isName (b : UInt8) : Bool := isLet b || isDig b || isUnd b
def isBlank (b : UInt8) : Bool := b == 32 || b == 9 || b == 10 || b == 13
def inLine (b : UInt8) : Bool := !(b == 10)

/-- How many bytes of blanks and comments; c: within a comment. -/
def skp : Bool → List UInt8 → Nat
  | _, [] => 0
  | false, b :: r => if isBlank b then 1 + skp false r else if b == 37 then 1 + skp true r else 0
  | true, b :: r => if b == 10 then 1 + skp false r else 1 + skp true r

theorem skp_le : ∀ (c : Bool) (l : List UInt8), skp c l ≤ l.length
  | _, [] => by simp [skp]
  | false, b :: r => by
    simp only [skp]
    have h1 := skp_le false r
    have h2 := skp_le true r
    repeat' split
    all_goals simp only [List.length_cons]; omega
  | true, b :: r => by
    simp only [skp]
    have h1 := skp_le false r
    have h2 := skp_le true r
    repeat' split
    all_goals simp only [List.length_cons]; omega

theorem skp_blank : ∀ l : List UInt8, skp false l = (l.takeWhile isBlank).length + skp false (l.drop (l.takeWhile isBlank).length)
  | [] => rfl
  | b :: r => by
    cases hb : isBlank b with
    | true =>
      rw [List.takeWhile_cons, if_pos hb]
      simp only [List.length_cons, List.drop_succ_cons]
      rw [show skp false (b :: r) = 1 + skp false r by simp [skp, hb], skp_blank r]
      omega
    | false => rw [List.takeWhile_cons, if_neg (by simp [hb])]; simp

theorem skp_line : ∀ l : List UInt8, skp true l = (l.takeWhile inLine).length + skp false (l.drop (l.takeWhile inLine).length)
  | [] => rfl
  | b :: r => by
    cases hb : inLine b with
    | true =>
      rw [List.takeWhile_cons, if_pos hb]
      simp only [List.length_cons, List.drop_succ_cons]
      have h : (b == 10) = false := by simpa [inLine] using hb
      rw [show skp true (b :: r) = 1 + skp true r by simp [skp, h], skp_line r]
      omega
    | false =>
      rw [List.takeWhile_cons, if_neg (by simp [hb])]
      have h : b = 10 := by simpa [inLine] using hb
      subst h
      simp [skp, isBlank]

theorem skp_cmt {l : List UInt8} (h : l.head? = some 37) : skp false l = (l.takeWhile inLine).length + skp false (l.drop (l.takeWhile inLine).length) := by
  cases l with
  | nil => cases h
  | cons b r =>
    simp only [List.head?_cons, Option.some.injEq] at h
    subst h
    rw [show skp false (37 :: r) = 1 + skp true r by simp [skp, isBlank], List.takeWhile_cons, if_pos (by decide), skp_line r]
    simp only [List.length_cons, List.drop_succ_cons]
    omega

theorem skp_stop {l : List UInt8} (h : ∀ b, l.head? = some b → isBlank b = false ∧ b ≠ 37) : skp false l = 0 := by
  cases l with
  | nil => rfl
  | cons b r =>
    obtain ⟨h1, h2⟩ := h b rfl
    simp [skp, h1, h2]

/-- Where the blanks and comments begun at i end. -/
def skipTo (s : List UInt8) (i : Nat) : Nat := i + skp false (s.drop i)
theorem skipTo_len {s : List UInt8} {i : Nat} (h : i ≤ s.length) : skipTo s i ≤ s.length := by
  have := skp_le false (s.drop i)
  rw [List.length_drop] at this
  unfold skipTo; omega
theorem skipTo_blank (s : List UInt8) (i : Nat) : skipTo s i = skipTo s (runTo isBlank s i) := by
  unfold skipTo runTo
  rw [skp_blank (s.drop i), List.drop_drop]
  omega
theorem skipTo_cmt {s : List UInt8} {i : Nat} (h : i < s.length) (hb : s.getD i 0 = 37) : skipTo s i = skipTo s (runTo inLine s i) := by
  unfold skipTo runTo
  rw [List.getD_eq_getElem?_getD, List.getElem?_eq_getElem h, Option.getD_some] at hb
  rw [skp_cmt (by rw [List.head?_drop, List.getElem?_eq_getElem h, hb]), List.drop_drop]
  omega
theorem runTo_not {p : UInt8 → Bool} {s : List UInt8} {i : Nat} (h : runTo p s i < s.length) : p (s.getD (runTo p s i) 0) = false := by
  suffices ∀ (l : List UInt8), (l.takeWhile p).length < l.length → p (l.getD (l.takeWhile p).length 0) = false by
    have h2 := this (s.drop i) (by unfold runTo at h; rw [List.length_drop]; omega)
    unfold runTo
    simpa [List.getD, List.getElem?_drop] using h2
  intro l
  induction l with
  | nil => intro h; simp at h
  | cons b r ih =>
    intro h
    rw [List.takeWhile_cons] at h ⊢
    split
    · rename_i hb
      rw [if_pos hb] at h
      simpa using ih (by simpa using h)
    · rename_i hb; simpa using hb
theorem skipTo_stop {s : List UInt8} {i : Nat} (h : runTo isBlank s i = s.length ∨ s.getD (runTo isBlank s i) 0 ≠ 37) (hi : i ≤ s.length) : skipTo s i = runTo isBlank s i := by
  rw [skipTo_blank]
  have hl := runTo_len (p := isBlank) hi
  unfold skipTo
  rw [skp_stop]
  · omega
  · intro b hb
    rw [List.head?_drop] at hb
    obtain ⟨hlt, hbe⟩ := List.getElem?_eq_some_iff.1 hb
    have hg : s.getD (runTo isBlank s i) 0 = b := by rw [List.getD_eq_getElem?_getD, hb]; rfl
    refine ⟨?_, ?_⟩
    · have := runTo_not (p := isBlank) hlt
      rwa [hg] at this
    · rcases h with h | h
      · omega
      · rwa [hg] at h
end Go.Sx.Lx
namespace Go.Sx.Lx
/-- A name whose first byte behind the underscores passes. -/
def wordB (first : UInt8 → Bool) (s : List UInt8) : Bool := match s.dropWhile isUnd with
  | [] => false
  | b :: r => first b && (b :: r).all isName && decide (s.length ≤ 32)
def notS : List UInt8 := [110, 111, 116]
def symbolB (s : List UInt8) : Bool := wordB isLow s && decide (s ≠ notS)
def variableB (s : List UInt8) : Bool := wordB isUp s || (match s with
  | 95 :: r => r.all isDig && decide (s.length ≤ 32)
  | _ => false)
end Go.Sx.Lx
namespace Go.Sx
/-- Texts as cells. -/
def strC (l : List (List UInt8)) : List (List D) := l.map fun t => [D.str t]
theorem strC_get {l : List (List UInt8)} {i : Nat} (h : i < l.length) : (strC l)[i]? = some [D.str (l.getD i [])] := by
  unfold strC
  rw [List.getElem?_map, List.getElem?_eq_getElem h]
  simp [List.getD, h]
theorem strC_len (l : List (List UInt8)) : (strC l).length = l.length := by simp [strC]
/-- Where a text stands, counted from i. -/
def idxS (t : List UInt8) : List (List UInt8) → Int → Int
  | [], _ => -1
  | x :: r, i => if t = x then i else idxS t r (i + 1)
theorem idxS_mem (t : List UInt8) : ∀ (l : List (List UInt8)) (i : Int), 0 ≤ i → (0 ≤ idxS t l i ↔ t ∈ l)
  | [], i, h => by simp [idxS]
  | x :: r, i, h => by
    simp only [idxS, List.mem_cons]
    split
    · rename_i e; simp [e, h]
    · rename_i e; rw [idxS_mem t r (i + 1) (by omega)]; simp [e]
theorem drop_getD {α : Type} {l : List α} {d : α} {i : Nat} (h : i < l.length) : l.drop i = l.getD i d :: l.drop (i + 1) := by
  rw [List.drop_eq_getElem_cons h]; simp [List.getD, h]
end Go.Sx
namespace Go.Sx.Lx
/-- The signs; longer ones stand before their beginnings. -/
def signL : List (List UInt8) := [[58, 45], [58, 126], [58], [46, 46], [46], [44], [59], [124], [40], [41], [123], [125], [91], [93], [61], [33, 61], [60, 61], [62, 61], [60], [62], [43], [45], [42], [47], [92], [64]]
/-- The sign with which a text begins. -/
def signOf (s : List UInt8) : List UInt8 := (signL.find? (·.isPrefixOf s)).getD []
end Go.Sx.Lx
namespace Go.Sx.Lx
/-- The kind of a word, the error. -/
def wordK (s : List UInt8) : Int × Int := if s = notS then (4, 0) else if symbolB s = true then (1, 0) else if variableB s = true then (2, 0) else (0, 31)
def dirs : List (List UInt8) := [[35, 99, 111, 110, 115, 116], [35, 115, 104, 111, 119], [35, 109, 105, 110, 105, 109, 105, 122, 101], [35, 99, 111, 117, 110, 116], [35, 115, 117, 109]]
/-- A number's error. -/
def numE (s : List UInt8) : Int := match Lib.atoiAll s with
  | .ok n => if 2147483647 < n then 32 else if Lib.itoa n = s then 0 else 32
  | _ => 32
/-- A token's kind, its text, the error; of a text that is not empty. -/
def tok (s : List UInt8) : Int × List UInt8 × Int := match s with
  | [] => (0, [], 0)
  | b :: r =>
    if isLet b || isUnd b then ((wordK (s.takeWhile isName)).1, s.takeWhile isName, (wordK (s.takeWhile isName)).2)
    else if isDig b then (3, s.takeWhile isDig, numE (s.takeWhile isDig))
    else if b == 35 then (5, 35 :: r.takeWhile isLet, if 35 :: r.takeWhile isLet ∈ dirs then 0 else 31)
    else (6, signOf s, if signOf s = [] then 30 else 0)
end Go.Sx.Lx
namespace Go.Sx.Lx
/-- A token: its kind, its text, its offset. -/
abbrev Tk := Int × List UInt8 × Int
def tokC (t : Tk) : List D := [.int .u8 t.1, .str t.2.1, .int .i64 t.2.2]
theorem takeWhile_pos {p : UInt8 → Bool} {b : UInt8} {r : List UInt8} (h : p b = true) : 0 < ((b :: r).takeWhile p).length := by
  rw [List.takeWhile_cons, if_pos h]; simp
theorem wordK_nil : wordK [] = (0, 31) := by decide
theorem tok_pos {l : List UInt8} (hl : l ≠ []) (h : (tok l).2.2 = 0) : 0 < (tok l).2.1.length := by
  cases l with
  | nil => exact absurd rfl hl
  | cons b r =>
    unfold tok at h ⊢
    simp only at h ⊢
    split
    · rename_i hb; exact takeWhile_pos (by simp only [isName]; simp only [Bool.or_eq_true] at hb ⊢; rcases hb with h | h <;> simp [h])
    split
    · rename_i hb; exact takeWhile_pos hb
    split
    · simp
    · rename_i h1 h2 h3
      rw [if_neg h1, if_neg h2, if_neg h3] at h
      simp only at h
      by_cases hs : signOf (b :: r) = []
      · rw [if_pos hs] at h; cases h
      · exact List.length_pos_iff.2 hs
theorem tok_len (l : List UInt8) : (tok l).2.1.length ≤ l.length := by
  cases l with
  | nil => simp [tok]
  | cons b r =>
    unfold tok
    simp only
    split
    · exact (List.takeWhile_sublist _).length_le
    split
    · exact (List.takeWhile_sublist _).length_le
    split
    · simpa using (List.takeWhile_sublist (l := r) isLet).length_le
    · simp only [signOf]
      cases hf : signL.find? (·.isPrefixOf (b :: r)) with
      | none => simp
      | some s =>
        have := List.find?_some hf
        exact (List.isPrefixOf_iff_prefix.1 this).length_le
/-- The tokens of a text that begins with one, or is empty; an error and its offset; where it ends. -/
def toksF : Nat → Nat → List UInt8 → List Tk × Option (Nat × Int) × Nat
  | 0, o, _ => ([], none, o)
  | _ + 1, o, [] => ([], none, o)
  | f + 1, o, b :: r =>
    if (tok (b :: r)).2.2 = 0 then
      let n := (tok (b :: r)).2.1.length
      let k := skp false ((b :: r).drop n)
      let q := toksF f (o + n + k) ((b :: r).drop (n + k))
      (((tok (b :: r)).1, (tok (b :: r)).2.1, (o : Int)) :: q.1, q.2)
    else ([], some (o, (tok (b :: r)).2.2), o + (tok (b :: r)).2.1.length)
/-- Lex: the tokens, the error's offset, the error. -/
def lexR (s : List UInt8) : List Tk × Int × Int :=
  if 32768 < s.length then ([], 0, 3) else
  match toksF (s.length + 1) (skp false s) (s.drop (skp false s)) with
  | (_, some (a, e), _) => ([], a, e)
  | (l, none, _) => (l, 0, 0)
end Go.Sx.Lx
namespace Go.Sx.Lx
def deT : List D → Tk
  | [.int _ k, .str t, .int _ a] => (k, t, a)
  | _ => (0, [], 0)
theorem map_deT (l : List Tk) : (l.map tokC).map deT = l := by
  rw [List.map_map]
  exact List.map_id'' (fun _ => rfl) l
theorem tokC_get {l : List Tk} {i : Nat} (h : i < l.length) : (l.map tokC)[i]? = some (tokC (l.getD i default)) := by
  rw [List.getElem?_map, List.getElem?_eq_getElem h]
  simp [List.getD, h]
/-- Tokens alike but for their offsets. -/
def alikeB : List Tk → List Tk → Bool
  | [], [] => true
  | a :: r, b :: q => decide (a.1 = b.1) && decide (a.2.1 = b.2.1) && alikeB r q
  | _, _ => false
theorem alikeB_iff : ∀ (l k : List Tk), alikeB l k = true ↔ l.map (fun t => (t.1, t.2.1)) = k.map (fun t => (t.1, t.2.1))
  | [], [] => by simp [alikeB]
  | a :: r, b :: q => by
    simp only [alikeB, Bool.and_eq_true, decide_eq_true_eq, alikeB_iff r q, List.map_cons, List.cons.injEq, Prod.mk.injEq]
  | [], b :: q => by simp [alikeB]
  | a :: r, [] => by simp [alikeB]
theorem alikeB_len : ∀ (l k : List Tk), l.length ≠ k.length → alikeB l k = false
  | [], [], h => absurd rfl h
  | a :: r, b :: q, h => by
    simp only [alikeB, alikeB_len r q (fun he => h (by simp [he])), Bool.and_false]
  | [], b :: q, _ => rfl
  | a :: r, [], _ => rfl
/-- Blanks and comments alone; c: within a comment. -/
def emptyB : Bool → List UInt8 → Bool
  | _, [] => true
  | c, b :: r => if b = 10 then emptyB false r else if c = true then emptyB true r else if b = 37 then emptyB true r else if b ≠ 32 ∧ b ≠ 9 ∧ b ≠ 13 then false else emptyB false r
end Go.Sx.Lx
namespace Go.Sx.Lx
def pickG (n m : Int) : Int := if n.tmod m < 0 then n.tmod m + m else n.tmod m
end Go.Sx.Lx

/- All subterms of a term. -/
namespace Go.Sx
mutual
def Tm.all (h : Tm → Bool) : Tm → Bool
  | .mk k n s l => h (.mk k n s l) && Tm.allL h l
def Tm.allL (h : Tm → Bool) : List Tm → Bool
  | [] => true
  | a :: r => a.all h && Tm.allL h r
end
mutual
def Tm.depth : Tm → Nat
  | .mk _ _ _ l => Tm.depthL l + 1
def Tm.depthL : List Tm → Nat
  | [] => 0
  | a :: r => Nat.max a.depth (Tm.depthL r)
end
end Go.Sx
namespace Go.Sx
/-- What the rows of the kinds ask. -/
def shapeB (k n : Int) (s : List UInt8) (len : Nat) : Bool :=
  if k = 1 then decide (-2147483647 ≤ n) && decide (n ≤ 2147483647) && decide (s = []) && decide (len = 0)
  else if k = 2 then decide (n = 0) && Lx.symbolB s && decide (len = 0)
  else if k = 3 then decide (n = 0) && Lx.variableB s && decide (len = 0)
  else if k = 4 then decide (n = 0) && Lx.symbolB s && decide (1 ≤ len) && decide (len ≤ 8)
  else if k = 5 then decide (n = 0) && (decide (s = [43]) || decide (s = [45]) || decide (s = [42]) || decide (s = [47]) || decide (s = [92])) && (decide (len = 2) || decide (s = [45]) && decide (len = 1))
  else if k = 6 then decide (n = 0) && decide (s = []) && decide (len = 2)
  else false
def Tm.shape : Tm → Bool
  | .mk k n s l => shapeB k n s l.length
def Tm.valid (t : Tm) : Bool := decide (t.depth ≤ 12) && t.all Tm.shape
end Go.Sx

/- ARITHMETIC, PLAIN. -/
namespace Go.Sx
def fitsB (n : Int) : Bool := decide (-2147483647 ≤ n) && decide (n ≤ 2147483647)
theorem fitsB_iff {n : Int} : fitsB n = true ↔ -2147483647 ≤ n ∧ n ≤ 2147483647 := by simp [fitsB]
/-- An operation of two operands, ahead of the look at its size. -/
def calc0 (op : List UInt8) (a b : Int) : Option Int :=
  if op = [43] then some (a + b) else if op = [45] then some (a - b) else if op = [42] then some (a * b)
  else if op = [47] then (if b = 0 then none else some (a.tdiv b)) else if op = [92] then (if b = 0 then none else some (a.tmod b)) else none
def fitO (o : Option Int) : Option Int := match o with
  | some n => if fitsB n = true then some n else none
  | none => none
/-- arith.Calc -/
def calcR (op : List UInt8) (l : List Int) : Option Int := if l.all fitsB = true then (match l with
  | [a] => if op = [45] then some (-a) else none
  | [a, b] => fitO (calc0 op a b)
  | _ => none) else none
/-- A number, and whether there is one. -/
def resT (o : Option Int) : D := .tuple [.int .i64 (o.getD 0), .bool o.isSome]
theorem mul_fit {a b : Int} (ha : fitsB a = true) (hb : fitsB b = true) : -4611686014132420609 ≤ a * b ∧ a * b ≤ 4611686014132420609 := by
  rw [fitsB_iff] at ha hb
  have h1 : (a * b).natAbs ≤ 2147483647 * 2147483647 := by
    rw [Int.natAbs_mul]
    exact Nat.mul_le_mul (by omega) (by omega)
  omega
theorem tdiv_fit {a b : Int} (ha : fitsB a = true) : fitsB (a.tdiv b) = true := by
  rw [fitsB_iff] at ha ⊢
  have h1 : (a.tdiv b).natAbs ≤ a.natAbs := by
    rw [Int.natAbs_tdiv]
    exact Nat.div_le_self _ _
  omega
theorem tmod_fit {a b : Int} (ha : fitsB a = true) : fitsB (a.tmod b) = true := by
  rw [fitsB_iff] at ha ⊢
  have h1 : (a.tmod b).natAbs ≤ a.natAbs := by
    rw [Int.natAbs_tmod]
    exact Nat.mod_le _ _
  omega
end Go.Sx

/- ALL ROWS OF LISTS, PLAIN. -/
namespace Go.Sx
/-- A new number behind, if it is not there. -/
def insI (n : Int) (acc : List Int) : List Int := if n ∈ acc then acc else acc ++ [n]
def intD (l : List Int) : List D := l.map (.int .i64)
theorem mput_int (n : Int) : ∀ acc : List Int, mput (.int .i64 n) (.int .i64 n) (intD acc) (intD acc) = some (intD (insI n acc), intD (insI n acc))
  | [] => rfl
  | a :: r => by
    have ih := mput_int n r
    simp only [intD, List.map_cons, mput, keqD, if_true]
    by_cases h : n = a
    · subst h
      simp [insI]
    · have hd : decide (n = a) = false := by simp [h]
      rw [hd]
      simp only [intD] at ih
      rw [ih]
      by_cases h2 : n ∈ r
      · simp [insI, h2]
      · simp [insI, h2, h]
theorem insI_len (n : Int) (acc : List Int) : acc.length ≤ (insI n acc).length := by
  unfold insI
  split
  · exact Nat.le_refl _
  · simp
/-- What a row of operands adds. -/
def opB (s : List UInt8) (row acc : List Int) : List Int := match calcR s row with
  | some n => insI n acc
  | none => acc
theorem opB_len (s : List UInt8) (row acc : List Int) : acc.length ≤ (opB s row acc).length := by
  unfold opB
  split
  · exact insI_len _ _
  · exact Nat.le_refl _
/-- A fold over the rows, the row filled from the k-th place on. -/
def fillS {α β : Type} (f : List α → β → β) : List (List α) → Nat → List α × β → List α × β
  | [], _, p => (p.1, f p.1 p.2)
  | l :: ls, k, p => l.foldl (fun p x => fillS f ls (k + 1) (p.1.set k x, p.2)) p
theorem fillS_len {α β : Type} {f : List α → β → β} : ∀ (ls : List (List α)) (k : Nat) (p : List α × β), (fillS f ls k p).1.length = p.1.length
  | [], _, _ => rfl
  | l :: ls, k, p => by
    simp only [fillS]
    have ih := fillS_len (f := f) ls (k + 1)
    generalize fillS f ls (k + 1) = g at ih
    revert p
    intro p
    induction l generalizing p with
    | nil => rfl
    | cons x l ihl => simp only [List.foldl_cons]; rw [ihl, ih]; simp
/-- A size that grows from row to row. -/
theorem fillS_mono {α β : Type} {f : List α → β → β} {z : β → Nat} (hz : ∀ r b, z b ≤ z (f r b)) : ∀ (ls : List (List α)) (k : Nat) (p : List α × β), z p.2 ≤ z (fillS f ls k p).2
  | [], _, p => hz _ _
  | l :: ls, k, p => by
    simp only [fillS]
    have ih := fillS_mono hz ls (k + 1)
    generalize fillS f ls (k + 1) = g at ih
    revert p
    intro p
    induction l generalizing p with
    | nil => exact Nat.le_refl _
    | cons x l ihl => simp only [List.foldl_cons]; exact Nat.le_trans (ih (p.1.set k x, p.2)) (ihl _)
theorem fold_mono {α β : Type} {f : List α → β → β} {z : β → Nat} (hz : ∀ r b, z b ≤ z (f r b)) (ls : List (List α)) (k : Nat) : ∀ (l : List α) (p : List α × β), z p.2 ≤ z (l.foldl (fun p x => fillS f ls (k + 1) (p.1.set k x, p.2)) p).2
  | [], p => Nat.le_refl _
  | x :: l, p => by
    simp only [List.foldl_cons]
    exact Nat.le_trans (fillS_mono hz ls (k + 1) (p.1.set k x, p.2)) (fold_mono hz ls k l _)
/-- The rows, in their order. -/
def prodL {α : Type} : List (List α) → List (List α)
  | [] => [[]]
  | l :: ls => l.flatMap fun x => (prodL ls).map (x :: ·)
theorem fillS_prod {α β : Type} (f : List α → β → β) : ∀ (ls : List (List α)) (k : Nat) (row : List α) (b : β), k + ls.length = row.length → (fillS f ls k (row, b)).2 = (prodL ls).foldl (fun b r => f (row.take k ++ r) b) b ∧ (fillS f ls k (row, b)).1.take k = row.take k
  | [], k, row, b, h => by
    simp only [List.length_nil, Nat.add_zero] at h
    subst h
    simp [fillS, prodL]
  | l :: ls, k, row, b, h => by
    simp only [List.length_cons] at h
    have ih := fillS_prod f ls (k + 1)
    have hl := fillS_len (f := f) ls (k + 1)
    simp only [fillS, prodL]
    generalize fillS f ls (k + 1) = g at ih hl ⊢
    generalize hm : prodL ls = m at ih ⊢
    clear hm
    suffices H : ∀ (l : List α) (row : List α) (b : β), k + (ls.length + 1) = row.length → (l.foldl (fun p x => g (p.1.set k x, p.2)) (row, b)).2 = (l.flatMap fun x => m.map (x :: ·)).foldl (fun b r => f (row.take k ++ r) b) b ∧ (l.foldl (fun p x => g (p.1.set k x, p.2)) (row, b)).1.take k = row.take k from H l row b h
    intro l
    induction l with
    | nil => intro row b _; exact ⟨rfl, rfl⟩
    | cons x l ihl =>
      intro row b h
      obtain ⟨h1, h2⟩ := ih (row.set k x) b (by simp; omega)
      have hl2 := hl (row.set k x, b)
      simp only [List.foldl_cons, List.flatMap_cons, List.foldl_append]
      have htk : (g (row.set k x, b)).1.take k = row.take k := by
        have := congrArg (List.take k) h2
        rw [List.take_take, List.take_take, Nat.min_eq_left (by omega)] at this
        rw [this]
        exact List.take_set_of_le (Nat.le_refl k)
      obtain ⟨h3, h4⟩ := ihl (g (row.set k x, b)).1 (g (row.set k x, b)).2 (by rw [hl2]; simpa using h)
      rw [htk] at h3 h4
      refine ⟨?_, h4⟩
      rw [h3, h1, List.foldl_map]
      have ht : (row.set k x).take (k + 1) = row.take k ++ [x] := by
        rw [List.take_add_one]
        rw [List.take_set_of_le (Nat.le_refl k), List.getElem?_set_self (by omega)]
        rfl
      rw [ht]
      simp only [List.append_assoc, List.singleton_append]
/-- A number's term. -/
def numT (n : Int) : Tm := .mk 1 n [] []
def numC (l : List Int) : List (List D) := l.map fun n => [.int .u8 1, .int .i64 n, .str [], .slice [] []]
theorem numC_cells (l : List Int) : numC l = Tm.cellsL (l.map numT) := by
  rw [cellsL_map]
  simp [numC, numT, Tm.cells, Tm.cellsL]
def Tm.int? : Tm → Option Int
  | .mk k n _ _ => if k = 1 then some n else none
def intsT (l : List Tm) : List Int := l.filterMap Tm.int?
theorem intsT_cons (k : Nat) (n : Int) (s : List UInt8) (a r : List Tm) : intsT (.mk k n s a :: r) = if k = 1 then n :: intsT r else intsT r := by
  by_cases h : k = 1
  · simp only [intsT, List.filterMap_cons, Tm.int?, if_pos h]
  · simp only [intsT, List.filterMap_cons, Tm.int?, if_neg h]
theorem full_ix {n : Nat} {ix : List Nat} (hnd : ix.Nodup) (hlt : ∀ i ∈ ix, i < n) (hl : n ≤ ix.length) (i : Nat) (hi : i < n) : i ∈ ix := by
  by_cases h : i ∈ ix
  · exact h
  · have := List.Nodup.length_le_of_subset (List.nodup_cons.2 ⟨h, hnd⟩) (l₂ := List.range n) (fun j hj => by
      rcases List.mem_cons.1 hj with rfl | hj
      · exact List.mem_range.2 hi
      · exact List.mem_range.2 (hlt j hj))
    simp at this
    omega
theorem perm_ix {acc : List Int} {ix : List Nat} (hnd : ix.Nodup) (hlt : ∀ i ∈ ix, i < acc.length) (hall : ∀ i, i < acc.length → i ∈ ix) : (ix.map fun i => acc.getD i 0).Perm acc := by
  have h : ix.Perm (List.range acc.length) := (List.perm_ext_iff_of_nodup hnd List.nodup_range).2 fun i => ⟨fun hi => List.mem_range.2 (hlt i hi), fun hi => hall i (List.mem_range.1 hi)⟩
  refine (h.map _).trans ?_
  have e : (List.range acc.length).map (fun i => acc.getD i 0) = acc := by
    refine List.ext_getElem? fun j => ?_
    rw [List.getElem?_map]
    by_cases hj : j < acc.length
    · simp [hj]
    · rw [List.getElem?_eq_none (by simpa using hj), List.getElem?_eq_none (by omega)]; rfl
  rw [e]
end Go.Sx

/- Terms: plain, ground, their depth. -/
namespace Go.Sx
theorem allL_eq (h : Tm → Bool) : ∀ l : List Tm, Tm.allL h l = l.all fun x => x.all h
  | [] => rfl
  | a :: r => by simp only [Tm.allL, List.all_cons]; rw [allL_eq h r]
def Tm.plain : Tm → Bool
  | .mk k _ _ _ => decide (k = 1) || decide (k = 2) || decide (k = 4)
def Tm.gr : Tm → Bool
  | .mk k _ _ _ => !decide (k = 3)
mutual
theorem all_mono {h h' : Tm → Bool} (H : ∀ y, h y = true → h' y = true) : ∀ x : Tm, x.all h = true → x.all h' = true
  | .mk k n s l, hx => by
    simp only [Tm.all, Bool.and_eq_true] at hx ⊢
    exact ⟨H _ hx.1, allL_mono H l hx.2⟩
theorem allL_mono {h h' : Tm → Bool} (H : ∀ y, h y = true → h' y = true) : ∀ l : List Tm, Tm.allL h l = true → Tm.allL h' l = true
  | [], _ => rfl
  | a :: r, hl => by
    simp only [Tm.allL, Bool.and_eq_true] at hl ⊢
    exact ⟨all_mono H a hl.1, allL_mono H r hl.2⟩
end
theorem plain_gr (x : Tm) (h : x.all Tm.plain = true) : x.all Tm.gr = true := all_mono (fun y hy => by
  obtain ⟨k, n, s, l⟩ := y
  simp only [Tm.plain, Tm.gr, Bool.or_eq_true, decide_eq_true_eq, Bool.not_eq_true', decide_eq_false_iff_not] at hy ⊢
  omega) x h
theorem depthL_le {M : Nat} : ∀ {l : List Tm}, (∀ x ∈ l, x.depth ≤ M) → Tm.depthL l ≤ M
  | [], _ => by simp [Tm.depthL]
  | a :: r, h => by
    simp only [Tm.depthL]
    exact Nat.max_le.2 ⟨h a (List.mem_cons_self ..), depthL_le fun x hx => h x (List.mem_cons_of_mem _ hx)⟩
theorem depthL_mem0 {l : List Tm} {x : Tm} (h : x ∈ l) : x.depth ≤ Tm.depthL l := by
  induction l with
  | nil => cases h
  | cons a r ih =>
    simp only [Tm.depthL]
    rcases List.mem_cons.1 h with rfl | h
    · exact Nat.le_max_left ..
    · exact Nat.le_trans (ih h) (Nat.le_max_right ..)
theorem value_gr (x : Tm) (h : (x.all Tm.plain && x.valid) = true) : x.valid = true ∧ x.all Tm.gr = true := by
  rw [Bool.and_eq_true] at h
  exact ⟨h.2, plain_gr x h.1⟩
mutual
theorem sz_depth : ∀ (t : Tm) (m : Int), t.sz m ≤ m → (t.depth : Int) ≤ m
  | .mk k n s l, m, h => by
    simp only [Tm.sz] at h
    have := szL_depth l (m - 1) 0 (by omega)
    simp only [Tm.depth]
    omega
theorem szL_depth : ∀ (l : List Tm) (m n : Int), Tm.szL l m n ≤ m → (Tm.depthL l : Int) ≤ m - n
  | [], m, n, h => by
    simp only [Tm.szL] at h
    simp only [Tm.depthL]
    omega
  | a :: r, m, n, h => by
    simp only [Tm.szL] at h
    simp only [Tm.depthL]
    split at h
    · have h0 := sz_ge a (m - n)
      have h1 := szL_ge r m (n + a.sz (m - n))
      have h2 := szL_depth r m (n + a.sz (m - n)) h
      have h3 := sz_depth a (m - n) (by omega)
      have : Nat.max a.depth (Tm.depthL r) = a.depth ∨ Nat.max a.depth (Tm.depthL r) = Tm.depthL r := by
        rcases Nat.le_total a.depth (Tm.depthL r) with h | h
        · exact .inr (Nat.max_eq_right h)
        · exact .inl (Nat.max_eq_left h)
      omega
    · omega
end
end Go.Sx

/- EVALUATION OF TERMS WITHOUT INTERVALS, PLAIN. -/
namespace Go.Sx
/-- The numbers, if all are. -/
def numsAll : List Tm → Option (List Int)
  | [] => some []
  | a :: r => match a.int?, numsAll r with
    | some n, some l => some (n :: l)
    | _, _ => none
def consO (a : Option Tm) (r : Option (List Tm)) : Option (List Tm) := match a, r with
  | some x, some l => some (x :: l)
  | _, _ => none
def evK (k : Nat) (s : List UInt8) (o : Option (List Tm)) : Option Tm := match o with
  | none => none
  | some vs => if k = 5 then (match numsAll vs with
    | some l => (calcR s l).map numT
    | none => none) else some (.mk 4 0 s vs)
mutual
def Tm.ev : Tm → Option Tm
  | .mk k n s l => if l.isEmpty = true then some (.mk k n s []) else evK k s (Tm.evL l)
def Tm.evL : List Tm → Option (List Tm)
  | [] => some []
  | a :: r => consO a.ev (Tm.evL r)
end
/-- No interval. -/
def Tm.ns : Tm → Bool
  | .mk k _ _ _ => !decide (k = 6)
/-- What Eval answers. -/
def Tm.eval (t : Tm) : Option Tm := if (t.valid && (t.all Tm.gr && t.all Tm.ns)) = true then t.ev else none
/-- The expansions: none or one. -/
def Tm.ex (t : Tm) : List Tm := t.ev.toList
theorem prod_ex : ∀ l : List Tm, prodL (l.map Tm.ex) = (Tm.evL l).toList
  | [] => rfl
  | a :: r => by
    rw [List.map_cons, prodL, prod_ex r, Tm.evL]
    unfold Tm.ex consO
    cases a.ev with
    | none => rfl
    | some x => cases Tm.evL r <;> rfl
theorem ex_none {l : List Tm} : (Tm.evL l).isSome = (l.map Tm.ex).all fun p => !p.isEmpty := by
  induction l with
  | nil => rfl
  | cons a r ih =>
    rw [Tm.evL, List.map_cons, List.all_cons, ← ih]
    unfold Tm.ex consO
    cases a.ev <;> cases Tm.evL r <;> rfl
theorem prod_int : ∀ l : List Tm, prodL ((l.map Tm.ex).map intsT) = ((Tm.evL l).bind numsAll).toList
  | [] => rfl
  | a :: r => by
    rw [List.map_cons, List.map_cons, prodL, prod_int r, Tm.evL]
    unfold Tm.ex consO
    cases a.ev with
    | none => rfl
    | some x =>
      cases hr : Tm.evL r with
      | none => simp
      | some q =>
        simp only [Option.toList_some, Option.bind_some, numsAll]
        unfold intsT
        simp only [List.filterMap_cons, List.filterMap_nil]
        cases x.int? with
        | none => rfl
        | some n => cases numsAll q <;> rfl
/-- The results of an operation of single operands. -/
theorem op_ex (s : List UInt8) (l : List Tm) : (fillS (opB s) ((l.map Tm.ex).map intsT) 0 (List.replicate (l.map Tm.ex).length 0, [])).2 = (((Tm.evL l).bind numsAll).bind (calcR s)).toList := by
  rw [(fillS_prod (opB s) _ 0 _ [] (by simp)).1, prod_int]
  cases (Tm.evL l).bind numsAll with
  | none => rfl
  | some q =>
    simp only [Option.toList_some, List.foldl_cons, List.foldl_nil, List.take_zero, List.nil_append, Option.bind_some]
    unfold opB
    cases calcR s q with
    | none => rfl
    | some n => rfl
theorem calcR_fits {s : List UInt8} {l : List Int} {n : Int} (h : calcR s l = some n) : fitsB n = true := by
  unfold calcR at h
  split at h
  · rename_i hf
    split at h
    · split at h
      · cases h
        rename_i a _
        have := fitsB_iff.1 (show fitsB a = true by simpa using hf)
        rw [fitsB_iff]; omega
      · cases h
    · unfold fitO at h
      split at h
      · split at h
        · rename_i hn; cases h; exact hn
        · cases h
      · cases h
    · cases h
  · cases h
theorem all_split {h : Tm → Bool} {k : Nat} {n : Int} {s : List UInt8} {l : List Tm} : (Tm.mk k n s l).all h = true ↔ h (.mk k n s l) = true ∧ ∀ x ∈ l, x.all h = true := by
  rw [Tm.all, allL_eq, Bool.and_eq_true, List.all_eq_true]
theorem evL_len : ∀ {l vs : List Tm}, Tm.evL l = some vs → vs.length = l.length
  | [], vs, h => by cases h; rfl
  | a :: r, vs, h => by
    rw [Tm.evL] at h
    unfold consO at h
    split at h
    · rename_i x q h1 h2; cases h; simp [evL_len h2]
    · cases h
theorem evL_get : ∀ {l vs : List Tm}, Tm.evL l = some vs → ∀ (i : Nat) (h : i < l.length) (h' : i < vs.length), l[i].ev = some vs[i]
  | [], vs, h, i, hi, _ => by simp at hi
  | a :: r, vs, h, i, hi, hi' => by
    rw [Tm.evL] at h
    unfold consO at h
    split at h
    · rename_i x q h1 h2
      cases h
      cases i with
      | zero => exact h1
      | succ i => exact evL_get h2 i (by simpa using hi) (by simpa using hi')
    · cases h
theorem evL_mem {l vs : List Tm} (h : Tm.evL l = some vs) {y : Tm} (hy : y ∈ vs) : ∃ x ∈ l, x.ev = some y := by
  obtain ⟨i, hi, rfl⟩ := List.getElem_of_mem hy
  have hl := evL_len h
  exact ⟨l[i], List.getElem_mem _, evL_get h i (by omega) hi⟩
theorem evL_some : ∀ {l vs : List Tm}, l.length = vs.length → (∀ (i : Nat) (h : i < l.length) (h' : i < vs.length), l[i].ev = some vs[i]) → Tm.evL l = some vs
  | [], [], _, _ => rfl
  | [], _ :: _, h, _ => by simp at h
  | _ :: _, [], h, _ => by simp at h
  | a :: r, x :: q, h, H => by
    have h0 := H 0 (by simp) (by simp)
    simp only [List.getElem_cons_zero] at h0
    have h1 : Tm.evL r = some q := evL_some (by simpa using h) fun i hi hi' => by
      have := H (i + 1) (by simpa using hi) (by simpa using hi')
      simpa using this
    rw [Tm.evL, h0, h1]; rfl
/-- A shape with arguments. -/
theorem shape_kids {k : Nat} {n : Int} {s : List UInt8} {l : List Tm} (h : Tm.shape (.mk k n s l) = true) (hl : l ≠ []) (h6 : k ≠ 6) : k = 4 ∧ n = 0 ∧ Lx.symbolB s = true ∧ l.length ≤ 8 ∨ k = 5 := by
  have h1 : l.length ≠ 0 := fun e => hl (List.length_eq_zero_iff.1 e)
  simp only [Tm.shape, shapeB] at h
  (repeat' split at h) <;> simp_all <;> omega
theorem numT_value {n : Int} (h : fitsB n = true) : (numT n).all Tm.plain = true ∧ (numT n).all Tm.shape = true ∧ (numT n).depth = 1 := by
  rw [fitsB_iff] at h
  refine ⟨rfl, ?_, rfl⟩
  simp [numT, Tm.all, Tm.allL, Tm.shape, shapeB, h.1, h.2]
/-- The value of a term is a value. -/
theorem ev_value : ∀ (t v : Tm), t.all Tm.shape = true → t.all Tm.gr = true → t.all Tm.ns = true → t.ev = some v → v.all Tm.plain = true ∧ v.all Tm.shape = true ∧ v.depth ≤ t.depth
  | .mk k n s l, v, hs, hg, hn, h => by
    rw [Tm.ev] at h
    have hs := all_split.1 hs
    have hg := all_split.1 hg
    have hn := all_split.1 hn
    split at h
    · rename_i he
      have he : l = [] := List.isEmpty_iff.1 he
      subst he
      cases h
      refine ⟨?_, by rw [all_split]; exact hs, Nat.le_refl _⟩
      rw [all_split]
      refine ⟨?_, fun x hx => by cases hx⟩
      have h1 := hs.1
      have h2 := hg.1
      have h3 := hn.1
      simp only [Tm.gr, Tm.ns, Tm.plain, Bool.not_eq_true', decide_eq_false_iff_not, Bool.or_eq_true, decide_eq_true_eq] at h2 h3 ⊢
      simp only [Tm.shape, shapeB] at h1
      (repeat' split at h1) <;> simp_all <;> omega
    · rename_i he
      have he : l ≠ [] := fun e => he (by rw [e]; rfl)
      have h6 : k ≠ 6 := by simpa [Tm.ns] using hn.1
      unfold evK at h
      split at h
      · cases h
      · rename_i vs hvs
        split at h
        · split at h
          · rename_i ns hns
            cases hq : calcR s ns with
            | none => rw [hq] at h; cases h
            | some m =>
              rw [hq] at h
              cases h
              have hv := numT_value (calcR_fits hq)
              refine ⟨hv.1, hv.2.1, ?_⟩
              rw [hv.2.2]
              simp [Tm.depth]
          · cases h
        · rename_i h5
          cases h
          have hk := shape_kids hs.1 he h6
          rcases hk with ⟨rfl, rfl, hsy, hln⟩ | hk
          rotate_left
          · exact absurd hk h5
          have hlen := evL_len hvs
          have hkid : ∀ y ∈ vs, ∃ x ∈ l, y.all Tm.plain = true ∧ y.all Tm.shape = true ∧ y.depth ≤ x.depth := fun y hy => by
            obtain ⟨x, hx, hxe⟩ := evL_mem hvs hy
            exact ⟨x, hx, ev_value x y (hs.2 x hx) (hg.2 x hx) (hn.2 x hx) hxe⟩
          refine ⟨?_, ?_, ?_⟩
          · rw [all_split]
            exact ⟨rfl, fun y hy => (hkid y hy).elim fun x hx => hx.2.1⟩
          · rw [all_split]
            refine ⟨?_, fun y hy => (hkid y hy).elim fun x hx => hx.2.2.1⟩
            have := hs.1
            simp only [Tm.shape] at this ⊢
            rw [hlen]; exact this
          · simp only [Tm.depth]
            have : Tm.depthL vs ≤ Tm.depthL l := depthL_le fun y hy => by
              obtain ⟨x, hx, _, _, hd⟩ := hkid y hy
              exact Nat.le_trans hd (depthL_mem0 hx)
            omega
termination_by t => SizeOf.sizeOf t
decreasing_by
  have := List.sizeOf_lt_of_mem hx
  simp only [Tm.mk.sizeOf_spec]
  omega
/-- A value evaluates to itself. -/
theorem ev_self : ∀ (t : Tm), t.all Tm.plain = true → t.all Tm.shape = true → t.ev = some t
  | .mk k n s l, hp, hs => by
    have hp := all_split.1 hp
    have hs := all_split.1 hs
    rw [Tm.ev]
    split
    · rename_i he
      rw [List.isEmpty_iff.1 he]
    · rename_i he
      have he : l ≠ [] := fun e => he (by rw [e]; rfl)
      have h1 := hp.1
      simp only [Tm.plain, Bool.or_eq_true, decide_eq_true_eq] at h1
      have hk := shape_kids hs.1 he (by omega)
      rcases hk with ⟨rfl, rfl, hsy, hln⟩ | hk
      rotate_left
      · omega
      have hv : Tm.evL l = some l := evL_some rfl fun i hi _ => ev_self l[i] (hp.2 _ (List.getElem_mem hi)) (hs.2 _ (List.getElem_mem hi))
      rw [hv]
      rfl
termination_by t => SizeOf.sizeOf t
decreasing_by
  have := List.sizeOf_lt_of_mem (List.getElem_mem hi)
  simp only [Tm.mk.sizeOf_spec]
  omega
theorem plain_ns (x : Tm) (h : x.all Tm.plain = true) : x.all Tm.ns = true := all_mono (fun y hy => by
  obtain ⟨k, n, s, l⟩ := y
  simp only [Tm.plain, Tm.ns, Bool.or_eq_true, decide_eq_true_eq, Bool.not_eq_true', decide_eq_false_iff_not] at hy ⊢
  omega) x h
theorem valid_iff {t : Tm} : t.valid = true ↔ t.depth ≤ 12 ∧ t.all Tm.shape = true := by simp [Tm.valid]
theorem eval_some {t v : Tm} (h : t.eval = some v) : t.valid = true ∧ t.all Tm.gr = true ∧ t.all Tm.ns = true ∧ t.ev = some v := by
  unfold Tm.eval at h
  split at h
  · rename_i hc
    simp only [Bool.and_eq_true] at hc
    exact ⟨hc.1, hc.2.1, hc.2.2, h⟩
  · cases h
theorem eval_of {t : Tm} (h1 : t.valid = true) (h2 : t.all Tm.gr = true) (h3 : t.all Tm.ns = true) : t.eval = t.ev := by
  unfold Tm.eval
  rw [if_pos (by simp [h1, h2, h3])]
def Tm.value (t : Tm) : Bool := t.all Tm.plain && t.valid
theorem eval_value {t v : Tm} (h : t.eval = some v) : v.value = true ∧ v.depth ≤ t.depth := by
  obtain ⟨h1, h2, h3, h4⟩ := eval_some h
  obtain ⟨hd, hs⟩ := valid_iff.1 h1
  obtain ⟨e1, e2, e3⟩ := ev_value t v hs h2 h3 h4
  refine ⟨?_, e3⟩
  unfold Tm.value
  rw [e1, Bool.true_and, valid_iff]
  exact ⟨by omega, e2⟩
theorem eval_self {t : Tm} (h : t.value = true) : t.eval = some t := by
  unfold Tm.value at h
  simp only [Bool.and_eq_true] at h
  rw [eval_of h.2 (plain_gr t h.1) (plain_ns t h.1)]
  exact ev_self t h.1 (valid_iff.1 h.2).2
/-- The parts of a term with a value have values. -/
theorem eval_kid {k : Nat} {n : Int} {s : List UInt8} {l : List Tm} {v : Tm} (h : (Tm.mk k n s l).eval = some v) (hl : l ≠ []) : ∃ vs, Tm.evL l = some vs ∧ vs.length = l.length ∧ (∀ (i : Nat) (h : i < l.length) (h' : i < vs.length), l[i].eval = some vs[i]) ∧
    (k = 4 ∧ v = .mk 4 0 s vs ∨ k = 5 ∧ ∃ ns m, numsAll vs = some ns ∧ calcR s ns = some m ∧ v = numT m) := by
  obtain ⟨h1, h2, h3, h4⟩ := eval_some h
  obtain ⟨hd, hs⟩ := valid_iff.1 h1
  have hs := all_split.1 hs
  have h2 := all_split.1 h2
  have h3 := all_split.1 h3
  rw [Tm.ev, if_neg (by simpa using hl)] at h4
  cases hvs : Tm.evL l with
  | none => rw [hvs] at h4; cases h4
  | some vs =>
    rw [hvs] at h4
    refine ⟨vs, rfl, evL_len hvs, fun i hi hi' => ?_, ?_⟩
    · have hm := List.getElem_mem hi
      have := depthL_mem0 hm
      simp only [Tm.depth] at hd
      rw [eval_of (valid_iff.2 ⟨by omega, hs.2 _ hm⟩) (h2.2 _ hm) (h3.2 _ hm)]
      exact evL_get hvs i hi hi'
    · have h6 : k ≠ 6 := by simpa [Tm.ns] using h3.1
      rcases shape_kids hs.1 hl h6 with ⟨rfl, rfl, _, _⟩ | rfl
      · unfold evK at h4
        cases h4
        exact .inl ⟨rfl, rfl⟩
      · unfold evK at h4
        simp only [if_true] at h4
        split at h4
        · rename_i ns hns
          cases hq : calcR s ns with
          | none => rw [hq] at h4; cases h4
          | some m =>
            rw [hq] at h4
            cases h4
            exact .inr ⟨rfl, ns, m, hns, hq, rfl⟩
        · cases h4
/-- What is no function term has no value that is one. -/
theorem eval_leaf {k : Nat} {n : Int} {s : List UInt8} {v : Tm} (h : (Tm.mk k n s []).eval = some v) : v = .mk k n s [] ∧ k ≠ 5 ∧ k ≠ 4 := by
  obtain ⟨h1, h2, h3, h4⟩ := eval_some h
  obtain ⟨hd, hs⟩ := valid_iff.1 h1
  have hs := (all_split.1 hs).1
  rw [Tm.ev] at h4
  cases h4
  refine ⟨rfl, ?_, ?_⟩
  · rintro rfl
    simp [Tm.shape, shapeB] at hs
  · rintro rfl
    simp [Tm.shape, shapeB] at hs
def Tm.num : Tm → Int
  | .mk _ n _ _ => n
theorem nums_of : ∀ {vs : List Tm} {ns : List Int}, numsAll vs = some ns → vs.map Tm.num = ns
  | [], ns, h => by cases h; rfl
  | .mk k n s l :: r, ns, h => by
    rw [numsAll] at h
    split at h
    · rename_i m q h1 h2
      cases h
      rw [List.map_cons, nums_of h2]
      simp only [Tm.int?] at h1
      by_cases hk : k = 1
      · rw [if_pos hk] at h1
        have e : n = m := by simpa using h1
        rw [← e]; rfl
      · rw [if_neg hk] at h1; cases h1
    · cases h
/-- Where the first is. -/
def anyI (h : Tm → Bool) : List Tm → Int → Int
  | [], _ => -1
  | a :: r, i => if h a = true then i else anyI h r (i + 1)
theorem anyI_ge (h : Tm → Bool) : ∀ (l : List Tm) (i : Int), 0 ≤ i → decide (0 ≤ anyI h l i) = l.any h
  | [], i, _ => by simp [anyI]
  | a :: r, i, hi => by
    have ih := anyI_ge h r (i + 1) (by omega)
    by_cases hf : h a = true
    · simp [anyI, hf, hi]
    · simp only [anyI, if_neg hf, List.any_cons, Bool.not_eq_true _ ▸ hf, Bool.false_or]; exact ih
def Tm.sp (t : Tm) : Bool := !t.all Tm.ns
theorem sp_kids (k : Nat) (n : Int) (s : List UInt8) (l : List Tm) : (Tm.mk k n s l).sp = (decide (k = 6) || l.any Tm.sp) := by
  unfold Tm.sp
  rw [Tm.all, allL_eq, Tm.ns, Bool.not_and, Bool.not_not, List.not_all_eq_any_not]
theorem cellsL_app (a b : List Tm) : Tm.cellsL (a ++ b) = Tm.cellsL a ++ Tm.cellsL b := by simp [cellsL_map]
theorem cellsL_set (row : List Tm) (i kx : Nat) (nx : Int) (sx : List UInt8) (ax : List Tm) : (Tm.cellsL row).set i [.int .u8 (kx : Int), .int .i64 nx, .str sx, .slice (Tm.cellsL ax) []] = Tm.cellsL (row.set i (.mk kx nx sx ax)) := by
  rw [cellsL_map row, cellsL_map (row.set i _), List.map_set]; rfl
/-- What functions gathers. -/
def outF (s : List UInt8) (row acc : List Tm) : List Tm := acc ++ [.mk 4 0 s row]
theorem outF_len (s : List UInt8) (row acc : List Tm) : acc.length ≤ (outF s row acc).length := by simp [outF]
theorem foldl_outF (s : List UInt8) : ∀ (l : List (List Tm)) (acc : List Tm), l.foldl (fun b r => outF s ([] ++ r) b) acc = acc ++ l.map (fun r => .mk 4 0 s r)
  | [], acc => by simp
  | a :: r, acc => by rw [List.foldl_cons, foldl_outF s r]; simp [outF]
theorem funs_prod (s : List UInt8) (L : List (List Tm)) (row : List Tm) (h : row.length = L.length) : (fillS (outF s) L 0 (row, [])).2 = (prodL L).map (fun r => .mk 4 0 s r) := by
  rw [(fillS_prod (outF s) L 0 row [] (by omega)).1, List.take_zero, foldl_outF, List.nil_append]
theorem prodL_len {α : Type} : ∀ L : List (List α), (prodL L).length = (L.map List.length).prod
  | [] => rfl
  | l :: ls => by
    rw [prodL, List.map_cons, List.prod_cons, ← prodL_len ls]
    induction l with
    | nil => simp
    | cons a r ih => simp only [List.flatMap_cons, List.length_append, List.length_map, List.length_cons, ih, Nat.succ_mul, Nat.add_comm]
theorem ev_wf {B : Nat} : ∀ (t v : Tm), t.wf B → t.ev = some v → v.wf B
  | .mk k n s l, v, hw, h => by
    simp only [Tm.wf] at hw
    obtain ⟨hk, hn1, hn2, hs, hl, hwl⟩ := hw
    rw [Tm.ev] at h
    split at h
    · cases h
      simp only [Tm.wf]
      exact ⟨hk, hn1, hn2, hs, Nat.zero_le _, trivial⟩
    · unfold evK at h
      split at h
      · cases h
      · rename_i vs hvs
        split at h
        · split at h
          · rename_i ns hns
            cases hq : calcR s ns with
            | none => rw [hq] at h; cases h
            | some m =>
              rw [hq] at h
              cases h
              have := fitsB_iff.1 (calcR_fits hq)
              simp only [numT, Tm.wf, List.length_nil]
              exact ⟨by omega, by omega, by omega, Nat.zero_le _, Nat.zero_le _, trivial⟩
          · cases h
        · cases h
          simp only [Tm.wf]
          refine ⟨by omega, by omega, by omega, hs, by rw [evL_len hvs]; exact hl, ?_⟩
          rw [wfL_all]
          intro y hy
          obtain ⟨x, hx, hxe⟩ := evL_mem hvs hy
          exact ev_wf x y (wfL_all.1 hwl x hx) hxe
termination_by t => SizeOf.sizeOf t
decreasing_by
  have := List.sizeOf_lt_of_mem hx
  simp only [Tm.mk.sizeOf_spec]
  omega
theorem ev_few {N : Nat} : ∀ (t v : Tm), t.few N → t.ev = some v → v.few N
  | .mk k n s l, v, hw, h => by
    simp only [Tm.few] at hw
    obtain ⟨hl, hwl⟩ := hw
    rw [Tm.ev] at h
    split at h
    · cases h
      simp only [Tm.few]
      exact ⟨Nat.zero_le _, trivial⟩
    · unfold evK at h
      split at h
      · cases h
      · rename_i vs hvs
        split at h
        · split at h
          · rename_i ns hns
            cases hq : calcR s ns with
            | none => rw [hq] at h; cases h
            | some m =>
              rw [hq] at h
              cases h
              simp only [numT, Tm.few, List.length_nil]
              exact ⟨Nat.zero_le _, trivial⟩
          · cases h
        · cases h
          simp only [Tm.few]
          refine ⟨by rw [evL_len hvs]; exact hl, ?_⟩
          rw [fewL_all]
          intro y hy
          obtain ⟨x, hx, hxe⟩ := evL_mem hvs hy
          exact ev_few x y (fewL_all.1 hwl x hx) hxe
termination_by t => SizeOf.sizeOf t
decreasing_by
  have := List.sizeOf_lt_of_mem hx
  simp only [Tm.mk.sizeOf_spec]
  omega
theorem op_list (s : List UInt8) (l : List Tm) : numC (((Tm.evL l).bind numsAll).bind (calcR s)).toList = Tm.cellsL (evK 5 s (Tm.evL l)).toList := by
  rw [numC_cells]
  unfold evK
  cases Tm.evL l with
  | none => rfl
  | some vs =>
    simp only [Option.bind_some, if_true]
    cases numsAll vs with
    | none => rfl
    | some ns =>
      simp only [Option.bind_some]
      cases calcR s ns <;> rfl
theorem ex_len (t : Tm) : t.ex.length ≤ 1 := by
  unfold Tm.ex
  cases t.ev <;> simp
theorem ex_mk {k : Nat} {n : Int} {s : List UInt8} {l : List Tm} (h : l ≠ []) : (Tm.mk k n s l).ex = (evK k s (Tm.evL l)).toList := by
  unfold Tm.ex
  rw [Tm.ev, if_neg (by simpa using h)]
/-- Partial products of lists of at most one. -/
theorem prod_one : ∀ L : List (List Tm), (∀ l ∈ L, l.length ≤ 1) → (L.map List.length).prod ≤ 1
  | [], _ => by simp
  | l :: r, h => by
    rw [List.map_cons, List.prod_cons]
    have h1 := h l (List.mem_cons_self ..)
    have h2 := prod_one r fun x hx => h x (List.mem_cons_of_mem _ hx)
    exact Nat.le_trans (Nat.mul_le_mul h1 h2) (by decide)
end Go.Sx

/- AN OWN ROW THAT A CALL HANDS BACK IS NO MORE WRITTEN TO. -/
namespace Go.Sx
open Go.RowKit
variable [Globs] [Codes]
variable {P : Program}

def memF (φ : Mem) (g n : Nat) (xs : List Value) : Mem := fun b o => if b = g then (if o < n then xs[o]? else none) else φ b o
theorem CallL.frz {d : D} {args : List D} {ob : Obs} {sz : Nat} {e : TypeId} {es : List (List D)} {i0 : Nat} (hc : CallL P d args ob fun r o => r = .vec i0 ∧ o = [(i0, .arr false sz e es)]) : CallL P d args ob fun r o => r = .vec i0 ∧ o = [(i0, .arr true sz e es)] := by
  intro F hF n φ h w v vs hp hv hvs
  refine (hc F hF n φ h w v vs hp hv hvs).mono ?_
  intro e' w' hpost
  obtain ⟨u, r0, ob0, φ', h', rfl, ⟨rfl, rfl⟩, hrv, ha⟩ := hpost.dest fun r o hr => by rw [hr.1]; rfl
  have hob := ha.loc.obj i0 (.arr false sz e es) (by simp [lk])
  obtain ⟨h0, hsz, xs, hown, hrep, hb⟩ := hob
  rcases hown.2 with ⟨hnil, hlen⟩ | ⟨g, cap, cur, hv', hge, hblk, hn, hcap, hcs, htk⟩
  · -- nothing there
    have hbn : blk (h' i0) = none := by rw [hnil]; rfl
    refine .ret ⟨rfl, rfl⟩ (φ' := φ') (h' := h') hrv ⟨⟨ha.loc.one, ha.loc.glob.sub fun b ⟨i, hi, hbi⟩ => ?_, ha.loc.mem, fun i o ho => ?_, fun i j b hi hj hbi hbj => ?_⟩, ha.ext, ha.new, ha.frame, ha.hfix, ha.os, ha.tape, ha.output, ha.grow⟩
    · simp only [lk] at hi
      split at hi
      · rename_i e; subst e; rw [hbn] at hbi; cases hbi
      · cases hi
    · simp only [lk] at ho
      split at ho
      · rename_i e; subst e; cases ho
        exact ⟨h0, hsz, xs, hown, hrep, fun b hb' => by rw [hbn] at hb'; cases hb'⟩
      · cases ho
    · simp only [lk] at hi hj
      split at hi
      · split at hj
        · omega
        · cases hj
      · cases hi
  · have hbg : blk (h' i0) = some g := by rw [hv']; rfl
    obtain ⟨hog, hφ0⟩ := hb g hbg
    have hφ0 : ∀ o, φ' g o = none := fun o => by rw [hφ0 o]; simp
    obtain ⟨φ2, hφd⟩ : ∃ m, m = memF φ' g (es.length * sz) xs := ⟨_, rfl⟩
    have hφn : ∀ b o, b ≠ g → φ2 b o = φ' b o := fun b o hb => by rw [hφd]; exact if_neg hb
    have hφm : ∀ b o v, φ' b o = some v → φ2 b o = some v := fun b o v hv => by
      have hbg : b ≠ g := fun e => by rw [e, hφ0 o] at hv; cases hv
      rw [hφn b o hbg]; exact hv
    have hφg : ∀ o, φ2 g o = if o < es.length * sz then xs[o]? else none := fun o => by rw [hφd]; exact if_pos rfl
    have hZe : ∀ b, ZOf [(i0, Ob.arr true sz e es)] h' b → ZOf [(i0, Ob.arr false sz e es)] h' b := by
      rintro b ⟨i, hi, hbi⟩
      simp only [lk] at hi
      split at hi
      · rename_i e; subst e; exact ⟨i, by simp [lk], hbi⟩
      · cases hi
    have hcell : ∀ o, o < es.length * sz → w'.cell? ⟨g, o, none⟩ = xs[o]? := fun o ho => by
      have h1 : (cur.toList.take (es.length * sz))[o]? = xs[o]? := by rw [htk]
      rw [List.getElem?_take_of_lt ho, Array.getElem?_toList] at h1
      simp only [World.cell?, hblk]
      rw [← h1]
      simp
    refine .ret ⟨rfl, rfl⟩ (φ' := φ2) (h' := h') (hrv.mono hφm) ⟨⟨ha.loc.one, ⟨fun g' cs hgc => (ha.loc.glob.ok g' cs hgc).mono hφm, fun g' arr hx => ?_, fun g' hx => ?_⟩, fun b o u hu => ?_, fun i o ho => ?_, fun i j b hi hj _ _ => ?_⟩, fun b o v hv => hφm _ _ _ (ha.ext b o v hv), fun b o u h1 h2 => ?_, ha.frame, fun i hi => ha.hfix i hi, ha.os, ha.tape, ha.output, ha.grow⟩
    · obtain ⟨hw, hz⟩ := ha.loc.glob.x g' arr hx
      exact ⟨hw, fun hz' => hz (hZe _ hz')⟩
    · obtain ⟨hw, hz⟩ := ha.loc.glob.i g' hx
      exact ⟨hw, fun hz' => hz (hZe _ hz')⟩
    · by_cases hbg : b = g
      · subst hbg
        rw [hφg] at hu
        split at hu
        · rename_i ho; rw [hcell o ho]; exact hu
        · cases hu
      · rw [hφn b o hbg] at hu
        exact ha.loc.mem b o u hu
    · simp only [lk] at ho
      split at ho
      · rename_i e; subst e; cases ho
        refine ⟨h0, hsz, xs, hown, fun i x j d hi hj => (hrep i x j d hi hj).mono hφm, fun b hb' => ?_⟩
        rw [hbg] at hb'
        cases hb'
        exact ⟨hog, fun o => by rw [hφg o]; simp⟩
      · cases ho
    · simp only [lk] at hi hj
      split at hi
      · split at hj
        · omega
        · cases hj
      · cases hi
    · by_cases hbg : b = g
      · exact hbg ▸ hog
      · rw [hφn b o hbg] at h1
        exact ha.new b o u h1 h2
end Go.Sx

/- RESULTS KEPT: a table of calls that have been worked out. -/
namespace Go.Sx
mutual
def dEq : D → D → Bool
  | .int k a, .int k' b => decide (k = k') && decide (a = b)
  | .str a, .str b => decide (a = b)
  | .bool a, .bool b => a == b
  | .slice a x, .slice b y => dEqLL a b && dEqLL x y
  | .agg a, .agg b => dEqL a b
  | _, _ => false
def dEqL : List D → List D → Bool
  | [], [] => true
  | a :: r, b :: q => dEq a b && dEqL r q
  | _, _ => false
def dEqLL : List (List D) → List (List D) → Bool
  | [], [] => true
  | a :: r, b :: q => dEqL a b && dEqLL r q
  | _, _ => false
end
mutual
theorem dEq_ok : ∀ a b : D, dEq a b = true → a = b
  | .int k a, b, h => by
    cases b <;> simp [dEq] at h
    rw [h.1, h.2]
  | .str a, b, h => by
    cases b <;> simp [dEq] at h
    rw [h]
  | .bool a, b, h => by
    cases b <;> simp [dEq] at h
    rw [h]
  | .slice a x, b, h => by
    cases b <;> simp [dEq] at h
    rw [dEqLL_ok a _ h.1, dEqLL_ok x _ h.2]
  | .agg a, b, h => by
    cases b <;> simp [dEq] at h
    rw [dEqL_ok a _ h]
  | .undef, b, h => by cases b <;> simp [dEq] at h
  | .nilp, b, h => by cases b <;> simp [dEq] at h
  | .nilf, b, h => by cases b <;> simp [dEq] at h
  | .tuple _, b, h => by cases b <;> simp [dEq] at h
  | .ptr _ _, b, h => by cases b <;> simp [dEq] at h
  | .fptr _, b, h => by cases b <;> simp [dEq] at h
  | .vec _, b, h => by cases b <;> simp [dEq] at h
  | .vptr _ _ _ _, b, h => by cases b <;> simp [dEq] at h
  | .map _, b, h => by cases b <;> simp [dEq] at h
  | .func _ _ _, b, h => by cases b <;> simp [dEq] at h
  | .raw _, b, h => by cases b <;> simp [dEq] at h
  | .nils, b, h => by cases b <;> simp [dEq] at h
  | .own _ _ _, b, h => by cases b <;> simp [dEq] at h
  | .yld _, b, h => by cases b <;> simp [dEq] at h
  | .ifc, b, h => by cases b <;> simp [dEq] at h
  | .pan _, b, h => by cases b <;> simp [dEq] at h
theorem dEqL_ok : ∀ a b : List D, dEqL a b = true → a = b
  | [], [], _ => rfl
  | [], _ :: _, h => by simp [dEqL] at h
  | _ :: _, [], h => by simp [dEqL] at h
  | a :: r, b :: q, h => by
    simp only [dEqL, Bool.and_eq_true] at h
    rw [dEq_ok a b h.1, dEqL_ok r q h.2]
theorem dEqLL_ok : ∀ a b : List (List D), dEqLL a b = true → a = b
  | [], [], _ => rfl
  | [], _ :: _, h => by simp [dEqLL] at h
  | _ :: _, [], h => by simp [dEqLL] at h
  | a :: r, b :: q, h => by
    simp only [dEqLL, Bool.and_eq_true] at h
    rw [dEqL_ok a b h.1, dEqLL_ok r q h.2]
end
abbrev Memo := List (FuncId × List D × D)
def memoF : Memo → FuncId → List D → Option D
  | [], _, _ => none
  | (g, ys, r) :: l, f, xs => if f = g ∧ dEqL xs ys = true then some r else memoF l f xs
section
variable [Globs] [Codes]
def Memo.OK (P : Program) : Memo → Prop
  | [] => True
  | (g, ys, r) :: l => FnOK P g ys r ∧ Memo.OK P l
theorem memoF_ok {P : Program} : ∀ {l : Memo}, l.OK P → ∀ {f : FuncId} {xs : List D} {r : D}, memoF l f xs = some r → FnOK P f xs r
  | [], _, _, _, _, h => by cases h
  | (g, ys, r0) :: l, hl, f, xs, r, h => by
    simp only [memoF] at h
    split at h
    · rename_i hc
      cases h
      rw [hc.1, dEqL_ok _ _ hc.2]
      exact hl.1
    · exact memoF_ok hl.2 h
/-- A table with results kept. -/
def Tab.mem (t : Tab) (l : Memo) : Tab := { t with F := fun f xs => match memoF l f xs with
  | some r => some r
  | none => t.F f xs }
theorem Tab.OK.mem_ok {P : Program} {t : Tab} (ht : t.OK P) {l : Memo} (hl : l.OK P) : (t.mem l).OK P := by
  refine ⟨ht.T, ht.C, fun f xs r h => ?_⟩
  simp only [Tab.mem] at h
  split at h
  · cases h; exact memoF_ok hl (by assumption)
  · exact ht.F f xs r h
end
end Go.Sx
