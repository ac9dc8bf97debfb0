/- Own work: a layer over the kit: plain data, a walk over it, its soundness. -/
import Derived.Lib.Bytealg
import Derived.Lib.AtoiAll
import Derived.Lib.ItoaNum
import Derived.Sort.OwnSorted
import Derived.Test.YtobgkdlghljdlaaGreatDoorSx7
set_option linter.unusedSectionVars false
set_option linter.unusedVariables false
set_option linter.unusedSimpArgs false
set_option linter.deprecated false
/- TERMS COMPARED, in plain words. -/
namespace Go.Sx

def ncmp (a b : Int) : Int := if a < b then -1 else if b < a then 1 else 0
/-- The place of a kind in the order. -/
def rkI (k : Int) : Int := if k = 1 then 0 else if k = 2 then 1 else if k = 4 then 2 else if k = 3 then 3 else if k = 5 then 4 else if k = 6 then 5 else 6 + k
def idxI (k : Int) : Int := if k = 1 then 0 else if k = 2 then 1 else if k = 4 then 2 else if k = 3 then 3 else if k = 5 then 4 else if k = 6 then 5 else -1
/-- The first that is not nought. -/
def fst0 : List Int → Int
  | [] => 0
  | x :: r => if x ≠ 0 then x else fst0 r

mutual
def Tm.cmp : Tm → Tm → Int
  | .mk k n s l, b => match b with
    | .mk k' n' s' l' => fst0 [ncmp (rkI k) (rkI k'), if k = 1 then ncmp n n' else 0, ncmp l.length l'.length, Lib.compareBytes s s', Tm.cmpL l l', ncmp n n']
def Tm.cmpL : List Tm → List Tm → Int
  | [], q => match q with
    | [] => 0
    | _ :: _ => -1
  | a :: r, q => match q with
    | [] => 1
    | b :: q => if a.cmp b ≠ 0 then a.cmp b else Tm.cmpL r q
end

mutual
/-- The size as it is counted. -/
def Tm.sz : Tm → Int → Int
  | .mk _ _ _ l, m => 1 + Tm.szL l (m - 1) 0
def Tm.szL : List Tm → Int → Int → Int
  | [], m, n => n
  | a :: r, m, n => if n ≤ m then Tm.szL r m (n + a.sz (m - n)) else n
end

mutual
/-- The same. -/
def Tm.eqb : Tm → Tm → Bool
  | .mk k n s l, b => match b with
    | .mk k' n' s' l' => decide (k = k') && decide (n = n') && decide (s = s') && Tm.eqbL l l'
def Tm.eqbL : List Tm → List Tm → Bool
  | [], q => match q with
    | [] => true
    | _ :: _ => false
  | a :: r, q => match q with
    | [] => false
    | b :: q => a.eqb b && Tm.eqbL r q
end

theorem ncmp_eq {a b : Int} : ncmp a b = 0 ↔ a = b := by
  unfold ncmp; split
  · simp; omega
  · split
    · simp; omega
    · simp; omega
theorem ncmp_neg (a b : Int) : ncmp b a = - ncmp a b := by
  unfold ncmp
  repeat' split
  all_goals omega
theorem ncmp_range (a b : Int) : ncmp a b = -1 ∨ ncmp a b = 0 ∨ ncmp a b = 1 := by
  unfold ncmp; split
  · exact .inl rfl
  · split
    · exact .inr (.inr rfl)
    · exact .inr (.inl rfl)

theorem fst0_range {l : List Int} (h : ∀ x ∈ l, x = -1 ∨ x = 0 ∨ x = 1) : fst0 l = -1 ∨ fst0 l = 0 ∨ fst0 l = 1 := by
  induction l with
  | nil => exact .inr (.inl rfl)
  | cons x r ih =>
    unfold fst0
    split
    · exact h x (List.mem_cons_self ..)
    · exact ih fun y hy => h y (List.mem_cons_of_mem _ hy)

theorem bcmp_range : ∀ (a b : List UInt8), Lib.compareBytes a b = -1 ∨ Lib.compareBytes a b = 0 ∨ Lib.compareBytes a b = 1
  | [], [] => .inr (.inl rfl)
  | [], _ :: _ => .inl rfl
  | _ :: _, [] => .inr (.inr rfl)
  | a :: r, b :: q => by
    unfold Lib.compareBytes
    split
    · exact .inl rfl
    · split
      · exact .inr (.inr rfl)
      · exact bcmp_range r q
theorem bcmp_eq : ∀ {a b : List UInt8}, Lib.compareBytes a b = 0 ↔ a = b
  | [], [] => by simp [Lib.compareBytes]
  | [], _ :: _ => by simp [Lib.compareBytes]
  | _ :: _, [] => by simp [Lib.compareBytes]
  | a :: r, b :: q => by
    unfold Lib.compareBytes
    split
    · rename_i h; simp; intro e; subst e; exact absurd h (UInt8.lt_irrefl _)
    · split
      · rename_i h; simp; intro e; subst e; exact absurd h (UInt8.lt_irrefl _)
      · rename_i h1 h2
        have : a = b := by
          rw [← UInt8.toNat_inj]
          rw [UInt8.lt_iff_toNat_lt] at h1 h2
          omega
        rw [bcmp_eq (a := r) (b := q)]
        simp [this]
theorem bcmp_neg : ∀ (a b : List UInt8), Lib.compareBytes b a = - Lib.compareBytes a b
  | [], [] => rfl
  | [], _ :: _ => rfl
  | _ :: _, [] => rfl
  | a :: r, b :: q => by
    unfold Lib.compareBytes
    by_cases h1 : a < b
    · have h2 : ¬ b < a := by rw [UInt8.lt_iff_toNat_lt] at *; omega
      rw [if_pos h1, if_neg h2, if_pos h1]; rfl
    · by_cases h2 : b < a
      · rw [if_pos h2, if_neg h1, if_pos h2]
      · rw [if_neg h2, if_neg h1, if_neg h1, if_neg h2]; exact bcmp_neg r q
/-- By the order of strings. -/
theorem bcmp_less : ∀ (a b : List UInt8), Lib.compareBytes a b = if Op.bytesLess a b = true then -1 else if (!(Op.bytesLess a b || decide (a = b))) = true then 1 else 0
  | [], [] => rfl
  | [], _ :: _ => rfl
  | _ :: _, [] => by simp [Lib.compareBytes, Op.bytesLess]
  | a :: r, b :: q => by
    unfold Lib.compareBytes Op.bytesLess
    by_cases h1 : a < b
    · simp [h1]
    · by_cases h2 : b < a
      · have : a ≠ b := fun e => by subst e; exact h1 h2
        simp [h1, h2, this]
      · have hab : a = b := by
          rw [← UInt8.toNat_inj]
          rw [UInt8.lt_iff_toNat_lt] at h1 h2
          omega
        subst hab
        rw [bcmp_less r q]
        simp [h1]

mutual
theorem cmp_range : ∀ (a b : Tm), a.cmp b = -1 ∨ a.cmp b = 0 ∨ a.cmp b = 1
  | .mk k n s l, .mk k' n' s' l' => by
    simp only [Tm.cmp]
    refine fst0_range fun x hx => ?_
    simp only [List.mem_cons, List.not_mem_nil, or_false] at hx
    rcases hx with rfl | rfl | rfl | rfl | rfl | rfl
    · exact ncmp_range _ _
    · split
      · exact ncmp_range _ _
      · exact .inr (.inl rfl)
    · exact ncmp_range _ _
    · exact bcmp_range _ _
    · exact cmpL_range l l'
    · exact ncmp_range _ _
theorem cmpL_range : ∀ (a b : List Tm), Tm.cmpL a b = -1 ∨ Tm.cmpL a b = 0 ∨ Tm.cmpL a b = 1
  | [], [] => .inr (.inl rfl)
  | [], _ :: _ => .inl rfl
  | _ :: _, [] => .inr (.inr rfl)
  | a :: r, b :: q => by
    simp only [Tm.cmpL]
    split
    · exact cmp_range a b
    · exact cmpL_range r q
end
end Go.Sx
namespace Go.Sx
mutual
/-- All lists of arguments are this short. -/
def Tm.few (N : Nat) : Tm → Prop
  | .mk _ _ _ l => l.length ≤ N ∧ Tm.fewL N l
def Tm.fewL (N : Nat) : List Tm → Prop
  | [] => True
  | a :: r => a.few N ∧ Tm.fewL N r
end
theorem fewL_all {N : Nat} : ∀ {l : List Tm}, Tm.fewL N l ↔ ∀ t ∈ l, t.few N
  | [] => by simp [Tm.fewL]
  | a :: r => by simp [Tm.fewL, fewL_all (l := r)]

mutual
theorem sz_ge : ∀ (t : Tm) (m : Int), 1 ≤ t.sz m
  | .mk k n s l, m => by
    have := szL_ge l (m - 1) 0
    simp only [Tm.sz]; omega
theorem szL_ge : ∀ (l : List Tm) (m n : Int), n ≤ Tm.szL l m n
  | [], m, n => by simp only [Tm.szL]; omega
  | a :: r, m, n => by
    simp only [Tm.szL]
    split
    · have := szL_ge r m (n + a.sz (m - n))
      have := sz_ge a (m - n)
      omega
    · omega
end
mutual
theorem sz_le : ∀ (t : Tm) (m : Int), 0 ≤ m → t.sz m ≤ m + 1
  | .mk k n s l, m, hm => by
    have := szL_le l (m - 1) 0 (by omega)
    simp only [Tm.sz]; omega
theorem szL_le : ∀ (l : List Tm) (m n : Int), n ≤ m + 1 → Tm.szL l m n ≤ m + 1
  | [], m, n, h => by simp only [Tm.szL]; omega
  | a :: r, m, n, h => by
    simp only [Tm.szL]
    split
    · have := sz_le a (m - n) (by omega)
      exact szL_le r m _ (by omega)
    · omega
end
mutual
theorem sz_few {N : Nat} : ∀ (t : Tm) (m : Int), m ≤ N → t.sz m ≤ m → t.few N
  | .mk k n s l, m, hm, h => by
    simp only [Tm.sz] at h
    have := szL_few (N := N) l (m - 1) 0 (by omega) (by omega)
    exact ⟨by omega, this.1⟩
theorem szL_few {N : Nat} : ∀ (l : List Tm) (m n : Int), m - n ≤ N → Tm.szL l m n ≤ m → Tm.fewL N l ∧ n + l.length ≤ Tm.szL l m n
  | [], m, n, hm, h => by simp [Tm.szL, Tm.fewL]
  | a :: r, m, n, hm, h => by
    simp only [Tm.szL] at h ⊢
    split at h
    · rename_i hnm
      rw [if_pos hnm]
      have h1 := sz_ge a (m - n)
      have h2 := szL_few (N := N) r m (n + a.sz (m - n)) (by omega) h
      have h3 := sz_few (N := N) a (m - n) hm (by omega)
      exact ⟨⟨h3, h2.1⟩, by rw [List.length_cons]; omega⟩
    · omega
end

theorem fst0_zero : ∀ {l : List Int}, fst0 l = 0 ↔ ∀ x ∈ l, x = 0
  | [] => by simp [fst0]
  | x :: r => by
    unfold fst0
    split
    · rename_i h; simp [h]
    · rename_i h
      have hx : x = 0 := Classical.not_not.1 h
      rw [fst0_zero (l := r)]
      simp [hx]
theorem rkI_inj {k k' : Nat} (h : rkI k = rkI k') : k = k' := by
  unfold rkI at h
  (repeat' split at h) <;> omega

mutual
theorem cmp_eq : ∀ {a b : Tm}, a.cmp b = 0 ↔ a = b
  | .mk k n s l, .mk k' n' s' l' => by
    simp only [Tm.cmp, fst0_zero, Tm.mk.injEq, List.mem_cons, List.not_mem_nil, or_false, forall_eq_or_imp, forall_eq]
    constructor
    · rintro ⟨h1, _, h3, h4, h5, h6⟩
      have h3' : l.length = l'.length := by have := ncmp_eq.1 h3; omega
      exact ⟨rkI_inj (ncmp_eq.1 h1), ncmp_eq.1 h6, bcmp_eq.1 h4, (cmpL_eq h3').1 h5⟩
    · rintro ⟨rfl, rfl, rfl, rfl⟩
      refine ⟨ncmp_eq.2 rfl, ?_, ncmp_eq.2 rfl, bcmp_eq.2 rfl, (cmpL_eq rfl).2 rfl, ncmp_eq.2 rfl⟩
      split
      · exact ncmp_eq.2 rfl
      · rfl
theorem cmpL_eq : ∀ {a b : List Tm}, a.length = b.length → (Tm.cmpL a b = 0 ↔ a = b)
  | [], [], _ => by simp [Tm.cmpL]
  | [], _ :: _, h => by cases h
  | _ :: _, [], h => by cases h
  | a :: r, b :: q, h => by
    simp only [Tm.cmpL, List.cons.injEq]
    by_cases hc : a.cmp b = 0
    · rw [if_neg (by simpa using hc)]
      have := cmp_eq.1 hc
      rw [cmpL_eq (by simpa using h)]
      simp [this]
    · rw [if_pos hc]
      have : a ≠ b := fun e => hc (cmp_eq.2 e)
      simp [hc, this]
end
mutual
theorem eqb_eq : ∀ {a b : Tm}, a.eqb b = true ↔ a = b
  | .mk k n s l, .mk k' n' s' l' => by
    simp only [Tm.eqb, Bool.and_eq_true, decide_eq_true_eq, eqbL_eq, Tm.mk.injEq]
    constructor
    · rintro ⟨⟨⟨h1, h2⟩, h3⟩, h4⟩; exact ⟨h1, h2, h3, h4⟩
    · rintro ⟨h1, h2, h3, h4⟩; exact ⟨⟨⟨h1, h2⟩, h3⟩, h4⟩
theorem eqbL_eq : ∀ {a b : List Tm}, Tm.eqbL a b = true ↔ a = b
  | [], [] => by simp [Tm.eqbL]
  | [], _ :: _ => by simp [Tm.eqbL]
  | _ :: _, [] => by simp [Tm.eqbL]
  | a :: r, b :: q => by
    simp only [Tm.eqbL, Bool.and_eq_true, List.cons.injEq, eqb_eq (a := a) (b := b), eqbL_eq (a := r) (b := q)]
end
theorem eqb_cmp (a b : Tm) : a.eqb b = decide (a.cmp b = 0) := by
  rw [Bool.eq_iff_iff, eqb_eq, decide_eq_true_eq, cmp_eq]
end Go.Sx

/- Plain laws on bytes and lists. -/
namespace Go.Sx
/-- Where the run of bytes that pass, begun at i, ends. -/
def runTo (p : UInt8 → Bool) (s : List UInt8) (i : Nat) : Nat := i + ((s.drop i).takeWhile p).length

theorem byte_lt (s : List UInt8) (i : Nat) : 0 ≤ ((s.getD i 0).toNat : Int) ∧ ((s.getD i 0).toNat : Int) < 256 := by
  have := (s.getD i 0).toNat_lt
  omega
end Go.Sx

/- The lexer, plainly. -/
namespace Go.Sx.Lx
open Go.Sx

def isLow (b : UInt8) : Bool := decide (97 ≤ b.toNat) && decide (b.toNat ≤ 122)
def isUp (b : UInt8) : Bool := decide (65 ≤ b.toNat) && decide (b.toNat ≤ 90)
def isDig (b : UInt8) : Bool := decide (48 ≤ b.toNat) && decide (b.toNat ≤ 57)
def isLet (b : UInt8) : Bool := isLow b || isUp b
def isUnd (b : UInt8) : Bool := b == 95
def isName (b : UInt8) : Bool := isLet b || isDig b || isUnd b
def isBlank (b : UInt8) : Bool := b == 32 || b == 9 || b == 10 || b == 13
def inLine (b : UInt8) : Bool := !(b == 10)

/-- How many bytes of blanks and comments; c: within a comment. -/
def skp : Bool → List UInt8 → Nat
  | _, [] => 0
  | false, b :: r => if isBlank b then 1 + skp false r else if b == 37 then 1 + skp true r else 0
  | true, b :: r => if b == 10 then 1 + skp false r else 1 + skp true r

/-- Where the blanks and comments begun at i end. -/
def skipTo (s : List UInt8) (i : Nat) : Nat := i + skp false (s.drop i)
end Go.Sx.Lx
namespace Go.Sx.Lx
/-- A name whose first byte behind the underscores passes. -/
def wordB (first : UInt8 → Bool) (s : List UInt8) : Bool := match s.dropWhile isUnd with
  | [] => false
  | b :: r => first b && (b :: r).all isName && decide (s.length ≤ 32)
def notS : List UInt8 := [110, 111, 116]
def symbolB (s : List UInt8) : Bool := wordB isLow s && decide (s ≠ notS)
def variableB (s : List UInt8) : Bool := wordB isUp s || (match s with
  | 95 :: r => r.all isDig && decide (s.length ≤ 32)
  | _ => false)
end Go.Sx.Lx
namespace Go.Sx
/-- Texts as cells. -/
def strC (l : List (List UInt8)) : List (List D) := l.map fun t => [D.str t]
/-- Where a text stands, counted from i. -/
def idxS (t : List UInt8) : List (List UInt8) → Int → Int
  | [], _ => -1
  | x :: r, i => if t = x then i else idxS t r (i + 1)
end Go.Sx
namespace Go.Sx.Lx
/-- The signs; longer ones stand before their beginnings. -/
def signL : List (List UInt8) := [[58, 45], [58, 126], [58], [46, 46], [46], [44], [59], [124], [40], [41], [123], [125], [91], [93], [61], [33, 61], [60, 61], [62, 61], [60], [62], [43], [45], [42], [47], [92], [64]]
/-- The sign with which a text begins. -/
def signOf (s : List UInt8) : List UInt8 := (signL.find? (·.isPrefixOf s)).getD []
end Go.Sx.Lx
namespace Go.Sx.Lx
/-- The kind of a word, the error. -/
def wordK (s : List UInt8) : Int × Int := if s = notS then (4, 0) else if symbolB s = true then (1, 0) else if variableB s = true then (2, 0) else (0, 31)
def dirs : List (List UInt8) := [[35, 99, 111, 110, 115, 116], [35, 115, 104, 111, 119], [35, 109, 105, 110, 105, 109, 105, 122, 101], [35, 99, 111, 117, 110, 116], [35, 115, 117, 109]]
/-- A number's error. -/
def numE (s : List UInt8) : Int := match Lib.atoiAll s with
  | .ok n => if 2147483647 < n then 32 else if Lib.itoa n = s then 0 else 32
  | _ => 32
/-- A token's kind, its text, the error; of a text that is not empty. -/
def tok (s : List UInt8) : Int × List UInt8 × Int := match s with
  | [] => (0, [], 0)
  | b :: r =>
    if isLet b || isUnd b then ((wordK (s.takeWhile isName)).1, s.takeWhile isName, (wordK (s.takeWhile isName)).2)
    else if isDig b then (3, s.takeWhile isDig, numE (s.takeWhile isDig))
    else if b == 35 then (5, 35 :: r.takeWhile isLet, if 35 :: r.takeWhile isLet ∈ dirs then 0 else 31)
    else (6, signOf s, if signOf s = [] then 30 else 0)
end Go.Sx.Lx
namespace Go.Sx.Lx
/-- A token: its kind, its text, its offset. -/
abbrev Tk := Int × List UInt8 × Int
def tokC (t : Tk) : List D := [.int .u8 t.1, .str t.2.1, .int .i64 t.2.2]
/-- The tokens of a text that begins with one, or is empty; an error and its offset; where it ends. -/
def toksF : Nat → Nat → List UInt8 → List Tk × Option (Nat × Int) × Nat
  | 0, o, _ => ([], none, o)
  | _ + 1, o, [] => ([], none, o)
  | f + 1, o, b :: r =>
    if (tok (b :: r)).2.2 = 0 then
      let n := (tok (b :: r)).2.1.length
      let k := skp false ((b :: r).drop n)
      let q := toksF f (o + n + k) ((b :: r).drop (n + k))
      (((tok (b :: r)).1, (tok (b :: r)).2.1, (o : Int)) :: q.1, q.2)
    else ([], some (o, (tok (b :: r)).2.2), o + (tok (b :: r)).2.1.length)
/-- Lex: the tokens, the error's offset, the error. -/
def lexR (s : List UInt8) : List Tk × Int × Int :=
  if 32768 < s.length then ([], 0, 3) else
  match toksF (s.length + 1) (skp false s) (s.drop (skp false s)) with
  | (_, some (a, e), _) => ([], a, e)
  | (l, none, _) => (l, 0, 0)
end Go.Sx.Lx
namespace Go.Sx.Lx
def deT : List D → Tk
  | [.int _ k, .str t, .int _ a] => (k, t, a)
  | _ => (0, [], 0)
/-- Tokens alike but for their offsets. -/
def alikeB : List Tk → List Tk → Bool
  | [], [] => true
  | a :: r, b :: q => decide (a.1 = b.1) && decide (a.2.1 = b.2.1) && alikeB r q
  | _, _ => false
/-- Blanks and comments alone; c: within a comment. -/
def emptyB : Bool → List UInt8 → Bool
  | _, [] => true
  | c, b :: r => if b = 10 then emptyB false r else if c = true then emptyB true r else if b = 37 then emptyB true r else if b ≠ 32 ∧ b ≠ 9 ∧ b ≠ 13 then false else emptyB false r
end Go.Sx.Lx
namespace Go.Sx.Lx
def pickG (n m : Int) : Int := if n.tmod m < 0 then n.tmod m + m else n.tmod m
end Go.Sx.Lx

/- All subterms of a term. -/
namespace Go.Sx
mutual
def Tm.all (h : Tm → Bool) : Tm → Bool
  | .mk k n s l => h (.mk k n s l) && Tm.allL h l
def Tm.allL (h : Tm → Bool) : List Tm → Bool
  | [] => true
  | a :: r => a.all h && Tm.allL h r
end
mutual
def Tm.depth : Tm → Nat
  | .mk _ _ _ l => Tm.depthL l + 1
def Tm.depthL : List Tm → Nat
  | [] => 0
  | a :: r => Nat.max a.depth (Tm.depthL r)
end
end Go.Sx
namespace Go.Sx
/-- What the rows of the kinds ask. -/
def shapeB (k n : Int) (s : List UInt8) (len : Nat) : Bool :=
  if k = 1 then decide (-2147483647 ≤ n) && decide (n ≤ 2147483647) && decide (s = []) && decide (len = 0)
  else if k = 2 then decide (n = 0) && Lx.symbolB s && decide (len = 0)
  else if k = 3 then decide (n = 0) && Lx.variableB s && decide (len = 0)
  else if k = 4 then decide (n = 0) && Lx.symbolB s && decide (1 ≤ len) && decide (len ≤ 8)
  else if k = 5 then decide (n = 0) && (decide (s = [43]) || decide (s = [45]) || decide (s = [42]) || decide (s = [47]) || decide (s = [92])) && (decide (len = 2) || decide (s = [45]) && decide (len = 1))
  else if k = 6 then decide (n = 0) && decide (s = []) && decide (len = 2)
  else false
def Tm.shape : Tm → Bool
  | .mk k n s l => shapeB k n s l.length
def Tm.valid (t : Tm) : Bool := decide (t.depth ≤ 12) && t.all Tm.shape
end Go.Sx

/- Terms: plain, ground, their depth. -/
namespace Go.Sx
theorem allL_eq (h : Tm → Bool) : ∀ l : List Tm, Tm.allL h l = l.all fun x => x.all h
  | [] => rfl
  | a :: r => by simp only [Tm.allL, List.all_cons]; rw [allL_eq h r]
def Tm.plain : Tm → Bool
  | .mk k _ _ _ => decide (k = 1) || decide (k = 2) || decide (k = 4)
def Tm.gr : Tm → Bool
  | .mk k _ _ _ => !decide (k = 3)
mutual
theorem all_mono {h h' : Tm → Bool} (H : ∀ y, h y = true → h' y = true) : ∀ x : Tm, x.all h = true → x.all h' = true
  | .mk k n s l, hx => by
    simp only [Tm.all, Bool.and_eq_true] at hx ⊢
    exact ⟨H _ hx.1, allL_mono H l hx.2⟩
theorem allL_mono {h h' : Tm → Bool} (H : ∀ y, h y = true → h' y = true) : ∀ l : List Tm, Tm.allL h l = true → Tm.allL h' l = true
  | [], _ => rfl
  | a :: r, hl => by
    simp only [Tm.allL, Bool.and_eq_true] at hl ⊢
    exact ⟨all_mono H a hl.1, allL_mono H r hl.2⟩
end
theorem plain_gr (x : Tm) (h : x.all Tm.plain = true) : x.all Tm.gr = true := all_mono (fun y hy => by
  obtain ⟨k, n, s, l⟩ := y
  simp only [Tm.plain, Tm.gr, Bool.or_eq_true, decide_eq_true_eq, Bool.not_eq_true', decide_eq_false_iff_not] at hy ⊢
  omega) x h
theorem depthL_mem0 {l : List Tm} {x : Tm} (h : x ∈ l) : x.depth ≤ Tm.depthL l := by
  induction l with
  | nil => cases h
  | cons a r ih =>
    simp only [Tm.depthL]
    rcases List.mem_cons.1 h with rfl | h
    · exact Nat.le_max_left ..
    · exact Nat.le_trans (ih h) (Nat.le_max_right ..)
theorem value_gr (x : Tm) (h : (x.all Tm.plain && x.valid) = true) : x.valid = true ∧ x.all Tm.gr = true := by
  rw [Bool.and_eq_true] at h
  exact ⟨h.2, plain_gr x h.1⟩
mutual
theorem sz_depth : ∀ (t : Tm) (m : Int), t.sz m ≤ m → (t.depth : Int) ≤ m
  | .mk k n s l, m, h => by
    simp only [Tm.sz] at h
    have := szL_depth l (m - 1) 0 (by omega)
    simp only [Tm.depth]
    omega
theorem szL_depth : ∀ (l : List Tm) (m n : Int), Tm.szL l m n ≤ m → (Tm.depthL l : Int) ≤ m - n
  | [], m, n, h => by
    simp only [Tm.szL] at h
    simp only [Tm.depthL]
    omega
  | a :: r, m, n, h => by
    simp only [Tm.szL] at h
    simp only [Tm.depthL]
    split at h
    · have h0 := sz_ge a (m - n)
      have h1 := szL_ge r m (n + a.sz (m - n))
      have h2 := szL_depth r m (n + a.sz (m - n)) h
      have h3 := sz_depth a (m - n) (by omega)
      have : Nat.max a.depth (Tm.depthL r) = a.depth ∨ Nat.max a.depth (Tm.depthL r) = Tm.depthL r := by
        rcases Nat.le_total a.depth (Tm.depthL r) with h | h
        · exact .inr (Nat.max_eq_right h)
        · exact .inl (Nat.max_eq_left h)
      omega
    · omega
end
theorem all_split {h : Tm → Bool} {k : Nat} {n : Int} {s : List UInt8} {l : List Tm} : (Tm.mk k n s l).all h = true ↔ h (.mk k n s l) = true ∧ ∀ x ∈ l, x.all h = true := by
  rw [Tm.all, allL_eq, Bool.and_eq_true, List.all_eq_true]
def Tm.value (t : Tm) : Bool := t.all Tm.plain && t.valid
end Go.Sx

/- ARITHMETIC, PLAIN. -/
namespace Go.Sx
def fitsB (n : Int) : Bool := decide (-2147483647 ≤ n) && decide (n ≤ 2147483647)
theorem fitsB_iff {n : Int} : fitsB n = true ↔ -2147483647 ≤ n ∧ n ≤ 2147483647 := by simp [fitsB]
/-- An operation of two operands, ahead of the look at its size. -/
def calc0 (op : List UInt8) (a b : Int) : Option Int :=
  if op = [43] then some (a + b) else if op = [45] then some (a - b) else if op = [42] then some (a * b)
  else if op = [47] then (if b = 0 then none else some (a.tdiv b)) else if op = [92] then (if b = 0 then none else some (a.tmod b)) else none
def fitO (o : Option Int) : Option Int := match o with
  | some n => if fitsB n = true then some n else none
  | none => none
/-- arith.Calc -/
def calcR (op : List UInt8) (l : List Int) : Option Int := if l.all fitsB = true then (match l with
  | [a] => if op = [45] then some (-a) else none
  | [a, b] => fitO (calc0 op a b)
  | _ => none) else none
/-- A number, and whether there is one. -/
def resT (o : Option Int) : D := .tuple [.int .i64 (o.getD 0), .bool o.isSome]
theorem mul_fit {a b : Int} (ha : fitsB a = true) (hb : fitsB b = true) : -4611686014132420609 ≤ a * b ∧ a * b ≤ 4611686014132420609 := by
  rw [fitsB_iff] at ha hb
  have h1 : (a * b).natAbs ≤ 2147483647 * 2147483647 := by
    rw [Int.natAbs_mul]
    exact Nat.mul_le_mul (by omega) (by omega)
  omega
theorem tdiv_fit {a b : Int} (ha : fitsB a = true) : fitsB (a.tdiv b) = true := by
  rw [fitsB_iff] at ha ⊢
  have h1 : (a.tdiv b).natAbs ≤ a.natAbs := by
    rw [Int.natAbs_tdiv]
    exact Nat.div_le_self _ _
  omega
end Go.Sx

/- ALL ROWS OF LISTS, PLAIN. -/
namespace Go.Sx
/-- A new number behind, if it is not there. -/
def insI (n : Int) (acc : List Int) : List Int := if n ∈ acc then acc else acc ++ [n]
def intD (l : List Int) : List D := l.map (.int .i64)
theorem mput_int (n : Int) : ∀ acc : List Int, mput (.int .i64 n) (.int .i64 n) (intD acc) (intD acc) = some (intD (insI n acc), intD (insI n acc))
  | [] => rfl
  | a :: r => by
    have ih := mput_int n r
    simp only [intD, List.map_cons, mput, keqD, if_true]
    by_cases h : n = a
    · subst h
      simp [insI]
    · have hd : decide (n = a) = false := by simp [h]
      rw [hd]
      simp only [intD] at ih
      rw [ih]
      by_cases h2 : n ∈ r
      · simp [insI, h2]
      · simp [insI, h2, h]
theorem insI_len (n : Int) (acc : List Int) : acc.length ≤ (insI n acc).length := by
  unfold insI
  split
  · exact Nat.le_refl _
  · simp
/-- What a row of operands adds. -/
def opB (s : List UInt8) (row acc : List Int) : List Int := match calcR s row with
  | some n => insI n acc
  | none => acc
theorem opB_len (s : List UInt8) (row acc : List Int) : acc.length ≤ (opB s row acc).length := by
  unfold opB
  split
  · exact insI_len _ _
  · exact Nat.le_refl _
/-- A fold over the rows, the row filled from the k-th place on. -/
def fillS {α β : Type} (f : List α → β → β) : List (List α) → Nat → List α × β → List α × β
  | [], _, p => (p.1, f p.1 p.2)
  | l :: ls, k, p => l.foldl (fun p x => fillS f ls (k + 1) (p.1.set k x, p.2)) p
theorem fillS_len {α β : Type} {f : List α → β → β} : ∀ (ls : List (List α)) (k : Nat) (p : List α × β), (fillS f ls k p).1.length = p.1.length
  | [], _, _ => rfl
  | l :: ls, k, p => by
    simp only [fillS]
    have ih := fillS_len (f := f) ls (k + 1)
    generalize fillS f ls (k + 1) = g at ih
    revert p
    intro p
    induction l generalizing p with
    | nil => rfl
    | cons x l ihl => simp only [List.foldl_cons]; rw [ihl, ih]; simp
/-- A size that grows from row to row. -/
theorem fillS_mono {α β : Type} {f : List α → β → β} {z : β → Nat} (hz : ∀ r b, z b ≤ z (f r b)) : ∀ (ls : List (List α)) (k : Nat) (p : List α × β), z p.2 ≤ z (fillS f ls k p).2
  | [], _, p => hz _ _
  | l :: ls, k, p => by
    simp only [fillS]
    have ih := fillS_mono hz ls (k + 1)
    generalize fillS f ls (k + 1) = g at ih
    revert p
    intro p
    induction l generalizing p with
    | nil => exact Nat.le_refl _
    | cons x l ihl => simp only [List.foldl_cons]; exact Nat.le_trans (ih (p.1.set k x, p.2)) (ihl _)
theorem fold_mono {α β : Type} {f : List α → β → β} {z : β → Nat} (hz : ∀ r b, z b ≤ z (f r b)) (ls : List (List α)) (k : Nat) : ∀ (l : List α) (p : List α × β), z p.2 ≤ z (l.foldl (fun p x => fillS f ls (k + 1) (p.1.set k x, p.2)) p).2
  | [], p => Nat.le_refl _
  | x :: l, p => by
    simp only [List.foldl_cons]
    exact Nat.le_trans (fillS_mono hz ls (k + 1) (p.1.set k x, p.2)) (fold_mono hz ls k l _)
/-- The rows, in their order. -/
def prodL {α : Type} : List (List α) → List (List α)
  | [] => [[]]
  | l :: ls => l.flatMap fun x => (prodL ls).map (x :: ·)
/-- A number's term. -/
def numT (n : Int) : Tm := .mk 1 n [] []
def numC (l : List Int) : List (List D) := l.map fun n => [.int .u8 1, .int .i64 n, .str [], .slice [] []]
def Tm.int? : Tm → Option Int
  | .mk k n _ _ => if k = 1 then some n else none
def intsT (l : List Tm) : List Int := l.filterMap Tm.int?
theorem intsT_cons (k : Nat) (n : Int) (s : List UInt8) (a r : List Tm) : intsT (.mk k n s a :: r) = if k = 1 then n :: intsT r else intsT r := by
  by_cases h : k = 1
  · simp only [intsT, List.filterMap_cons, Tm.int?, if_pos h]
  · simp only [intsT, List.filterMap_cons, Tm.int?, if_neg h]
theorem full_ix {n : Nat} {ix : List Nat} (hnd : ix.Nodup) (hlt : ∀ i ∈ ix, i < n) (hl : n ≤ ix.length) (i : Nat) (hi : i < n) : i ∈ ix := by
  by_cases h : i ∈ ix
  · exact h
  · have := List.Nodup.length_le_of_subset (List.nodup_cons.2 ⟨h, hnd⟩) (l₂ := List.range n) (fun j hj => by
      rcases List.mem_cons.1 hj with rfl | hj
      · exact List.mem_range.2 hi
      · exact List.mem_range.2 (hlt j hj))
    simp at this
    omega
theorem perm_ix {acc : List Int} {ix : List Nat} (hnd : ix.Nodup) (hlt : ∀ i ∈ ix, i < acc.length) (hall : ∀ i, i < acc.length → i ∈ ix) : (ix.map fun i => acc.getD i 0).Perm acc := by
  have h : ix.Perm (List.range acc.length) := (List.perm_ext_iff_of_nodup hnd List.nodup_range).2 fun i => ⟨fun hi => List.mem_range.2 (hlt i hi), fun hi => hall i (List.mem_range.1 hi)⟩
  refine (h.map _).trans ?_
  have e : (List.range acc.length).map (fun i => acc.getD i 0) = acc := by
    refine List.ext_getElem? fun j => ?_
    rw [List.getElem?_map]
    by_cases hj : j < acc.length
    · simp [hj]
    · rw [List.getElem?_eq_none (by simpa using hj), List.getElem?_eq_none (by omega)]; rfl
  rw [e]
end Go.Sx

/- Texts in order. -/
namespace Go.Sx
theorem blt : ∀ (x y : List UInt8), Op.bytesLess x y = decide (x < y)
  | [], [] => by simp [Op.bytesLess]
  | _ :: _, [] => by simp [Op.bytesLess]
  | [], _ :: _ => by simp [Op.bytesLess]
  | a :: x, b :: y => by
    rw [Op.bytesLess, blt x y]
    simp only [List.cons_lt_cons_iff]
    by_cases h1 : a < b <;> by_cases h2 : a = b <;> by_cases h3 : x < y <;> simp [h1, h2, h3]
theorem lt_ne {a b : List UInt8} (h : a ≤ b) (hn : a ≠ b) : a < b := by
  rcases Classical.em (a < b) with h2 | h2
  · exact h2
  · exact absurd (List.le_antisymm h (List.not_lt.1 h2)) hn
end Go.Sx

namespace Go.Sx
/- THE ORDER IS TRANSITIVE. -/
def Tri (p q r : Int) : Prop := (p ≤ 0 → q ≤ 0 → r ≤ 0) ∧ (p ≤ 0 → q ≤ 0 → r = 0 → p = 0 ∧ q = 0) ∧ (p = 0 → q = 0 → r = 0)
theorem fst0_neg : ∀ l : List Int, fst0 (l.map fun x => -x) = - fst0 l
  | [] => rfl
  | x :: r => by
    simp only [List.map_cons, fst0]
    by_cases h : x ≠ 0
    · rw [if_pos h, if_pos (by omega)]
    · rw [if_neg h, if_neg (by omega)]; exact fst0_neg r
mutual
theorem cmp_neg : ∀ a b : Tm, b.cmp a = - a.cmp b
  | .mk k n s l, .mk k' n' s' l' => by
    simp only [Tm.cmp]
    by_cases h : ncmp (rkI k) (rkI k') = 0
    · have e := rkI_inj (ncmp_eq.1 h)
      subst e
      rw [← fst0_neg]
      simp only [List.map_cons, List.map_nil, ← ncmp_neg, ← bcmp_neg, ← cmpL_neg]
      congr 3
      split
      · rw [← ncmp_neg]
      · rfl
    · have h' : ncmp (rkI k') (rkI k) ≠ 0 := by rw [ncmp_neg]; omega
      simp only [fst0]
      rw [if_pos h, if_pos h', ncmp_neg]
theorem cmpL_neg : ∀ a b : List Tm, Tm.cmpL b a = - Tm.cmpL a b
  | [], [] => rfl
  | [], _ :: _ => rfl
  | _ :: _, [] => rfl
  | a :: r, b :: q => by
    simp only [Tm.cmpL]
    have h1 := cmp_neg a b
    by_cases h : a.cmp b ≠ 0
    · rw [if_pos h, if_pos (by omega)]; exact h1
    · rw [if_neg h, if_neg (by omega)]; exact cmpL_neg r q
end
end Go.Sx

/- BINDINGS, PLAIN. -/
namespace Go.Sx
/-- A pair of a binding. -/
structure Bd where
  n : List UInt8
  v : Tm
def Bd.c (x : Bd) : List D := .str x.n :: x.v.cells
def bdL (l : List Bd) : List (List D) := l.map Bd.c
theorem bdL_len (l : List Bd) : (bdL l).length = l.length := by simp [bdL]
theorem bdL_get {l : List Bd} {i : Nat} (h : i < l.length) : (bdL l)[i]? = some l[i].c := by simp [bdL, h]
theorem bdc_len (x : Bd) : x.c.length = 5 := by simp [Bd.c, cells_length]
/-- Valid behind a name. -/
def okB : Option (List UInt8) → List Bd → Bool
  | _, [] => true
  | p, x :: r => Lx.variableB x.n && x.v.value && (match p with
    | none => true
    | some q => decide (q < x.n)) && okB (some x.n) r
def validB (b : List Bd) : Bool := okB none b
def srtB (b : List Bd) : Prop := b.Pairwise fun x y => x.n < y.n
theorem okB_srt : ∀ (b : List Bd) (p : Option (List UInt8)), okB p b = true → srtB b ∧ (∀ x ∈ b, Lx.variableB x.n = true ∧ x.v.value = true) ∧ ∀ q, p = some q → ∀ x ∈ b, q < x.n
  | [], p, _ => ⟨List.Pairwise.nil, fun x h => (by cases h), fun q _ x h => (by cases h)⟩
  | x :: r, p, h => by
    simp only [okB, Bool.and_eq_true] at h
    obtain ⟨⟨⟨h1, h2⟩, h3⟩, h4⟩ := h
    obtain ⟨i1, i2, i3⟩ := okB_srt r _ h4
    refine ⟨List.pairwise_cons.2 ⟨fun y hy => i3 _ rfl y hy, i1⟩, fun y hy => ?_, fun q hq y hy => ?_⟩
    · rcases List.mem_cons.1 hy with rfl | hy
      · exact ⟨h1, h2⟩
      · exact i2 y hy
    · subst hq
      have hx : q < x.n := of_decide_eq_true h3
      rcases List.mem_cons.1 hy with rfl | hy
      · exact hx
      · exact List.lt_trans hx (i3 _ rfl y hy)
theorem okB_of : ∀ (b : List Bd) (p : Option (List UInt8)), srtB b → (∀ x ∈ b, Lx.variableB x.n = true ∧ x.v.value = true) → (∀ q, p = some q → ∀ x ∈ b, q < x.n) → okB p b = true
  | [], p, _, _, _ => rfl
  | x :: r, p, h1, h2, h3 => by
    have h1 := List.pairwise_cons.1 h1
    have hx := h2 x (List.mem_cons_self ..)
    have ih := okB_of r (some x.n) h1.2 (fun y hy => h2 y (List.mem_cons_of_mem _ hy)) (fun q hq y hy => by cases hq; exact h1.1 y hy)
    simp only [okB, hx.1, hx.2, ih, Bool.and_true, Bool.true_and]
    cases p with
    | none => rfl
    | some q => exact decide_eq_true (h3 q rfl x (List.mem_cons_self ..))
theorem validB_iff {b : List Bd} : validB b = true ↔ srtB b ∧ ∀ x ∈ b, Lx.variableB x.n = true ∧ x.v.value = true :=
  ⟨fun h => ⟨(okB_srt b none h).1, (okB_srt b none h).2.1⟩, fun h => okB_of b none h.1 h.2 fun q hq => by cases hq⟩
/-- How many names are less. -/
def posB (b : List Bd) (s : List UInt8) : Nat := (b.takeWhile fun x => decide (x.n < s)).length
theorem posB_cons (x : Bd) (r : List Bd) (s : List UInt8) : posB (x :: r) s = if x.n < s then posB r s + 1 else 0 := by
  unfold posB
  by_cases h : x.n < s
  · rw [if_pos h, List.takeWhile_cons_of_pos (by simpa using h)]; rfl
  · rw [if_neg h, List.takeWhile_cons_of_neg (by simpa using h)]; rfl
theorem posB_le (b : List Bd) (s : List UInt8) : posB b s ≤ b.length := by
  induction b with
  | nil => exact Nat.le_refl _
  | cons x r ih =>
    rw [posB_cons, List.length_cons]
    split <;> omega
theorem posB_iff : ∀ {b : List Bd} {s : List UInt8}, srtB b → ∀ (i : Nat) (h : i < b.length), b[i].n < s ↔ i < posB b s
  | [], s, _, i, h => by simp at h
  | x :: r, s, hs, i, h => by
    have hs := List.pairwise_cons.1 hs
    rw [posB_cons]
    by_cases hx : x.n < s
    · rw [if_pos hx]
      cases i with
      | zero => simpa using hx
      | succ i =>
        have := posB_iff (s := s) hs.2 i (by simpa using h)
        simp only [List.getElem_cons_succ]
        rw [this]; omega
    · rw [if_neg hx]
      refine ⟨fun hi => ?_, fun hi => by omega⟩
      cases i with
      | zero => exact absurd (by simpa using hi) hx
      | succ i =>
        simp only [List.getElem_cons_succ] at hi
        exact absurd (List.lt_trans (hs.1 _ (List.getElem_mem _)) hi) hx
/-- The value of a name. -/
def getB (b : List Bd) (s : List UInt8) : Option Tm := (b.find? fun x => decide (x.n = s)).map Bd.v
theorem getB_cons (x : Bd) (r : List Bd) (s : List UInt8) : getB (x :: r) s = if x.n = s then some x.v else getB r s := by
  unfold getB
  rw [List.find?_cons]
  by_cases h : x.n = s <;> simp [h]
theorem lt_irr (a : List UInt8) : ¬ a < a := List.lt_irrefl a
theorem getB_pos : ∀ {b : List Bd} {s : List UInt8}, srtB b → getB b s = match b[posB b s]? with
    | some x => if x.n = s then some x.v else none
    | none => none
  | [], s, _ => rfl
  | x :: r, s, hs => by
    have hs := List.pairwise_cons.1 hs
    rw [getB_cons, posB_cons]
    by_cases hx : x.n < s
    · have hne : ¬ x.n = s := fun e => lt_irr s (e ▸ hx)
      rw [if_neg hne, if_pos hx, getB_pos hs.2, List.getElem?_cons_succ]
    · rw [if_neg hx, List.getElem?_cons_zero]
      simp only
      by_cases he : x.n = s
      · rw [if_pos he, if_pos he]
      · rw [if_neg he, if_neg he]
        unfold getB
        have : r.find? (fun x => decide (x.n = s)) = none := by
          rw [List.find?_eq_none]
          intro y hy e
          have e : y.n = s := of_decide_eq_true e
          have := hs.1 y hy
          rw [e] at this
          exact hx this
        rw [this]; rfl
/-- A pair set in. -/
def insB' (b : List Bd) (s : List UInt8) (v : Tm) : List Bd := b.take (posB b s) ++ ⟨s, v⟩ :: b.drop (posB b s)
theorem insB_cons (x : Bd) (r : List Bd) (s : List UInt8) (v : Tm) : insB' (x :: r) s v = if x.n < s then x :: insB' r s v else ⟨s, v⟩ :: x :: r := by
  unfold insB'
  rw [posB_cons]
  split <;> rfl
theorem insB_len (b : List Bd) (s : List UInt8) (v : Tm) : (insB' b s v).length = b.length + 1 := by
  have := posB_le b s
  simp [insB']; omega
theorem insB_mem {b : List Bd} {s : List UInt8} {v : Tm} {x : Bd} : x ∈ insB' b s v ↔ x = ⟨s, v⟩ ∨ x ∈ b := by
  induction b with
  | nil => simp [insB', posB]
  | cons y r ih =>
    rw [insB_cons]
    split
    · rw [List.mem_cons, ih, List.mem_cons]
      constructor
      · rintro (h | h | h)
        · exact .inr (.inl h)
        · exact .inl h
        · exact .inr (.inr h)
      · rintro (h | h | h)
        · exact .inr (.inl h)
        · exact .inl h
        · exact .inr (.inr h)
    · rw [List.mem_cons]
theorem insB_srt : ∀ {b : List Bd} {s : List UInt8} {v : Tm}, srtB b → getB b s = none → srtB (insB' b s v)
  | [], s, v, _, _ => List.pairwise_singleton ..
  | x :: r, s, v, hs, hn => by
    have hs' := List.pairwise_cons.1 hs
    rw [getB_cons] at hn
    have hne : ¬ x.n = s := fun e => by rw [if_pos e] at hn; cases hn
    rw [if_neg hne] at hn
    rw [insB_cons]
    by_cases hx : x.n < s
    · rw [if_pos hx]
      refine List.pairwise_cons.2 ⟨fun y hy => ?_, insB_srt hs'.2 hn⟩
      rcases insB_mem.1 hy with rfl | hy
      · exact hx
      · exact hs'.1 y hy
    · rw [if_neg hx]
      have hlt : s < x.n := lt_ne (List.not_lt.1 hx) fun e => hne e.symm
      refine List.pairwise_cons.2 ⟨fun y hy => ?_, hs⟩
      rcases List.mem_cons.1 hy with rfl | hy
      · exact hlt
      · exact List.lt_trans hlt (hs'.1 y hy)
theorem getB_mem : ∀ {b : List Bd}, srtB b → ∀ {x : Bd}, x ∈ b → getB b x.n = some x.v
  | [], _, x, h => by cases h
  | y :: r, hs, x, h => by
    have hs := List.pairwise_cons.1 hs
    rw [getB_cons]
    rcases List.mem_cons.1 h with rfl | h
    · rw [if_pos rfl]
    · have hlt := hs.1 x h
      rw [if_neg (fun e : y.n = x.n => lt_irr x.n (by rw [e] at hlt; exact hlt))]
      exact getB_mem hs.2 h
theorem getB_some {b : List Bd} {s : List UInt8} {v : Tm} (h : getB b s = some v) : ⟨s, v⟩ ∈ b := by
  unfold getB at h
  cases hf : b.find? (fun x => decide (x.n = s)) with
  | none => rw [hf] at h; cases h
  | some x =>
    rw [hf] at h
    cases h
    have h1 := List.mem_of_find?_eq_some hf
    have h2 := List.find?_some hf
    have h2 : x.n = s := of_decide_eq_true h2
    rw [← h2]; exact h1
/-- The result of binding a name. -/
def bindB (b : List Bd) (s : List UInt8) (v : Tm) : Option (List Bd) := if (validB b && (Lx.variableB s && v.value)) = true then (match getB b s with
  | some w => if w.eqb v = true then some b else none
  | none => some (insB' b s v)) else none
theorem bind_valid {b : List Bd} {s : List UInt8} {v : Tm} {c : List Bd} (h : bindB b s v = some c) : validB c = true ∧ getB c s = some v ∧ (∀ x ∈ b, getB c x.n = some x.v) ∧ c.length = b.length + (if (getB b s).isSome = true then 0 else 1) := by
  unfold bindB at h
  split at h
  · rename_i hc
    simp only [Bool.and_eq_true] at hc
    obtain ⟨hb, hs, hv⟩ := hc
    have hsb := (validB_iff.1 hb).1
    split at h
    · rename_i w hw
      split at h
      · rename_i e
        have e := eqb_eq.1 e
        subst e
        cases h
        exact ⟨hb, hw, fun x hx => getB_mem hsb hx, by rw [hw]; rfl⟩
      · cases h
    · rename_i hw
      cases h
      have h1 := insB_srt (v := v) hsb hw
      have h2 : validB (insB' b s v) = true := validB_iff.2 ⟨h1, fun x hx => by
        rcases insB_mem.1 hx with rfl | hx
        · exact ⟨hs, hv⟩
        · exact (validB_iff.1 hb).2 x hx⟩
      refine ⟨h2, ?_, fun x hx => getB_mem h1 (insB_mem.2 (.inr hx)), by rw [insB_len, hw]; rfl⟩
      have := getB_mem h1 (x := ⟨s, v⟩) (insB_mem.2 (.inl rfl))
      exact this
  · cases h
/-- A binding applied. -/
def apK (b : List Bd) (k : Nat) (n : Int) (s : List UInt8) (l : List Tm) : Tm := if k = 3 then (match getB b s with
  | some v => v
  | none => .mk k n s l) else .mk k n s l
mutual
def Tm.ap (b : List Bd) : Tm → Tm
  | .mk k n s l => apK b k n s (Tm.apL b l)
def Tm.apL (b : List Bd) : List Tm → List Tm
  | [] => []
  | a :: r => a.ap b :: Tm.apL b r
end
theorem apL_map (b : List Bd) : ∀ l : List Tm, Tm.apL b l = l.map (Tm.ap b)
  | [] => rfl
  | a :: r => by rw [Tm.apL, apL_map b r]; rfl
/-- Nothing of a ground term is replaced. -/
theorem ap_gr (b : List Bd) : ∀ t : Tm, t.all Tm.gr = true → t.ap b = t
  | .mk k n s l, h => by
    have h := all_split.1 h
    have hk : k ≠ 3 := by simpa [Tm.gr] using h.1
    rw [Tm.ap, apK, if_neg hk, apL_map]
    have : l.map (Tm.ap b) = l := by
      conv => rhs; rw [← List.map_id l]
      exact List.map_congr_left fun x hx => ap_gr b x (h.2 x hx)
    rw [this]
termination_by t => SizeOf.sizeOf t
decreasing_by
  have := List.sizeOf_lt_of_mem hx
  simp only [Tm.mk.sizeOf_spec]
  omega
theorem ap_nil : ∀ t : Tm, t.ap [] = t
  | .mk k n s l => by
    rw [Tm.ap, apL_map]
    have : l.map (Tm.ap []) = l := by
      conv => rhs; rw [← List.map_id l]
      exact List.map_congr_left fun x hx => ap_nil x
    rw [this, apK]
    split <;> rfl
termination_by t => SizeOf.sizeOf t
decreasing_by
  have := List.sizeOf_lt_of_mem hx
  simp only [Tm.mk.sizeOf_spec]
  omega
theorem value_gr' {v : Tm} (h : v.value = true) : v.all Tm.gr = true := (value_gr v h).2
/-- Applied twice, applied once. -/
theorem ap_ap {b : List Bd} (hb : ∀ x ∈ b, x.v.value = true) : ∀ t : Tm, (t.ap b).ap b = t.ap b
  | .mk k n s l => by
    have hl : (Tm.apL b l).map (Tm.ap b) = Tm.apL b l := by
      rw [apL_map, List.map_map]
      exact List.map_congr_left fun x hx => ap_ap hb x
    rw [Tm.ap]
    unfold apK
    by_cases hk : k = 3
    · rw [if_pos hk]
      cases hg : getB b s with
      | some v =>
        exact ap_gr b v (value_gr' (hb _ (getB_some hg)))
      | none =>
        simp only
        rw [Tm.ap, apL_map, hl, apK, if_pos hk, hg]
    · rw [if_neg hk, Tm.ap, apL_map, hl, apK, if_neg hk]
termination_by t => SizeOf.sizeOf t
decreasing_by
  have := List.sizeOf_lt_of_mem hx
  simp only [Tm.mk.sizeOf_spec]
  omega
mutual
theorem ap_wf {B : Nat} {b : List Bd} (hb : ∀ x ∈ b, x.v.wf B) : ∀ t : Tm, t.wf B → (t.ap b).wf B
  | .mk k n s l, h => by
    simp only [Tm.wf] at h
    obtain ⟨h1, h2, h3, h4, h5, h6⟩ := h
    have hl : (Tm.mk k n s (Tm.apL b l)).wf B := by
      simp only [Tm.wf]
      exact ⟨h1, h2, h3, h4, by rw [apL_map, List.length_map]; exact h5, apL_wf hb l h6⟩
    rw [Tm.ap]
    unfold apK
    split
    · split
      · rename_i v hv
        exact hb _ (getB_some hv)
      · exact hl
    · exact hl
theorem apL_wf {B : Nat} {b : List Bd} (hb : ∀ x ∈ b, x.v.wf B) : ∀ l : List Tm, Tm.wfL B l → Tm.wfL B (Tm.apL b l)
  | [], _ => trivial
  | a :: r, h => by
    simp only [Tm.wfL] at h
    simp only [Tm.apL, Tm.wfL]
    exact ⟨ap_wf hb a h.1, apL_wf hb r h.2⟩
end
mutual
theorem ap_few {B : Nat} {b : List Bd} (hb : ∀ x ∈ b, x.v.few B) : ∀ t : Tm, t.few B → (t.ap b).few B
  | .mk k n s l, h => by
    simp only [Tm.few] at h
    have hl : (Tm.mk k n s (Tm.apL b l)).few B := by
      simp only [Tm.few]
      exact ⟨by rw [apL_map, List.length_map]; exact h.1, apL_few hb l h.2⟩
    rw [Tm.ap]
    unfold apK
    split
    · split
      · rename_i v hv
        exact hb _ (getB_some hv)
      · exact hl
    · exact hl
theorem apL_few {B : Nat} {b : List Bd} (hb : ∀ x ∈ b, x.v.few B) : ∀ l : List Tm, Tm.fewL B l → Tm.fewL B (Tm.apL b l)
  | [], _ => trivial
  | a :: r, h => by
    simp only [Tm.fewL] at h
    simp only [Tm.apL, Tm.fewL]
    exact ⟨ap_few hb a h.1, apL_few hb r h.2⟩
end
/-- The sizes of the values of a binding, added up. -/
def smB : List Bd → Int → Int
  | [], n => n
  | x :: r, n => if n ≤ 150 then smB r (n + x.v.sz 150) else n
theorem smB_ge : ∀ (b : List Bd) (n : Int), n ≤ smB b n
  | [], n => Int.le_refl _
  | x :: r, n => by
    rw [smB]
    split
    · have := smB_ge r (n + x.v.sz 150)
      have := sz_ge x.v 150
      omega
    · exact Int.le_refl _
theorem smB_le : ∀ (b : List Bd) (n : Int), 0 ≤ n → smB b n ≤ 150 → n ≤ 150 ∧ ∀ x ∈ b, x.v.sz 150 ≤ 150
  | [], n, _, h => ⟨h, fun x hx => by cases hx⟩
  | x :: r, n, h0, h => by
    rw [smB] at h
    split at h
    · rename_i hn
      have h1 := sz_ge x.v 150
      have h2 := smB_ge r (n + x.v.sz 150)
      have h3 := smB_le r (n + x.v.sz 150) (by omega) h
      refine ⟨hn, fun y hy => ?_⟩
      rcases List.mem_cons.1 hy with rfl | hy
      · omega
      · exact h3.2 y hy
    · omega
/-- A value found, or none. -/
def opD : Option Tm → D
  | some v => .tuple [.agg v.cells, .bool true]
  | none => .tuple [.agg [.int .u8 0, .int .i64 0, .str [], .slice [] []], .bool false]
def getV (b : List Bd) (s : List UInt8) : Option Tm := if validB b = true then getB b s else none
/-- The operators. -/
def tstB (op : Nat) (c : Int) : Bool := match op with
  | 1 => decide (c = 0)
  | 2 => !decide (c = 0)
  | 3 => decide (c < 0)
  | 4 => decide (c ≤ 0)
  | 5 => decide (0 < c)
  | 6 => decide (0 ≤ c)
  | _ => false
end Go.Sx

/- BINDINGS ARE READ. -/
namespace Go.Sx
open Go.RowKit Go.Deep Go.ChangeShapes Go.WideShapes
def Bd.wf (B : Nat) (x : Bd) : Prop := x.n.length ≤ B ∧ x.v.wf B
/-- The type is the type of pairs of a name and a term. -/
def isBdB (P : Program) (U T : TypeId) : Bool := match P.underlying U with
  | some (.struct fs) => match fs.toList with
    | [f0, f1] => f0.offset == 0 && f1.offset == 1 && P.cellsOf f0.type == 1 && P.cellsOf f1.type == 4 && P.cellsOf U == 5 && decide (0 < P.bytesOf U) && f1.type == T &&
      (match P.underlying f0.type with
        | some .string => true
        | _ => false)
    | _ => false
  | _ => false
structure IsBd (P : Program) (U T : TypeId) (fs : Array Field) (f0 f1 : Field) : Prop where
  u : P.underlying U = some (.struct fs)
  l : fs.toList = [f0, f1]
  o0 : f0.offset = 0
  o1 : f1.offset = 1
  c0 : P.cellsOf f0.type = 1
  c1 : P.cellsOf f1.type = 4
  c : P.cellsOf U = 5
  b : 0 < P.bytesOf U
  t : f1.type = T
  u0 : P.underlying f0.type = some .string
theorem isBdB_sound {P : Program} {U T : TypeId} (h : isBdB P U T = true) : ∃ fs f0 f1, IsBd P U T fs f0 f1 := by
  unfold isBdB at h
  split at h
  · rename_i fs hu
    split at h
    · rename_i f0 f1 hl
      simp only [Bool.and_eq_true, beq_iff_eq, decide_eq_true_eq] at h
      obtain ⟨⟨⟨⟨⟨⟨⟨h1, h2⟩, h3⟩, h4⟩, h5⟩, h6⟩, h7⟩, h8⟩ := h
      split at h8
      · rename_i g0
        exact ⟨fs, f0, f1, hu, hl, h1, h2, h3, h4, h5, h6, h7, g0⟩
      · cases h8
    · cases h
  · cases h
variable {H : Type} {enc : TypeId × Value → H} {P : Program} {w : World}
theorem read_bd {B : Nat} {U T : TypeId} {fs : Array Field} {f0 f1 : Field} (hU : IsBd P U T fs f0 f1) (hT : isTmB P T = true) (fuel : Nat) (cs : List Value) (x : DataW H × List MemPlace) (ht : DataW.trod enc P w 0 (fun _ => true) true fuel U cs = some x)
    (hw : wOK B (x.1.weights P U)) : ∃ t : Bd, t.wf B ∧ CRp (memW w) cs t.c := by
  obtain ⟨ts, t0, t1, t2, t3, hT⟩ := isTmB_sound hT
  obtain ⟨xs, n', _, rfl, hcl, hxl, hx⟩ := DataW.trod_struct hU.u ht
  have hsz : fs.size = 2 := by rw [← Array.length_toList, hU.l]; rfl
  have g : ∀ (i : Nat) (f : Field), fs.toList[i]? = some f → fs[i]? = some f := fun i f h => by simpa using h
  rw [hU.l] at g
  rw [hsz] at hxl
  obtain ⟨x0, x1, rfl⟩ : ∃ a b, xs = [a, b] := by
    match xs, hxl with
    | [a, b], _ => exact ⟨a, b, rfl⟩
  have h0 := hx 0 f0 (g 0 f0 rfl)
  have h1 := hx 1 f1 (g 1 f1 rfl)
  rw [hU.o0, hU.c0] at h0
  rw [hU.o1, hU.c1] at h1
  rw [hU.c] at hcl
  obtain ⟨v0, r, rfl⟩ : ∃ a b, cs = a :: b := by
    cases cs with
    | nil => simp at hcl
    | cons a b => exact ⟨a, b, rfl⟩
  have hrl : r.length = 4 := by simpa using hcl
  simp only [List.drop_zero, List.drop_succ_cons, List.take_succ_cons, List.take_zero, List.getElem?_cons_zero, List.getElem?_cons_succ] at h0 h1
  rw [List.take_of_length_le (by omega)] at h1
  have hws : wOK B (DataW.weightsEach P [f0.type, f1.type] [x0.1, x1.1]) := by
    simp only [DataW.weights, hU.u, hU.l, List.map_cons, List.map_nil] at hw
    exact hw
  simp only [DataW.weightsEach] at hws
  obtain ⟨s2, e2, rfl, _⟩ := DataW.trod_string hU.u0 h0
  cases e2
  have hs2 : s2.data.toList.length ≤ B := hws _ (by simp [DataW.weights])
  rw [hU.t] at h1
  obtain ⟨t, h2, h3⟩ := read_tm hT _ _ _ _ (Nat.le_refl _) h1 (fun y hy => hws y (by rw [hU.t]; simp [hy]))
  refine ⟨⟨s2.data.toList, t⟩, ⟨hs2, h2⟩, ?_, fun j v d hv hd => ?_⟩
  · simp only [Bd.c, List.length_cons, h3.1]
  · cases j with
    | zero =>
      simp only [List.getElem?_cons_zero, Option.some.injEq, Bd.c] at hv hd
      subst hv; subst hd
      have := Rep.str (φ := memW w) s2.data.toList
      simpa using this
    | succ j =>
      simp only [List.getElem?_cons_succ, Bd.c] at hv hd
      exact h3.2 j v d hv hd
theorem bds_of {B : Nat} : ∀ {es : List (List D)}, (∀ q ∈ es, ∃ t : Bd, t.wf B ∧ q = t.c) → ∃ l : List Bd, es = bdL l ∧ ∀ x ∈ l, x.wf B
  | [], _ => ⟨[], rfl, fun x h => by cases h⟩
  | e :: r, h => by
    obtain ⟨t, h1, rfl⟩ := h e (List.mem_cons_self ..)
    obtain ⟨l, rfl, h2⟩ := bds_of (es := r) fun x hx => h x (List.mem_cons_of_mem _ hx)
    exact ⟨t :: l, rfl, fun x hx => by
      rcases List.mem_cons.1 hx with rfl | hx
      · exact h1
      · exact h2 x hx⟩
section
variable [Globs] [Codes]
theorem reads_bds {B : Nat} {S U T : TypeId} (hS : P.underlying S = some (.slice U)) (hU : isBdB P U T = true) (hT : isTmB P T = true) : Reads P B S (fun a => ∃ l : List Bd, (∀ x ∈ l, x.wf B) ∧ l.length ≤ B ∧ a = .slice (bdL l) []) := by
  obtain ⟨fs, f0, f1, hU⟩ := isBdB_sound hU
  intro H enc w r base fuel v x hx hw hok
  obtain ⟨es, hl, hq, hc⟩ := read_slice (B := B) (Q := fun ds => ∃ t : Bd, t.wf B ∧ ds = t.c) hS hU.b (by rw [hU.c]; decide) (fun ds ⟨t, _, h⟩ => by rw [h, bdc_len, hU.c]) hx hw fun n cs' y _ hy hwy => by
    obtain ⟨t, h4, h5⟩ := read_bd hU hT n cs' y hy hwy
    exact ⟨t.c, ⟨t, h4, rfl⟩, h5⟩
  obtain ⟨l, rfl, hwl⟩ := bds_of hq
  rw [bdL_len] at hl
  have hone : v.cells = #[v] := by
    unfold Value.okWide at hok
    rw [hS] at hok
    simp only [Cell.okWide, hS] at hok
    cases v <;> simp_all [Cell.ok, Value.cells]
  rw [hone] at hc
  exact ⟨_, .pure (hc.2 0 v _ rfl rfl), l, hwl, hl, rfl⟩
end
end Go.Sx

/- AN OWN ROW THAT A CALL HANDS BACK IS NO MORE WRITTEN TO. -/
namespace Go.Sx
open Go.RowKit
variable [Globs] [Codes]
variable {P : Program}

def memF (φ : Mem) (g n : Nat) (xs : List Value) : Mem := fun b o => if b = g then (if o < n then xs[o]? else none) else φ b o
theorem CallL.frz {d : D} {args : List D} {ob : Obs} {sz : Nat} {e : TypeId} {es : List (List D)} {i0 : Nat} (hc : CallL P d args ob fun r o => r = .vec i0 ∧ o = [(i0, .arr false sz e es)]) : CallL P d args ob fun r o => r = .vec i0 ∧ o = [(i0, .arr true sz e es)] := by
  intro F hF n φ h w v vs hp hv hvs
  refine (hc F hF n φ h w v vs hp hv hvs).mono ?_
  intro e' w' hpost
  obtain ⟨u, r0, ob0, φ', h', rfl, ⟨rfl, rfl⟩, hrv, ha⟩ := hpost.dest fun r o hr => by rw [hr.1]; rfl
  have hob := ha.loc.obj i0 (.arr false sz e es) (by simp [lk])
  obtain ⟨h0, hsz, xs, hown, hrep, hb⟩ := hob
  rcases hown.2 with ⟨hnil, hlen⟩ | ⟨g, cap, cur, hv', hge, hblk, hn, hcap, hcs, htk⟩
  · -- nothing there
    have hbn : blk (h' i0) = none := by rw [hnil]; rfl
    refine .ret ⟨rfl, rfl⟩ (φ' := φ') (h' := h') hrv ⟨⟨ha.loc.one, ha.loc.glob.sub fun b ⟨i, hi, hbi⟩ => ?_, ha.loc.mem, fun i o ho => ?_, fun i j b hi hj hbi hbj => ?_⟩, ha.ext, ha.new, ha.frame, ha.hfix, ha.os, ha.tape, ha.output, ha.grow⟩
    · simp only [lk] at hi
      split at hi
      · rename_i e; subst e; rw [hbn] at hbi; cases hbi
      · cases hi
    · simp only [lk] at ho
      split at ho
      · rename_i e; subst e; cases ho
        exact ⟨h0, hsz, xs, hown, hrep, fun b hb' => by rw [hbn] at hb'; cases hb'⟩
      · cases ho
    · simp only [lk] at hi hj
      split at hi
      · split at hj
        · omega
        · cases hj
      · cases hi
  · have hbg : blk (h' i0) = some g := by rw [hv']; rfl
    obtain ⟨hog, hφ0⟩ := hb g hbg
    have hφ0 : ∀ o, φ' g o = none := fun o => by rw [hφ0 o]; simp
    obtain ⟨φ2, hφd⟩ : ∃ m, m = memF φ' g (es.length * sz) xs := ⟨_, rfl⟩
    have hφn : ∀ b o, b ≠ g → φ2 b o = φ' b o := fun b o hb => by rw [hφd]; exact if_neg hb
    have hφm : ∀ b o v, φ' b o = some v → φ2 b o = some v := fun b o v hv => by
      have hbg : b ≠ g := fun e => by rw [e, hφ0 o] at hv; cases hv
      rw [hφn b o hbg]; exact hv
    have hφg : ∀ o, φ2 g o = if o < es.length * sz then xs[o]? else none := fun o => by rw [hφd]; exact if_pos rfl
    have hZe : ∀ b, ZOf [(i0, Ob.arr true sz e es)] h' b → ZOf [(i0, Ob.arr false sz e es)] h' b := by
      rintro b ⟨i, hi, hbi⟩
      simp only [lk] at hi
      split at hi
      · rename_i e; subst e; exact ⟨i, by simp [lk], hbi⟩
      · cases hi
    have hcell : ∀ o, o < es.length * sz → w'.cell? ⟨g, o, none⟩ = xs[o]? := fun o ho => by
      have h1 : (cur.toList.take (es.length * sz))[o]? = xs[o]? := by rw [htk]
      rw [List.getElem?_take_of_lt ho, Array.getElem?_toList] at h1
      simp only [World.cell?, hblk]
      rw [← h1]
      simp
    refine .ret ⟨rfl, rfl⟩ (φ' := φ2) (h' := h') (hrv.mono hφm) ⟨⟨ha.loc.one, ⟨fun g' cs hgc => (ha.loc.glob.ok g' cs hgc).mono hφm, fun g' arr hx => ?_, fun g' hx => ?_⟩, fun b o u hu => ?_, fun i o ho => ?_, fun i j b hi hj _ _ => ?_⟩, fun b o v hv => hφm _ _ _ (ha.ext b o v hv), fun b o u h1 h2 => ?_, ha.frame, fun i hi => ha.hfix i hi, ha.os, ha.tape, ha.output, ha.grow⟩
    · obtain ⟨hw, hz⟩ := ha.loc.glob.x g' arr hx
      exact ⟨hw, fun hz' => hz (hZe _ hz')⟩
    · obtain ⟨hw, hz⟩ := ha.loc.glob.i g' hx
      exact ⟨hw, fun hz' => hz (hZe _ hz')⟩
    · by_cases hbg : b = g
      · subst hbg
        rw [hφg] at hu
        split at hu
        · rename_i ho; rw [hcell o ho]; exact hu
        · cases hu
      · rw [hφn b o hbg] at hu
        exact ha.loc.mem b o u hu
    · simp only [lk] at ho
      split at ho
      · rename_i e; subst e; cases ho
        refine ⟨h0, hsz, xs, hown, fun i x j d hi hj => (hrep i x j d hi hj).mono hφm, fun b hb' => ?_⟩
        rw [hbg] at hb'
        cases hb'
        exact ⟨hog, fun o => by rw [hφg o]; simp⟩
      · cases ho
    · simp only [lk] at hi hj
      split at hi
      · split at hj
        · omega
        · cases hj
      · cases hi
    · by_cases hbg : b = g
      · exact hbg ▸ hog
      · rw [hφn b o hbg] at h1
        exact ha.new b o u h1 h2
end Go.Sx

/- A ROW THAT IS HANDED BACK, AS PLAIN DATA. -/
namespace Go.Sx
open Go.RowKit
variable [Globs] [Codes]
variable {P : Program}
theorem CallL.vecR {d : D} {args : List D} {ob ob0 : Obs} {sz k : Nat} {e : TypeId} {es : List (List D)} (hk : lk ob0 k = none) (hc : CallL P d args ob fun r o => r = .vec k ∧ o = ob0 ++ [(k, .arr true sz e es)]) : CallL P d args ob fun r o => r = .slice es [] ∧ o = ob0 := by
  intro F hF n φ h w v vs hp hv hvs
  refine (hc F hF n φ h w v vs hp hv hvs).mono ?_
  intro e' w' hpost
  obtain ⟨u, r0, ob1, φ', h', rfl, ⟨rfl, rfl⟩, hrv, ha⟩ := hpost.dest fun r o hr => by rw [hr.1]; rfl
  have hlk : ∀ i o, lk ob0 i = some o → lk (ob0 ++ [(k, Ob.arr true sz e es)]) i = some o := fun i o ho => by rw [lk_append, ho]; rfl
  have hsome : ∀ i, (lk ob0 i).isSome → (lk (ob0 ++ [(k, Ob.arr true sz e es)]) i).isSome := fun i hi => by
    obtain ⟨o, ho⟩ := Option.isSome_iff_exists.1 hi
    rw [hlk i o ho]; rfl
  have hz : ∀ b, ZOf ob0 h' b → ZOf (ob0 ++ [(k, Ob.arr true sz e es)]) h' b := fun b ⟨i, hi, hb⟩ => ⟨i, hsome i hi, hb⟩
  have h2 := dvt_sound (obs := lk (ob0 ++ [(k, Ob.arr true sz e es)])) (fun i o hi _ => ha.loc.obj i o hi) hrv
  have e1 : dvt (lk (ob0 ++ [(k, Ob.arr true sz e es)])) (.vec k) = .slice es [] := by
    have hl : lk (ob0 ++ [(k, Ob.arr true sz e es)]) k = some (.arr true sz e es) := by rw [lk_append, hk]; simp [lk]
    simp only [dvt, dv, hl]
  rw [e1] at h2
  exact .ret ⟨rfl, rfl⟩ h2 ⟨⟨ha.loc.one, ha.loc.glob.sub hz, ha.loc.mem, fun i o ho => ha.loc.obj i o (hlk i o ho), fun i j b hi hj => ha.loc.sep i j b (hsome i hi) (hsome j hj)⟩, ha.ext, ha.new, ha.frame, ha.hfix, ha.os, ha.tape, ha.output, ha.grow⟩
end Go.Sx

/- RESULTS KEPT: a table of calls that have been worked out. -/
namespace Go.Sx
mutual
def dEq : D → D → Bool
  | .int k a, .int k' b => decide (k = k') && decide (a = b)
  | .str a, .str b => decide (a = b)
  | .bool a, .bool b => a == b
  | .slice a x, .slice b y => dEqLL a b && dEqLL x y
  | .agg a, .agg b => dEqL a b
  | _, _ => false
def dEqL : List D → List D → Bool
  | [], [] => true
  | a :: r, b :: q => dEq a b && dEqL r q
  | _, _ => false
def dEqLL : List (List D) → List (List D) → Bool
  | [], [] => true
  | a :: r, b :: q => dEqL a b && dEqLL r q
  | _, _ => false
end
mutual
theorem dEq_ok : ∀ a b : D, dEq a b = true → a = b
  | .int k a, b, h => by
    cases b <;> simp [dEq] at h
    rw [h.1, h.2]
  | .str a, b, h => by
    cases b <;> simp [dEq] at h
    rw [h]
  | .bool a, b, h => by
    cases b <;> simp [dEq] at h
    rw [h]
  | .slice a x, b, h => by
    cases b <;> simp [dEq] at h
    rw [dEqLL_ok a _ h.1, dEqLL_ok x _ h.2]
  | .agg a, b, h => by
    cases b <;> simp [dEq] at h
    rw [dEqL_ok a _ h]
  | .undef, b, h => by cases b <;> simp [dEq] at h
  | .nilp, b, h => by cases b <;> simp [dEq] at h
  | .nilf, b, h => by cases b <;> simp [dEq] at h
  | .tuple _, b, h => by cases b <;> simp [dEq] at h
  | .ptr _ _, b, h => by cases b <;> simp [dEq] at h
  | .fptr _, b, h => by cases b <;> simp [dEq] at h
  | .vec _, b, h => by cases b <;> simp [dEq] at h
  | .vptr _ _ _ _, b, h => by cases b <;> simp [dEq] at h
  | .vwin _ _ _, b, h => by cases b <;> simp [dEq] at h
  | .map _, b, h => by cases b <;> simp [dEq] at h
  | .func _ _ _, b, h => by cases b <;> simp [dEq] at h
  | .raw _, b, h => by cases b <;> simp [dEq] at h
  | .nils, b, h => by cases b <;> simp [dEq] at h
  | .own _ _ _, b, h => by cases b <;> simp [dEq] at h
  | .yld _, b, h => by cases b <;> simp [dEq] at h
  | .ifc, b, h => by cases b <;> simp [dEq] at h
  | .pan _, b, h => by cases b <;> simp [dEq] at h
theorem dEqL_ok : ∀ a b : List D, dEqL a b = true → a = b
  | [], [], _ => rfl
  | [], _ :: _, h => by simp [dEqL] at h
  | _ :: _, [], h => by simp [dEqL] at h
  | a :: r, b :: q, h => by
    simp only [dEqL, Bool.and_eq_true] at h
    rw [dEq_ok a b h.1, dEqL_ok r q h.2]
theorem dEqLL_ok : ∀ a b : List (List D), dEqLL a b = true → a = b
  | [], [], _ => rfl
  | [], _ :: _, h => by simp [dEqLL] at h
  | _ :: _, [], h => by simp [dEqLL] at h
  | a :: r, b :: q, h => by
    simp only [dEqLL, Bool.and_eq_true] at h
    rw [dEqL_ok a b h.1, dEqLL_ok r q h.2]
end
abbrev Memo := List (FuncId × List D × D)
def memoF : Memo → FuncId → List D → Option D
  | [], _, _ => none
  | (g, ys, r) :: l, f, xs => if f = g ∧ dEqL xs ys = true then some r else memoF l f xs
section
variable [Globs] [Codes]
def Memo.OK (P : Program) : Memo → Prop
  | [] => True
  | (g, ys, r) :: l => FnOK P g ys r ∧ Memo.OK P l
theorem memoF_ok {P : Program} : ∀ {l : Memo}, l.OK P → ∀ {f : FuncId} {xs : List D} {r : D}, memoF l f xs = some r → FnOK P f xs r
  | [], _, _, _, _, h => by cases h
  | (g, ys, r0) :: l, hl, f, xs, r, h => by
    simp only [memoF] at h
    split at h
    · rename_i hc
      cases h
      rw [hc.1, dEqL_ok _ _ hc.2]
      exact hl.1
    · exact memoF_ok hl.2 h
/-- A table with results kept. -/
def Tab.mem (t : Tab) (l : Memo) : Tab := { t with F := fun f xs => match memoF l f xs with
  | some r => some r
  | none => t.F f xs }
theorem Tab.OK.mem_ok {P : Program} {t : Tab} (ht : t.OK P) {l : Memo} (hl : l.OK P) : (t.mem l).OK P := by
  refine ⟨ht.T, ht.C, fun f xs r h => ?_⟩
  simp only [Tab.mem] at h
  split at h
  · cases h; exact memoF_ok hl (by assumption)
  · exact ht.F f xs r h
end
end Go.Sx

/- FROZEN ROWS THAT A CALL HAS MADE, HANDED BACK AS PLAIN DATA. -/
namespace Go.Sx
open Go.RowKit
variable [Globs] [Codes]
variable {P : Program}
def keepO (bs : Nat) (ob : Obs) (i : Nat) : Bool := if i < bs then true else match lk ob i with
  | some (.arr true _ _ _) => false
  | _ => true
def thinO (bs : Nat) (ob : Obs) : Obs := ob.filter fun p => keepO bs ob p.1
/-- The same calls, their rows handed back as plain data. -/
def Tab.nest (tab : Tab) (P : Program) (fs : List FuncId) (n : Nat) : Nat → Tab
  | 0 => tab
  | k + 1 => { tab with C := fun f az ob => if fs.contains f = true then (match callE (Tab.nest tab P fs n k) (go P (Tab.nest tab P fs n k) n) (.func (.func f) [] []) az ob with
    | some (r, ob') => if r.isPan = false then some (dvt (lk ob') r, thinO (Obs.top ob) ob') else none
    | none => none) else tab.C f az ob }
/-- The same calls, the rows at hand frozen after them. -/
def Tab.frz (tab : Tab) (P : Program) (fs : List FuncId) (n : Nat) : Tab :=
  { tab with C := fun f az ob => if fs.contains f = true then (match callE tab (go P tab n) (.func (.func f) [] []) az ob with
    | some (r, ob') => some (r, frzO ob')
    | none => none) else tab.C f az ob }
theorem Tab.frz_ok [CodesOf P] (hdraw : DrawSound P) {tab : Tab} (ht : tab.OK P) {fs : List FuncId} (hfs : (fs.all fun f => pureF P f) = true) (n : Nat) : (Tab.frz tab P fs n).OK P := by
  refine ⟨ht.T, fun f az ob r ob' h => ?_, ht.F⟩
  simp only [Tab.frz] at h
  split at h
  · rename_i hf
    have hp : pureF P f = true := List.all_eq_true.1 hfs f (by simpa using hf)
    split at h
    · rename_i r1 ob1 hc
      cases h
      refine ⟨hp, (CallL.frzAll (callE_ok hdraw ht n hc)).mono ?_⟩
      rintro r0 o0 ⟨o1, rfl, rfl, rfl⟩
      exact ⟨rfl, rfl⟩
    · cases h
  · exact ht.C f az ob r ob' h
end Go.Sx
