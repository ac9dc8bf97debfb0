/- Own work: a layer over the kit: plain data, a walk over it, its soundness. -/
import Derived.Lib.Join
import Derived.Sort.OwnSorted
import Derived.Lib.SlicesCompact
import Derived.Test.YtbcgpkgdbepfbaaGreatDoorSx6
set_option linter.unusedSectionVars false
set_option linter.unusedVariables false
set_option linter.unusedSimpArgs false
set_option linter.deprecated false
/- Laws of the lexer. -/
namespace Go.Sx.Lx
open Go.Sx

/-- A byte that ends every token. -/
def isSep (c : UInt8) : Bool := isBlank c || c == 37

theorem sep_all : (List.range 256).all (fun n => !(isSep (UInt8.ofNat n)) || (!(isName (UInt8.ofNat n)) && !(isDig (UInt8.ofNat n)) && !(isLet (UInt8.ofNat n)) && signL.all fun s => !(s.contains (UInt8.ofNat n)))) = true := by decide +kernel
theorem sep_spec {c : UInt8} (h : isSep c = true) : isName c = false ∧ isDig c = false ∧ isLet c = false ∧ ∀ s ∈ signL, c ∉ s := by
  have := List.all_eq_true.1 sep_all c.toNat (List.mem_range.2 c.toNat_lt)
  simp only [UInt8.ofNat_toNat, h, Bool.not_true, Bool.false_or, Bool.and_eq_true, Bool.not_eq_true', List.all_eq_true] at this
  refine ⟨this.1.1.1, this.1.1.2, this.1.2, fun s hs hm => ?_⟩
  have h1 := this.2 s hs
  rw [List.contains_iff_mem.2 hm] at h1
  cases h1

theorem takeWhile_sep {p : UInt8 → Bool} {c : UInt8} (h : p c = false) (r : List UInt8) : ∀ l : List UInt8, (l ++ c :: r).takeWhile p = l.takeWhile p
  | [] => by simp [List.takeWhile_cons, h]
  | b :: l => by
    simp only [List.cons_append, List.takeWhile_cons]
    split
    · rw [takeWhile_sep h r l]
    · rfl
theorem prefix_sep {c : UInt8} (r : List UInt8) : ∀ (s l : List UInt8), c ∉ s → s.isPrefixOf (l ++ c :: r) = s.isPrefixOf l
  | [], l, _ => by cases l <;> rfl
  | x :: s, [], h => by
    have : (x == c) = false := by
      cases hx : x == c with
      | false => rfl
      | true => rw [eq_of_beq hx] at h; simp at h
    simp [List.isPrefixOf, this]
  | x :: s, b :: l, h => by
    simp only [List.cons_append, List.isPrefixOf]
    rw [prefix_sep r s l (fun hm => h (List.mem_cons_of_mem _ hm))]
theorem find_congr {α : Type} {p q : α → Bool} : ∀ {l : List α}, (∀ x ∈ l, p x = q x) → l.find? p = l.find? q
  | [], _ => rfl
  | x :: l, h => by
    rw [List.find?_cons, List.find?_cons, h x (List.mem_cons_self ..), find_congr fun y hy => h y (List.mem_cons_of_mem _ hy)]
theorem signOf_sep {c : UInt8} (hc : isSep c = true) (l r : List UInt8) : signOf (l ++ c :: r) = signOf l := by
  unfold signOf
  rw [find_congr fun s hs => prefix_sep r s l ((sep_spec hc).2.2.2 s hs)]
/-- What follows behind a separator does not matter. -/
theorem tok_sep {c : UInt8} (hc : isSep c = true) {l : List UInt8} (hl : l ≠ []) (r : List UInt8) : tok (l ++ c :: r) = tok l := by
  obtain ⟨h1, h2, h3, _⟩ := sep_spec hc
  cases l with
  | nil => exact absurd rfl hl
  | cons b l =>
    have e1 : (b :: l ++ c :: r).takeWhile isName = (b :: l).takeWhile isName := takeWhile_sep h1 r (b :: l)
    have e2 : (b :: l ++ c :: r).takeWhile isDig = (b :: l).takeWhile isDig := takeWhile_sep h2 r (b :: l)
    have e3 : (l ++ c :: r).takeWhile isLet = l.takeWhile isLet := takeWhile_sep h3 r l
    have e4 : signOf (b :: l ++ c :: r) = signOf (b :: l) := signOf_sep hc (b :: l) r
    simp only [List.cons_append] at e1 e2 e3 e4
    simp only [tok, List.cons_append, e1, e2, e3, e4]

theorem skp_sep (b : List UInt8) : ∀ (c : Bool) (l : List UInt8), skp c (l ++ 10 :: b) = if skp c l = l.length then l.length + 1 + skp false b else skp c l
  | false, [] => by simp [skp, isBlank]
  | true, [] => by simp [skp]
  | false, x :: l => by
    simp only [List.cons_append, skp]
    have h1 := skp_sep b false l
    have h2 := skp_sep b true l
    split
    · rw [h1]; split
      · rename_i h; rw [if_pos (by rw [List.length_cons]; omega), List.length_cons]; omega
      · rename_i h; rw [if_neg (by rw [List.length_cons]; omega)]
    split
    · rw [h2]; split
      · rename_i h; rw [if_pos (by rw [List.length_cons]; omega), List.length_cons]; omega
      · rename_i h; rw [if_neg (by rw [List.length_cons]; omega)]
    · rw [if_neg (by simp)]
  | true, x :: l => by
    simp only [List.cons_append, skp]
    have h1 := skp_sep b false l
    have h2 := skp_sep b true l
    split
    · rw [h1]; split
      · rename_i h; rw [if_pos (by rw [List.length_cons]; omega), List.length_cons]; omega
      · rename_i h; rw [if_neg (by rw [List.length_cons]; omega)]
    · rw [h2]; split
      · rename_i h; rw [if_pos (by rw [List.length_cons]; omega), List.length_cons]; omega
      · rename_i h; rw [if_neg (by rw [List.length_cons]; omega)]

/-- More fuel does not matter. -/
theorem toksF_fuel : ∀ (f g o : Nat) (l : List UInt8), l.length < f → l.length < g → toksF f o l = toksF g o l := by
  intro f
  induction f with
  | zero => intro g o l h; omega
  | succ f ih =>
    intro g o l hf hg
    cases g with
    | zero => omega
    | succ g =>
      cases l with
      | nil => rfl
      | cons b r =>
        simp only [toksF]
        split
        · rename_i he
          have hp := tok_pos (l := b :: r) (by simp) he
          have hl : ((b :: r).drop ((tok (b :: r)).2.1.length + skp false ((b :: r).drop (tok (b :: r)).2.1.length))).length < r.length + 1 := by
            rw [List.length_drop, List.length_cons]; omega
          rw [List.length_cons] at hf hg
          rw [ih g _ _ (by omega) (by omega)]
        · rfl
/-- The run that begins with blanks and comments. -/
def run (o : Nat) (l : List UInt8) : List Tk × Option (Nat × Int) × Nat := toksF (l.length + 1) (o + skp false l) (l.drop (skp false l))
theorem run_end {o : Nat} {l : List UInt8} (h : skp false l = l.length) : run o l = ([], none, o + l.length) := by
  unfold run
  rw [h, List.drop_length]; rfl
theorem run_go {o : Nat} {l : List UInt8} (h : skp false l ≠ l.length) : run o l =
    if (tok (l.drop (skp false l))).2.2 = 0 then
      (((tok (l.drop (skp false l))).1, (tok (l.drop (skp false l))).2.1, ((o + skp false l : Nat) : Int)) :: (run (o + skp false l + (tok (l.drop (skp false l))).2.1.length) (l.drop (skp false l + (tok (l.drop (skp false l))).2.1.length))).1,
        (run (o + skp false l + (tok (l.drop (skp false l))).2.1.length) (l.drop (skp false l + (tok (l.drop (skp false l))).2.1.length))).2)
    else ([], some (o + skp false l, (tok (l.drop (skp false l))).2.2), o + skp false l + (tok (l.drop (skp false l))).2.1.length) := by
  have hk := skp_le false l
  have hne : l.drop (skp false l) ≠ [] := fun he => by
    have := congrArg List.length he
    rw [List.length_drop, List.length_nil] at this
    omega
  unfold run
  generalize hd : l.drop (skp false l) = d at hne ⊢
  have hdl : d.length ≤ l.length := by rw [← hd, List.length_drop]; omega
  cases d with
  | nil => exact absurd rfl hne
  | cons b r =>
    have hl : 0 < l.length := by rw [List.length_cons] at hdl; omega
    rw [List.length_cons] at hdl
    cases hlen : l.length with
    | zero => omega
    | succ m =>
      simp only [toksF]
      split
      · rename_i he
        have hp := tok_pos (l := b :: r) (by simp) he
        have e : l.drop (skp false l + (tok (b :: r)).2.1.length) = (b :: r).drop (tok (b :: r)).2.1.length := by rw [← hd, List.drop_drop]
        rw [e, List.drop_drop]
        have hl2 : ((b :: r).drop ((tok (b :: r)).2.1.length + skp false ((b :: r).drop (tok (b :: r)).2.1.length))).length < r.length + 1 := by
          rw [List.length_drop, List.length_cons]; omega
        have hl3 : ((b :: r).drop ((tok (b :: r)).2.1.length + skp false ((b :: r).drop (tok (b :: r)).2.1.length))).length < ((b :: r).drop (tok (b :: r)).2.1.length).length + 1 := by
          simp only [List.length_drop]; omega
        rw [toksF_fuel (m + 1) (((b :: r).drop (tok (b :: r)).2.1.length).length + 1) _ _ (by omega) hl3]
      · rfl

theorem drop_app {l r : List UInt8} {n : Nat} (h : n ≤ l.length) : (l ++ r).drop n = l.drop n ++ r := by
  rw [List.drop_append, show n - l.length = 0 by omega, List.drop_zero]

/-- Two sources with a newline between. -/
theorem run_split (b : List UInt8) : ∀ (m : Nat) (l : List UInt8) (o : Nat), l.length < m → run o (l ++ 10 :: b) =
    match run o l with
    | (ts, some e, p) => (ts, some e, p)
    | (ts, none, _) => (ts ++ (run (o + l.length + 1) b).1, (run (o + l.length + 1) b).2) := by
  intro m
  induction m with
  | zero => intro l o h; omega
  | succ m ih =>
    intro l o hm
    have hk := skp_le false l
    have hs := skp_sep b false l
    by_cases h : skp false l = l.length
    · rw [run_end h]
      rw [if_pos h] at hs
      simp only [List.nil_append]
      unfold run
      rw [hs]
      have e : (l ++ 10 :: b).drop (l.length + 1 + skp false b) = b.drop (skp false b) := by
        rw [List.drop_append, List.drop_eq_nil_of_le (by omega), List.nil_append, show l.length + 1 + skp false b - l.length = skp false b + 1 by omega, List.drop_succ_cons]
      have hlb : (b.drop (skp false b)).length ≤ b.length := by rw [List.length_drop]; omega
      rw [e, toksF_fuel ((l ++ 10 :: b).length + 1) (b.length + 1) _ _ (by rw [List.length_append, List.length_cons]; omega) (by omega)]
      rw [show o + (l.length + 1 + skp false b) = o + l.length + 1 + skp false b by omega]
    · rw [if_neg h] at hs
      have h' : skp false (l ++ 10 :: b) ≠ (l ++ 10 :: b).length := by rw [hs, List.length_append, List.length_cons]; omega
      have hd : (l ++ 10 :: b).drop (skp false (l ++ 10 :: b)) = l.drop (skp false l) ++ 10 :: b := by rw [hs]; exact drop_app hk
      have hne : l.drop (skp false l) ≠ [] := fun he => by
        have := congrArg List.length he
        rw [List.length_drop, List.length_nil] at this
        omega
      rw [run_go h', run_go h, hd, tok_sep (by decide) hne b, hs]
      have htl := tok_len (l.drop (skp false l))
      rw [List.length_drop] at htl
      have e2 : (l ++ 10 :: b).drop (skp false l + (tok (l.drop (skp false l))).2.1.length) = l.drop (skp false l + (tok (l.drop (skp false l))).2.1.length) ++ 10 :: b := drop_app (by omega)
      rw [e2]
      by_cases he : (tok (l.drop (skp false l))).2.2 = 0
      · rw [if_pos he, if_pos he]
        have hp := tok_pos hne he
        rw [ih (l.drop (skp false l + (tok (l.drop (skp false l))).2.1.length)) _ (by rw [List.length_drop]; omega)]
        have el : o + skp false l + (tok (l.drop (skp false l))).2.1.length + (l.drop (skp false l + (tok (l.drop (skp false l))).2.1.length)).length + 1 = o + l.length + 1 := by
          rw [List.length_drop]; omega
        rw [el]
        rcases run (o + skp false l + (tok (l.drop (skp false l))).2.1.length) (l.drop (skp false l + (tok (l.drop (skp false l))).2.1.length)) with ⟨ts, _ | e, p⟩ <;> rfl
      · rw [if_neg he, if_neg he]

/-- A run begun later. -/
def shift (d : Nat) (r : List Tk × Option (Nat × Int) × Nat) : List Tk × Option (Nat × Int) × Nat := (r.1.map fun t => (t.1, t.2.1, t.2.2 + d), r.2.1.map fun e => (e.1 + d, e.2), r.2.2 + d)
theorem run_shift (d : Nat) : ∀ (m : Nat) (l : List UInt8) (o : Nat), l.length < m → run (o + d) l = shift d (run o l) := by
  intro m
  induction m with
  | zero => intro l o h; omega
  | succ m ih =>
    intro l o hm
    have hk := skp_le false l
    by_cases h : skp false l = l.length
    · rw [run_end h, run_end h]
      simp only [shift, List.map_nil, Option.map_none]
      rw [show o + d + l.length = o + l.length + d by omega]
    · have hne : l.drop (skp false l) ≠ [] := fun he => by
        have := congrArg List.length he
        rw [List.length_drop, List.length_nil] at this
        omega
      rw [run_go h, run_go h]
      by_cases he : (tok (l.drop (skp false l))).2.2 = 0
      · rw [if_pos he, if_pos he]
        have hp := tok_pos hne he
        rw [show o + d + skp false l + (tok (l.drop (skp false l))).2.1.length = o + skp false l + (tok (l.drop (skp false l))).2.1.length + d by omega]
        rw [ih _ _ (by rw [List.length_drop]; omega)]
        simp only [shift, List.map_cons]
        rw [show ((o + d + skp false l : Nat) : Int) = ((o + skp false l : Nat) : Int) + d by omega]
      · rw [if_neg he, if_neg he]
        simp only [shift, List.map_nil, Option.map_some]
        rw [show o + d + skp false l = o + skp false l + d by omega, show o + skp false l + d + (tok (l.drop (skp false l))).2.1.length = o + skp false l + (tok (l.drop (skp false l))).2.1.length + d by omega]

/-- A run's answer. -/
def ans (r : List Tk × Option (Nat × Int) × Nat) : List Tk × Int × Int := match r with
  | (_, some (a, e), _) => ([], a, e)
  | (l, none, _) => (l, 0, 0)
theorem lexR_eq (s : List UInt8) : lexR s = if 32768 < s.length then ([], 0, 3) else ans (run 0 s) := by
  unfold lexR run ans
  rw [Nat.zero_add]
  all_goals rfl
theorem run_err : ∀ (m : Nat) (l : List UInt8) (o : Nat), l.length < m → ∀ a e, (run o l).2.1 = some (a, e) → e ≠ 0 ∧ o ≤ a ∧ a < o + l.length ∧ (e = 30 ∨ e = 31 ∨ e = 32) := by
  intro m
  induction m with
  | zero => intro l o h; omega
  | succ m ih =>
    intro l o hm a e hr
    have hk := skp_le false l
    by_cases h : skp false l = l.length
    · rw [run_end h] at hr; cases hr
    · have hne : l.drop (skp false l) ≠ [] := fun he => by
        have := congrArg List.length he
        rw [List.length_drop, List.length_nil] at this
        omega
      rw [run_go h] at hr
      by_cases he : (tok (l.drop (skp false l))).2.2 = 0
      · rw [if_pos he] at hr
        have hp := tok_pos hne he
        have htl := tok_len (l.drop (skp false l))
        rw [List.length_drop] at htl
        obtain ⟨h1, h2, h3, h4⟩ := ih _ _ (by rw [List.length_drop]; omega) a e hr
        rw [List.length_drop] at h3
        exact ⟨h1, by omega, by omega, h4⟩
      · rw [if_neg he] at hr
        simp only [Option.some.injEq, Prod.mk.injEq] at hr
        obtain ⟨rfl, rfl⟩ := hr
        refine ⟨he, by omega, by omega, ?_⟩
        generalize l.drop (skp false l) = x at he ⊢
        unfold tok at he ⊢
        cases x with
        | nil => simp at he
        | cons b r =>
          simp only at he ⊢
          split at he
          · rename_i h1
            rw [if_pos h1]
            simp only [wordK] at he ⊢
            repeat' split at he
            all_goals first | (exact absurd rfl he) | skip
            rename_i g1 g2 g3
            rw [if_neg g1, if_neg g2, if_neg g3]; simp
          · rename_i h1
            rw [if_neg h1]
            split at he
            · rename_i h2
              rw [if_pos h2]
              simp only [numE] at he ⊢
              split at he
              · rename_i n hn
                repeat' split at he
                all_goals first | (exact absurd rfl he) | skip
                all_goals simp_all
              · rename_i hn
                simp_all
            · rename_i h2
              rw [if_neg h2]
              split at he
              · rename_i h3
                rw [if_pos h3]
                simp only at he ⊢
                split at he
                · exact absurd rfl he
                · rename_i h4; rw [if_neg h4]; simp
              · rename_i h3
                rw [if_neg h3]
                simp only at he ⊢
                split at he
                · rename_i h4; rw [if_pos h4]; simp
                · exact absurd rfl he
end Go.Sx.Lx
namespace Go.Sx.Lx
theorem run_toks : ∀ (m : Nat) (l : List UInt8) (o : Nat), l.length < m → (run o l).1.length ≤ l.length ∧ ∀ t ∈ (run o l).1, (o : Int) ≤ t.2.2 ∧ t.2.2 + t.2.1.length ≤ o + l.length := by
  intro m
  induction m with
  | zero => intro l o h; omega
  | succ m ih =>
    intro l o hm
    have hk := skp_le false l
    by_cases h : skp false l = l.length
    · rw [run_end h]; exact ⟨by simp, fun t ht => by cases ht⟩
    · have hne : l.drop (skp false l) ≠ [] := fun he => by
        have := congrArg List.length he
        rw [List.length_drop, List.length_nil] at this
        omega
      rw [run_go h]
      by_cases he : (tok (l.drop (skp false l))).2.2 = 0
      · rw [if_pos he]
        have hp := tok_pos hne he
        have htl := tok_len (l.drop (skp false l))
        rw [List.length_drop] at htl
        obtain ⟨h1, h2⟩ := ih (l.drop (skp false l + (tok (l.drop (skp false l))).2.1.length)) (o + skp false l + (tok (l.drop (skp false l))).2.1.length) (by rw [List.length_drop]; omega)
        rw [List.length_drop] at h1 h2
        refine ⟨by simp only [List.length_cons]; omega, fun t ht => ?_⟩
        rcases List.mem_cons.1 ht with rfl | ht
        · simp only; omega
        · have := h2 t ht; omega
      · rw [if_neg he]; exact ⟨by simp, fun t ht => by cases ht⟩
theorem shift_map (d : Nat) (l : List Tk) : (l.map fun t => ((t.1, t.2.1, t.2.2 + (d : Int)) : Tk)).map (fun t => (t.1, t.2.1)) = l.map fun t => (t.1, t.2.1) := by
  rw [List.map_map]; rfl
theorem alikeB_self (l : List Tk) : alikeB l l = true := (alikeB_iff l l).2 rfl
theorem map_de_to (l : List (List D)) (h : ∃ k : List Tk, l = k.map tokC) : l = (l.map deT).map tokC := by
  obtain ⟨k, rfl⟩ := h
  rw [map_deT]
end Go.Sx.Lx
namespace Go.Sx.Lx
theorem sep_35 : (List.range 256).all (fun n => !(isSep (UInt8.ofNat n)) || !(UInt8.ofNat n == 35)) = true := by decide +kernel
theorem sign_ne : ∀ s ∈ signL, s ≠ [] := by decide
theorem sep_tok {b : UInt8} (h : isSep b = true) (r : List UInt8) : (tok (b :: r)).2.2 ≠ 0 := by
  obtain ⟨h1, h2, h3, h4⟩ := sep_spec h
  have h5 : (b == 35) = false := by
    have := List.all_eq_true.1 sep_35 b.toNat (List.mem_range.2 b.toNat_lt)
    simpa [h] using this
  have h6 : (isLet b || isUnd b) = false := by
    simp only [isName, Bool.or_eq_false_iff] at h1
    simp only [h1.1.1, h1.2, Bool.or_false]
  have h7 : signOf (b :: r) = [] := by
    unfold signOf
    have : signL.find? (·.isPrefixOf (b :: r)) = none := by
      rw [List.find?_eq_none]
      intro s hs hp
      cases s with
      | nil => exact sign_ne _ hs rfl
      | cons x s =>
        have : x = b := by simp [List.isPrefixOf] at hp; exact hp.1
        exact h4 _ hs (by rw [this]; exact List.mem_cons_self ..)
    rw [this]; rfl
  simp only [tok, h6, h2, h5, Bool.false_eq_true, if_false, h7, if_true]
  decide

theorem takeWhile_idem (p : UInt8 → Bool) (l : List UInt8) : (l.takeWhile p).takeWhile p = l.takeWhile p := by
  induction l with
  | nil => rfl
  | cons b r ih =>
    rw [List.takeWhile_cons]
    split
    · rename_i h; rw [List.takeWhile_cons, if_pos h, ih]
    · rfl
theorem sign_self : ∀ s ∈ signL, signOf s = s := by decide +kernel
theorem sign_first : ∀ s ∈ signL, ∀ b ∈ s.head?, isLet b = false ∧ isUnd b = false ∧ isDig b = false ∧ (b == 35) = false := by decide +kernel
theorem signOf_mem {l : List UInt8} (h : signOf l ≠ []) : signOf l ∈ signL := by
  unfold signOf at h ⊢
  cases hf : signL.find? (·.isPrefixOf l) with
  | none => rw [hf] at h; exact absurd rfl h
  | some s => exact List.mem_of_find?_eq_some hf
/-- A token's text, read by itself, is that token. -/
theorem tok_self {l : List UInt8} (hl : l ≠ []) (h : (tok l).2.2 = 0) : tok (tok l).2.1 = tok l := by
  cases l with
  | nil => exact absurd rfl hl
  | cons b r =>
    by_cases h1 : (isLet b || isUnd b) = true
    · have e : tok (b :: r) = ((wordK ((b :: r).takeWhile isName)).1, (b :: r).takeWhile isName, (wordK ((b :: r).takeWhile isName)).2) := by simp only [tok, h1, if_true]
      have hb : isName b = true := by simp only [isName]; simp only [Bool.or_eq_true] at h1 ⊢; rcases h1 with h | h <;> simp [h]
      have e2 : (b :: r).takeWhile isName = b :: r.takeWhile isName := by rw [List.takeWhile_cons, if_pos hb]
      rw [e]
      simp only
      rw [e2]
      simp only [tok, h1, if_true]
      have e3 : (b :: r.takeWhile isName).takeWhile isName = b :: r.takeWhile isName := by rw [List.takeWhile_cons, if_pos hb, takeWhile_idem]
      rw [e3]
    · by_cases h2 : isDig b = true
      · have e : tok (b :: r) = (3, (b :: r).takeWhile isDig, numE ((b :: r).takeWhile isDig)) := by simp only [tok, h1, h2, if_true, if_false]; simp
        have e2 : (b :: r).takeWhile isDig = b :: r.takeWhile isDig := by rw [List.takeWhile_cons, if_pos h2]
        have e3 : (b :: r.takeWhile isDig).takeWhile isDig = b :: r.takeWhile isDig := by rw [List.takeWhile_cons, if_pos h2, takeWhile_idem]
        rw [e]
        simp only
        rw [e2]
        simp only [tok, h1, h2, if_true, e3]; simp
      · by_cases h3 : (b == 35) = true
        · have e : tok (b :: r) = (5, 35 :: r.takeWhile isLet, if 35 :: r.takeWhile isLet ∈ dirs then 0 else 31) := by simp only [tok, h1, h2, h3, if_true]; simp
          have hb : b = 35 := eq_of_beq h3
          subst hb
          rw [e]
          have e4 : tok (35 :: r.takeWhile isLet) = (5, 35 :: (r.takeWhile isLet).takeWhile isLet, if 35 :: (r.takeWhile isLet).takeWhile isLet ∈ dirs then 0 else 31) := by simp only [tok, h1, h2, h3, if_true]; simp
          rw [e4, takeWhile_idem]
        · have e : tok (b :: r) = (6, signOf (b :: r), if signOf (b :: r) = [] then 30 else 0) := by simp only [tok, h1, h2, h3]; simp
          rw [e] at h ⊢
          simp only at h ⊢
          by_cases hs : signOf (b :: r) = []
          · rw [if_pos hs] at h; cases h
          · have hm := signOf_mem hs
            have hself := sign_self _ hm
            have hf := sign_first _ hm
            generalize signOf (b :: r) = s at hs hm hself hf ⊢
            cases s with
            | nil => exact absurd rfl hs
            | cons x s =>
              obtain ⟨g1, g2, g3, g4⟩ := hf x rfl
              simp only [tok, g1, g2, g3, g4, Bool.or_self, Bool.false_eq_true, if_false, hself]

/-- A token that stands by itself. -/
def Val (t : Tk) : Prop := t.2.1 ≠ [] ∧ tok t.2.1 = (t.1, t.2.1, 0)
theorem val_of {l : List UInt8} (hl : l ≠ []) (h : (tok l).2.2 = 0) (a : Int) : Val ((tok l).1, (tok l).2.1, a) := by
  have hp := tok_pos hl h
  refine ⟨fun he => by rw [he] at hp; simp at hp, ?_⟩
  rw [tok_self hl h]
  exact Prod.ext rfl (Prod.ext rfl h)
theorem run_val : ∀ (m : Nat) (l : List UInt8) (o : Nat), l.length < m → ∀ t ∈ (run o l).1, Val t := by
  intro m
  induction m with
  | zero => intro l o h; omega
  | succ m ih =>
    intro l o hm
    have hk := skp_le false l
    by_cases h : skp false l = l.length
    · rw [run_end h]; intro t ht; cases ht
    · have hne : l.drop (skp false l) ≠ [] := fun he => by
        have := congrArg List.length he
        rw [List.length_drop, List.length_nil] at this
        omega
      rw [run_go h]
      by_cases he : (tok (l.drop (skp false l))).2.2 = 0
      · rw [if_pos he]
        have hp := tok_pos hne he
        intro t ht
        rcases List.mem_cons.1 ht with rfl | ht
        · exact val_of hne he _
        · exact ih (l.drop (skp false l + (tok (l.drop (skp false l))).2.1.length)) _ (by rw [List.length_drop]; omega) t ht
      · rw [if_neg he]; intro t ht; cases ht

/-- It begins with a separator, or is empty. -/
def Sepd (r : List UInt8) : Prop := r = [] ∨ ∃ c q, r = c :: q ∧ isSep c = true
theorem val_tok {t : Tk} (h : Val t) {r : List UInt8} (hr : Sepd r) : tok (t.2.1 ++ r) = (t.1, t.2.1, 0) := by
  rcases hr with rfl | ⟨c, q, rfl, hc⟩
  · rw [List.append_nil]; exact h.2
  · rw [tok_sep hc h.1]; exact h.2
theorem val_head {t : Tk} (h : Val t) : ∃ b r, t.2.1 = b :: r ∧ isSep b = false := by
  obtain ⟨h1, h2⟩ := h
  cases hs : t.2.1 with
  | nil => exact absurd hs h1
  | cons b r =>
    refine ⟨b, r, rfl, ?_⟩
    rw [hs] at h2
    cases hb : isSep b with
    | false => rfl
    | true => exact absurd (by rw [h2]) (sep_tok hb r)
theorem skp_head {b : UInt8} (h : isSep b = false) (r : List UInt8) : skp false (b :: r) = 0 := by
  simp only [isSep, Bool.or_eq_false_iff] at h
  simp only [skp, h.1, h.2, Bool.false_eq_true, if_false]
/-- A gap: blanks and comments that end before what is no separator. -/
def Gap (g : List UInt8) : Prop := ∀ b r, isSep b = false → skp false (g ++ b :: r) = g.length
theorem run_piece {g : List UInt8} {t : Tk} {r : List UInt8} (hg : Gap g) (ht : Val t) (hr : Sepd r) (o : Nat) :
    run o (g ++ (t.2.1 ++ r)) = ((t.1, t.2.1, ((o + g.length : Nat) : Int)) :: (run (o + g.length + t.2.1.length) r).1, (run (o + g.length + t.2.1.length) r).2) := by
  obtain ⟨b, q, hb, hs⟩ := val_head ht
  have h1 : skp false (g ++ (t.2.1 ++ r)) = g.length := by rw [hb]; exact hg b (q ++ r) hs
  have h2 : (g ++ (t.2.1 ++ r)).drop g.length = t.2.1 ++ r := List.drop_left' rfl
  have hlt : 0 < t.2.1.length := by rw [hb]; simp
  rw [run_go (by rw [h1]; simp only [List.length_append]; omega), h1, h2, val_tok ht hr, if_pos rfl]
  have h3 : (g ++ (t.2.1 ++ r)).drop (g.length + t.2.1.length) = r := by rw [← List.drop_drop, h2, List.drop_left' rfl]
  rw [h3]
theorem gap_nil : Gap [] := fun b r h => by simpa using skp_head h r
theorem gap_blank {c : UInt8} (h : isBlank c = true) {g : List UInt8} (hg : Gap g) : Gap (c :: g) := fun b r hb => by
  simp only [List.cons_append, skp, h, if_true, hg b r hb, List.length_cons]; omega

/-- The texts behind each other, a blank ahead of each. -/
def tailJ : List Tk → List UInt8
  | [] => []
  | t :: r => 32 :: (t.2.1 ++ tailJ r)
theorem tailJ_sep (l : List Tk) : Sepd (tailJ l) := by
  cases l with
  | nil => exact .inl rfl
  | cons t r => exact .inr ⟨32, _, rfl, rfl⟩
theorem run_tailJ : ∀ (l : List Tk) (o : Nat), (∀ t ∈ l, Val t) → (run o (tailJ l)).2.1 = none ∧ alikeB l (run o (tailJ l)).1 = true
  | [], o, _ => by
    have : run o (tailJ []) = ([], none, o + 0) := run_end rfl
    rw [this]; exact ⟨rfl, rfl⟩
  | t :: r, o, h => by
    have hp := run_piece (gap_blank (c := 32) rfl gap_nil) (h t (List.mem_cons_self ..)) (tailJ_sep r) o
    obtain ⟨h1, h2⟩ := run_tailJ r (o + [(32 : UInt8)].length + t.2.1.length) fun x hx => h x (List.mem_cons_of_mem _ hx)
    have e : tailJ (t :: r) = [32] ++ (t.2.1 ++ tailJ r) := rfl
    rw [e, hp]
    refine ⟨h1, ?_⟩
    simp only [alikeB, decide_true, Bool.and_self, Bool.true_and]
    exact h2
theorem joinTail_eq : ∀ l : List Tk, Lib.joinTail [32] (l.map (·.2.1)) = tailJ l
  | [] => rfl
  | t :: r => by
    have := joinTail_eq r
    simp [Lib.joinTail, tailJ] at this ⊢
    exact this
theorem join_tail (t : Tk) (r : List Tk) : Lib.join ((t :: r).map (·.2.1)) [32] = t.2.1 ++ tailJ r := by
  rw [List.map_cons, Lib.join_cons, joinTail_eq]
theorem run_join (l : List Tk) (h : ∀ t ∈ l, Val t) : (run 0 (Lib.join (l.map (·.2.1)) [32])).2.1 = none ∧ alikeB l (run 0 (Lib.join (l.map (·.2.1)) [32])).1 = true := by
  cases l with
  | nil =>
    rw [List.map_nil, Lib.join_nil]
    have : run 0 [] = ([], none, 0 + 0) := run_end rfl
    rw [this]; exact ⟨rfl, rfl⟩
  | cons t r =>
    rw [join_tail]
    have hp := run_piece gap_nil (h t (List.mem_cons_self ..)) (tailJ_sep r) 0
    obtain ⟨h1, h2⟩ := run_tailJ r (0 + ([] : List UInt8).length + t.2.1.length) fun x hx => h x (List.mem_cons_of_mem _ hx)
    rw [List.nil_append] at hp
    rw [hp]
    refine ⟨h1, ?_⟩
    simp only [alikeB, decide_true, Bool.and_self, Bool.true_and]
    exact h2
theorem tailJ_len : ∀ (l : List Tk) (B : Nat), (∀ t ∈ l, t.2.1.length ≤ B) → (tailJ l).length ≤ l.length * (B + 1)
  | [], B, _ => by simp [tailJ]
  | t :: r, B, h => by
    have h1 := h t (List.mem_cons_self ..)
    have h2 := tailJ_len r B fun x hx => h x (List.mem_cons_of_mem _ hx)
    simp only [tailJ, List.length_cons, List.length_append]
    rw [Nat.add_mul, Nat.one_mul]
    omega

/-- What is skipped is blanks and comments. -/
theorem skp_empty : ∀ (c : Bool) (l : List UInt8), emptyB c (l.take (skp c l)) = true
  | _, [] => by simp [skp, emptyB]
  | false, b :: r => by
    have h1 := skp_empty false r
    have h2 := skp_empty true r
    simp only [skp]
    split
    · rename_i hb
      rw [Nat.add_comm, List.take_succ_cons]
      simp only [emptyB]
      simp only [isBlank, Bool.or_eq_true, beq_iff_eq] at hb
      rcases hb with ((rfl | rfl) | rfl) | rfl <;> simp [h1]
    split
    · rename_i hb
      rw [Nat.add_comm, List.take_succ_cons]
      have hb := eq_of_beq hb
      subst hb
      simp [emptyB, h2]
    · simp [emptyB]
  | true, b :: r => by
    have h1 := skp_empty false r
    have h2 := skp_empty true r
    simp only [skp]
    split
    · rename_i hb
      rw [Nat.add_comm, List.take_succ_cons]
      have hb := eq_of_beq hb
      subst hb
      simp [emptyB, h1]
    · rename_i hb
      rw [Nat.add_comm, List.take_succ_cons]
      have hb : b ≠ 10 := fun h => hb (by simp [h])
      simp [emptyB, hb, h2]
/-- The tokens stand in the source, from a place on, with blanks and comments between. -/
def Occ (s : List UInt8) : Nat → List Tk → Prop
  | i, [] => emptyB false (s.drop i) = true
  | i, t :: r => ∃ n : Nat, t.2.2 = (n : Int) ∧ i ≤ n ∧ n + t.2.1.length ≤ s.length ∧ (s.drop n).take t.2.1.length = t.2.1 ∧ emptyB false ((s.take n).drop i) = true ∧ Occ s (n + t.2.1.length) r
theorem tok_take (l : List UInt8) : l.take (tok l).2.1.length = (tok l).2.1 := by
  cases l with
  | nil => simp [tok]
  | cons b r =>
    have tw : ∀ (p : UInt8 → Bool) (l : List UInt8), l.take (l.takeWhile p).length = l.takeWhile p := fun p l => (List.prefix_iff_eq_take.1 (List.takeWhile_prefix p)).symm
    unfold tok
    simp only
    split
    · exact tw _ _
    split
    · exact tw _ _
    split
    · rename_i h; rw [eq_of_beq h]; simp [tw]
    · simp only [signOf]
      cases hf : signL.find? (·.isPrefixOf (b :: r)) with
      | none => simp
      | some s =>
        have := List.find?_some hf
        exact (List.prefix_iff_eq_take.1 (List.isPrefixOf_iff_prefix.1 this)).symm
theorem run_occ (s : List UInt8) : ∀ (m o : Nat), s.length - o < m → o ≤ s.length → (run o (s.drop o)).2.1 = none → Occ s o (run o (s.drop o)).1 := by
  intro m
  induction m with
  | zero => intro o h; omega
  | succ m ih =>
    intro o hm ho hn
    have hk := skp_le false (s.drop o)
    have hem := skp_empty false (s.drop o)
    rw [List.length_drop] at hk
    by_cases h : skp false (s.drop o) = (s.drop o).length
    · rw [run_end h]
      rw [h, List.take_length] at hem
      exact hem
    · have hne : (s.drop o).drop (skp false (s.drop o)) ≠ [] := fun he => by
        have := congrArg List.length he
        rw [List.length_drop, List.length_nil] at this
        have := skp_le false (s.drop o)
        omega
      rw [List.length_drop] at h
      rw [run_go (by rw [List.length_drop]; exact h)] at hn ⊢
      by_cases he : (tok ((s.drop o).drop (skp false (s.drop o)))).2.2 = 0
      · rw [if_pos he] at hn ⊢
        have hp := tok_pos hne he
        have htl := tok_len ((s.drop o).drop (skp false (s.drop o)))
        have htk := tok_take ((s.drop o).drop (skp false (s.drop o)))
        rw [List.length_drop, List.length_drop] at htl
        rw [List.drop_drop] at hn hp htl htk ⊢
        have ed : (s.drop o).drop (skp false (s.drop o) + (tok (s.drop (o + skp false (s.drop o)))).2.1.length) = s.drop (o + skp false (s.drop o) + (tok (s.drop (o + skp false (s.drop o)))).2.1.length) := by
          rw [List.drop_drop, Nat.add_assoc]
        rw [ed] at hn ⊢
        have hx := ih (o + skp false (s.drop o) + (tok (s.drop (o + skp false (s.drop o)))).2.1.length) (by omega) (by omega) hn
        refine ⟨o + skp false (s.drop o), rfl, by omega, by simp only; omega, htk, ?_, hx⟩
        have : (s.take (o + skp false (s.drop o))).drop o = (s.drop o).take (skp false (s.drop o)) := by rw [List.drop_take]; congr 1; omega
        rw [this]; exact hem
      · rw [if_neg he] at hn; cases hn
end Go.Sx.Lx
namespace Go.Sx.Lx
theorem run_lens : ∀ (m : Nat) (l : List UInt8) (o : Nat), l.length < m → Lib.lens ((run o l).1.map (·.2.1)) ≤ l.length := by
  intro m
  induction m with
  | zero => intro l o h; omega
  | succ m ih =>
    intro l o hm
    have hk := skp_le false l
    by_cases h : skp false l = l.length
    · rw [run_end h]; simp [Lib.lens]
    · have hne : l.drop (skp false l) ≠ [] := fun he => by
        have := congrArg List.length he
        rw [List.length_drop, List.length_nil] at this
        omega
      rw [run_go h]
      by_cases he : (tok (l.drop (skp false l))).2.2 = 0
      · rw [if_pos he]
        have hp := tok_pos hne he
        have htl := tok_len (l.drop (skp false l))
        rw [List.length_drop] at htl
        have h1 := ih (l.drop (skp false l + (tok (l.drop (skp false l))).2.1.length)) (o + skp false l + (tok (l.drop (skp false l))).2.1.length) (by rw [List.length_drop]; omega)
        rw [List.length_drop] at h1
        simp only [Lib.lens, List.map_cons, List.sum_cons] at h1 ⊢
        omega
      · rw [if_neg he]; simp [Lib.lens]
theorem join_le (l : List Tk) : (Lib.join (l.map (·.2.1)) [32]).length ≤ l.length + Lib.lens (l.map (·.2.1)) := by
  cases l with
  | nil => simp [Lib.join_nil]
  | cons t r =>
    rw [List.map_cons, Lib.join_length]
    simp
end Go.Sx.Lx
namespace Go.Sx.Lx
def fills : List (List UInt8) := [[32], [10], [9, 32], [37, 10], [32, 37, 32, 97, 46, 32, 35, 120, 10], [13, 10]]
/-- The end that is appended. -/
def theEnd : List UInt8 := [32, 37, 32, 116, 104, 101, 32, 101, 110, 100]
def pickF (g : Int) : Int := pickG g 6
theorem pickF_lt (g : Int) : 0 ≤ pickF g ∧ pickF g < 6 := by
  have h1 := Int.tmod_lt_of_pos g (b := 6) (by omega)
  have h2 := Int.tmod_lt_of_pos (-g) (b := 6) (by omega)
  rw [Int.neg_tmod] at h2
  unfold pickF pickG
  split <;> omega
def fillOf (g : Int) : List UInt8 := fills.getD (pickF g).toNat []
theorem fillOf_mem (g : Int) : fillOf g ∈ fills := by
  have h := pickF_lt g
  unfold fillOf
  rw [List.getD_eq_getElem?_getD, List.getElem?_eq_getElem (by have : fills.length = 6 := rfl; omega), Option.getD_some]
  exact List.getElem_mem _
theorem fill_gap : ∀ f ∈ fills, Gap f ∧ (∃ c q, f = c :: q ∧ isSep c = true) ∧ f.length ≤ 9 := by
  intro f hf
  simp only [fills, List.mem_cons, List.not_mem_nil, or_false] at hf
  rcases hf with rfl | rfl | rfl | rfl | rfl | rfl
  all_goals refine ⟨fun b r hb => ?_, ⟨_, _, rfl, rfl⟩, by decide⟩
  all_goals
    have h0 : skp false (b :: r) = 0 := skp_head hb r
    simp only [List.cons_append, List.nil_append]
    generalize b :: r = x at h0
    simp [skp, isBlank, h0]
def gapF (gs : List Int) (i : Nat) : Int := if i < gs.length then gs.getD i 0 else i
/-- The tokens with gaps ahead of them, the end. -/
def tailB (gs : List Int) : Nat → List Tk → List UInt8
  | _, [] => theEnd
  | i, t :: r => fillOf (gapF gs i) ++ (t.2.1 ++ tailB gs (i + 1) r)
def offB (gs : List Int) : Nat → Nat → List Tk → List Int
  | _, _, [] => []
  | i, o, t :: r => ((o + (fillOf (gapF gs i)).length : Nat) : Int) :: offB gs (i + 1) (o + (fillOf (gapF gs i)).length + t.2.1.length) r
def finB (gs : List Int) : Nat → List Tk → List UInt8 → List Int → List UInt8 × List Int
  | _, [], s, o => (s, o)
  | i, t :: r, s, o => finB gs (i + 1) r (s ++ fillOf (gapF gs i) ++ t.2.1) (o ++ [((s ++ fillOf (gapF gs i)).length : Int)])
theorem finB_eq (gs : List Int) : ∀ (l : List Tk) (i : Nat) (s : List UInt8) (o : List Int), (finB gs i l s o).1 ++ theEnd = s ++ tailB gs i l ∧ (finB gs i l s o).2 = o ++ offB gs i s.length l
  | [], i, s, o => by simp [finB, tailB, offB]
  | t :: r, i, s, o => by
    obtain ⟨h1, h2⟩ := finB_eq gs r (i + 1) (s ++ fillOf (gapF gs i) ++ t.2.1) (o ++ [((s ++ fillOf (gapF gs i)).length : Int)])
    simp only [finB, tailB, offB]
    rw [h1, h2]
    simp [Nat.add_assoc]
theorem tailB_sep (gs : List Int) (i : Nat) (l : List Tk) : Sepd (tailB gs i l) := by
  cases l with
  | nil => exact .inr ⟨32, _, rfl, rfl⟩
  | cons t r =>
    obtain ⟨_, ⟨c, q, h, hc⟩, _⟩ := fill_gap _ (fillOf_mem (gapF gs i))
    exact .inr ⟨c, q ++ (t.2.1 ++ tailB gs (i + 1) r), by simp only [tailB, h, List.cons_append], hc⟩
theorem run_tailB (gs : List Int) : ∀ (l : List Tk) (i o : Nat), (∀ t ∈ l, Val t) → (run o (tailB gs i l)).2.1 = none ∧ alikeB l (run o (tailB gs i l)).1 = true ∧ (run o (tailB gs i l)).1.map (·.2.2) = offB gs i o l
  | [], i, o, _ => by
    have : run o (tailB gs i []) = ([], none, o + theEnd.length) := run_end (l := theEnd) (by decide)
    rw [this]; exact ⟨rfl, rfl, rfl⟩
  | t :: r, i, o, h => by
    obtain ⟨hg, _, _⟩ := fill_gap _ (fillOf_mem (gapF gs i))
    have hp := run_piece hg (h t (List.mem_cons_self ..)) (tailB_sep gs (i + 1) r) o
    obtain ⟨h1, h2, h3⟩ := run_tailB gs r (i + 1) (o + (fillOf (gapF gs i)).length + t.2.1.length) fun x hx => h x (List.mem_cons_of_mem _ hx)
    have e : tailB gs i (t :: r) = fillOf (gapF gs i) ++ (t.2.1 ++ tailB gs (i + 1) r) := rfl
    rw [e, hp]
    refine ⟨h1, ?_, ?_⟩
    · simp only [alikeB, decide_true, Bool.and_self, Bool.true_and]
      exact h2
    · simp only [List.map_cons, offB, h3]
theorem offB_len (gs : List Int) : ∀ (l : List Tk) (i o : Nat), (offB gs i o l).length = l.length
  | [], _, _ => rfl
  | t :: r, i, o => by simp [offB, offB_len gs r]
end Go.Sx.Lx

/- The reference model's lexer, plainly: its tests are the lexer's. -/
namespace Go.Sx.Lx
open Go.Sx
theorem dropWhile_drop (p : UInt8 → Bool) : ∀ s : List UInt8, s.dropWhile p = s.drop (s.takeWhile p).length
  | [] => rfl
  | b :: r => by
    rw [List.dropWhile_cons, List.takeWhile_cons]
    split
    · rw [List.length_cons, List.drop_succ_cons, dropWhile_drop p r]
    · rfl
theorem runTo_zero (p : UInt8 → Bool) (s : List UInt8) : runTo p s 0 = (s.takeWhile p).length := by unfold runTo; rw [List.drop_zero, Nat.zero_add]
theorem wordB_eq (first : UInt8 → Bool) (s : List UInt8) : wordB first s = (decide (runTo isUnd s 0 < s.length) && first (s.getD (runTo isUnd s 0) 0) && ((s.drop (runTo isUnd s 0)).all isName && decide (s.length ≤ 32))) := by
  unfold wordB
  rw [dropWhile_drop, ← runTo_zero]
  by_cases h : runTo isUnd s 0 < s.length
  · rw [drop_getD (d := 0) h, decide_eq_true h, Bool.true_and]
    simp only [Bool.and_assoc]
  · rw [List.drop_eq_nil_of_le (by omega), decide_eq_false h]; rfl
theorem dig_und : (List.range 256).all (fun n => !(isDig (UInt8.ofNat n)) || (!(isUnd (UInt8.ofNat n)) && !(isUp (UInt8.ofNat n)))) = true := by decide +kernel
theorem dig_spec {b : UInt8} (h : isDig b = true) : isUnd b = false ∧ isUp b = false := by
  have := List.all_eq_true.1 dig_und b.toNat (List.mem_range.2 b.toNat_lt)
  rw [UInt8.ofNat_toNat] at this
  rw [h] at this
  simpa using this
theorem isUnd_iff (b : UInt8) : isUnd b = true ↔ b = 95 := by simp [isUnd]
/-- 'Variable' of the reference model. -/
def varR (s : List UInt8) : Bool :=
  if runTo isUnd s 0 < s.length ∧ isUp (s.getD (runTo isUnd s 0) 0) = true then (s.drop (runTo isUnd s 0)).all isName && decide (s.length ≤ 32)
  else if runTo isUnd s 0 = 1 ∧ s.length ≤ 32 then (s.drop 1).all isDig else false
theorem varR_eq (s : List UInt8) : varR s = variableB s := by
  unfold varR variableB
  rw [wordB_eq]
  by_cases h : runTo isUnd s 0 < s.length ∧ isUp (s.getD (runTo isUnd s 0) 0) = true
  · rw [if_pos h, decide_eq_true h.1, h.2, Bool.true_and, Bool.true_and]
    suffices hx : ∀ (t : List UInt8), s = 95 :: t → t.all isDig = false by
      split
      · rename_i t; rw [hx t rfl]; simp
      · simp
    rintro t rfl
    rw [runTo_zero, List.takeWhile_cons, if_pos (show isUnd 95 = true from rfl)] at h
    simp only [List.length_cons, List.getD_cons_succ] at h
    have h1 : (t.takeWhile isUnd).length < t.length := by omega
    cases ha : t.all isDig with
    | false => rfl
    | true =>
      have := List.all_eq_true.1 ha (t.getD (t.takeWhile isUnd).length 0) (by rw [List.getD_eq_getElem?_getD, List.getElem?_eq_getElem h1]; exact List.getElem_mem h1)
      rw [(dig_spec this).2] at h
      exact absurd h.2 (by simp)
  · rw [if_neg h]
    have hw : (decide (runTo isUnd s 0 < s.length) && isUp (s.getD (runTo isUnd s 0) 0)) = false := by
      cases h1 : decide (runTo isUnd s 0 < s.length) with
      | false => rfl
      | true =>
        cases h2 : isUp (s.getD (runTo isUnd s 0) 0) with
        | false => rfl
        | true => exact absurd ⟨of_decide_eq_true h1, h2⟩ h
    rw [hw, Bool.false_and, Bool.false_or]
    cases s with
    | nil => simp [runTo]
    | cons b t =>
      by_cases hb : b = 95
      · subst hb
        have e : runTo isUnd (95 :: t) 0 = (t.takeWhile isUnd).length + 1 := by rw [runTo_zero, List.takeWhile_cons, if_pos (show isUnd 95 = true from rfl)]; rfl
        rw [e]
        simp only [List.drop_succ_cons, List.drop_zero]
        by_cases ht : (t.takeWhile isUnd).length = 0
        · by_cases hl : (95 :: t : List UInt8).length ≤ 32
          · rw [if_pos ⟨by omega, hl⟩, decide_eq_true hl, Bool.and_true]
          · rw [if_neg (fun h => hl h.2), decide_eq_false hl, Bool.and_false]
        · rw [if_neg (fun h => ht (by omega))]
          cases t with
          | nil => exact absurd rfl ht
          | cons c q =>
            have hc : isUnd c = true := by
              cases hc : isUnd c with
              | true => rfl
              | false => rw [List.takeWhile_cons, if_neg (by simp [hc])] at ht; exact absurd rfl ht
            have hd : isDig c = false := by
              cases hd : isDig c with
              | false => rfl
              | true => rw [(dig_spec hd).1] at hc; cases hc
            simp [hd]
      · have e : runTo isUnd (b :: t) 0 = 0 := by
          rw [runTo_zero, List.takeWhile_cons, if_neg (by rw [isUnd_iff]; exact hb)]; rfl
        rw [e, if_neg (by simp)]
        split
        · rename_i heq; cases heq; exact absurd rfl hb
        · rfl
theorem symbolB_ref (s : List UInt8) : symbolB s = (decide (runTo isUnd s 0 < s.length) && isLow (s.getD (runTo isUnd s 0) 0) && ((s.drop (runTo isUnd s 0)).all isName && decide (s.length ≤ 32)) && !decide (s = notS)) := by
  unfold symbolB
  rw [wordB_eq]
  by_cases h : s = notS <;> simp [h]
end Go.Sx.Lx

/- Numbers and signs of the reference model. -/
namespace Go.Sx.Lx
open Go.Sx
def valN (a : Nat) (l : List UInt8) : Nat := l.foldl (fun a c => a * 10 + (c.toNat - 48)) a
theorem valN_cons (a : Nat) (c : UInt8) (r : List UInt8) : valN a (c :: r) = valN (a * 10 + (c.toNat - 48)) r := by unfold valN; rw [List.foldl_cons]
theorem valN_nil (a : Nat) : valN a [] = a := by unfold valN; rw [List.foldl_nil]
attribute [irreducible] valN
theorem valN_le (l : List UInt8) : ∀ (a : Nat), a ≤ valN a l := by
  induction l with
  | nil => intro a; rw [valN_nil]; exact Nat.le_refl _
  | cons c r ih =>
    intro a
    rw [valN_cons]
    exact Nat.le_trans (by omega) (ih _)
theorem valN_app (l r : List UInt8) : ∀ (a : Nat), valN a (l ++ r) = valN (valN a l) r := by
  induction l with
  | nil => intro a; rw [valN_nil]; rfl
  | cons c l ih => intro a; rw [List.cons_append, valN_cons, valN_cons, ih]
theorem isDig_iff (b : UInt8) : isDig b = true ↔ 48 ≤ b.toNat ∧ b.toNat ≤ 57 := by simp [isDig]
theorem parse_ok : ∀ (l : List UInt8) (a u : Nat), Lib.parseUint10 a l = .ok u → u = valN a l
  | [], a, u, h => by simp only [Lib.parseUint10] at h; cases h; rw [valN_nil]
  | c :: r, a, u, h => by
    simp only [Lib.parseUint10] at h
    split at h
    · split at h
      · cases h
      · split at h
        · cases h
        · rw [valN_cons]; exact parse_ok r _ u h
    · cases h
theorem parse_small : ∀ (l : List UInt8) (a : Nat), l.all isDig = true → valN a l ≤ 2147483647 → Lib.parseUint10 a l = .ok (valN a l)
  | [], a, _, _ => by rw [valN_nil]; rfl
  | c :: r, a, hd, hv => by
    rw [List.all_cons, Bool.and_eq_true, isDig_iff] at hd
    rw [valN_cons] at hv
    have h1 := valN_le r (a * 10 + (c.toNat - 48))
    simp only [Lib.parseUint10]
    rw [valN_cons]
    rw [if_pos hd.1, if_neg (by omega), if_neg (by omega)]
    exact parse_small r _ hd.2 hv
theorem dec_val : ∀ (m : Nat) (l : List UInt8), l.length = m → l ≠ [] → l.all isDig = true → (Lib.decDigits (valN 0 l) = l ↔ l.length = 1 ∨ l.head? ≠ some 48) := by
  intro m
  induction m with
  | zero => intro l h hn; exact absurd (List.length_eq_zero_iff.1 h) hn
  | succ m ih =>
    intro l hl hne hd
    obtain ⟨q, c, rfl⟩ : ∃ q c, l = q ++ [c] := ⟨l.dropLast, l.getLast hne, (List.dropLast_concat_getLast hne).symm⟩
    rw [List.length_append, List.length_singleton] at hl
    rw [List.all_append, Bool.and_eq_true] at hd
    have hc : 48 ≤ c.toNat ∧ c.toNat ≤ 57 := by
      have := hd.2
      rw [List.all_cons, List.all_nil, Bool.and_true, isDig_iff] at this
      exact this
    rw [valN_app, valN_cons, valN_nil]
    have hcc : UInt8.ofNat (48 + (c.toNat - 48)) = c := by rw [show 48 + (c.toNat - 48) = c.toNat by omega]; simp
    cases q with
    | nil =>
      simp only [valN_nil, Nat.zero_mul, Nat.zero_add, List.nil_append, List.length_singleton, true_or, iff_true]
      rw [Lib.decDigits_one (by omega), hcc]
    | cons b r =>
      have hih := ih (b :: r) (by omega) (by simp) hd.1
      have hb : 48 ≤ b.toNat ∧ b.toNat ≤ 57 := by
        have := hd.1
        rw [List.all_cons, Bool.and_eq_true, isDig_iff] at this
        exact this.1
      have hge := valN_le r (0 * 10 + (b.toNat - 48))
      have hv : valN 0 (b :: r) = valN (0 * 10 + (b.toNat - 48)) r := valN_cons _ _ _
      by_cases h0 : valN 0 (b :: r) = 0
      · have hb0 : b = 48 := UInt8.toNat_inj.1 (by have : (48 : UInt8).toNat = 48 := rfl; omega)
        rw [h0, Nat.zero_mul, Nat.zero_add, Lib.decDigits_one (by omega)]
        constructor
        · intro h; have := congrArg List.length h; simp at this
        · rintro (h | h)
          · simp at h
          · rw [hb0] at h; simp at h
      · have hten : ¬ valN 0 (b :: r) * 10 + (c.toNat - 48) < 10 := by omega
        rw [Lib.decDigits, dif_neg hten, show (valN 0 (b :: r) * 10 + (c.toNat - 48)) / 10 = valN 0 (b :: r) by omega, show (valN 0 (b :: r) * 10 + (c.toNat - 48)) % 10 = c.toNat - 48 by omega, hcc]
        rw [List.append_left_inj, hih]
        constructor
        · rintro (h | h)
          · right
            simp only [List.cons_append, List.head?_cons, ne_eq, Option.some.injEq]
            rintro rfl
            have hr : r = [] := by cases r with
              | nil => rfl
              | cons x y => simp at h
            subst hr
            exact h0 (by rw [valN_cons, valN_nil]; rfl)
          · right; simpa using h
        · rintro (h | h)
          · simp at h
          · right; simpa using h
theorem itoa_nat (n : Nat) : Lib.itoa (n : Int) = Lib.decDigits n := by
  unfold Lib.itoa
  rw [if_neg (by omega), Int.toNat_natCast]
theorem numE_iff {s : List UInt8} (hne : s ≠ []) (hd : s.all isDig = true) : numE s = 0 ↔ valN 0 s ≤ 2147483647 ∧ (s.length = 1 ∨ s.head? ≠ some 48) := by
  rw [← dec_val _ s rfl hne hd]
  unfold numE
  cases s with
  | nil => exact absurd rfl hne
  | cons c r =>
    have hc : 48 ≤ c.toNat ∧ c.toNat ≤ 57 := by
      rw [List.all_cons, Bool.and_eq_true, isDig_iff] at hd; exact hd.1
    simp only [Lib.atoiAll]
    rw [if_neg (show ¬ (c.toNat = 43 ∨ c.toNat = 45) by omega)]
    simp only [Lib.parseMag, if_neg (List.cons_ne_nil c r), show ¬ c.toNat = 45 by omega, not_false_iff, true_and, false_and, if_false]
    by_cases hv : valN 0 (c :: r) ≤ 2147483647
    · rw [parse_small _ _ hd hv]
      simp only
      rw [if_neg (by omega)]
      simp only
      rw [if_neg (by omega), itoa_nat]
      by_cases hx : Lib.decDigits (valN 0 (c :: r)) = c :: r
      · rw [if_pos hx]; simp [hx, hv]
      · rw [if_neg hx]; simp [hx]
    · constructor
      · intro h
        exfalso
        cases hp : Lib.parseUint10 0 (c :: r)
        case ok u =>
          have := parse_ok _ _ _ hp
          rw [hp] at h
          simp only at h
          split at h
          · rename_i n heq
            split at heq
            · cases heq
            · cases heq
              rw [if_pos (by omega)] at h; cases h
          · cases h
        all_goals (rw [hp] at h; simp at h)
      · exact fun h => absurd h.1 hv
def twoL : List (List UInt8) := [[58, 45], [58, 126], [46, 46], [33, 61], [60, 61], [62, 61]]
def oneL : List UInt8 := [58, 46, 44, 59, 124, 40, 41, 123, 125, 91, 93, 61, 60, 62, 43, 45, 42, 47, 92, 64]
theorem sign_heads : ∀ s ∈ signL, ∃ h ∈ s.head?, h ∈ 33 :: oneL := by decide +kernel
theorem sign_two : ∀ b ∈ 33 :: oneL, ∀ c ∈ ([45, 126, 46, 61] : List UInt8), (signOf [b, c]).length = if [b, c] ∈ twoL then 2 else if b ∈ oneL then 1 else 0 := by decide +kernel
theorem sign_one : ∀ b ∈ 33 :: oneL, (signOf [b]).length = if [b] ∈ twoL then 2 else if b ∈ oneL then 1 else 0 := by decide +kernel
theorem sign_lens : ∀ s ∈ signL, s.length = 1 ∨ (s.length = 2 ∧ s.getD 1 0 ∈ ([45, 126, 46, 61] : List UInt8)) := by decide +kernel
theorem two_lens : ∀ s ∈ twoL, s.length = 2 ∧ s.getD 1 0 ∈ ([45, 126, 46, 61] : List UInt8) := by decide +kernel
theorem two_fst : ∀ s ∈ twoL, s.getD 0 0 ∈ 33 :: oneL := by decide +kernel
theorem one_sub : ∀ b ∈ oneL, b ∈ 33 :: oneL := fun b h => List.mem_cons_of_mem _ h
theorem signOf_len (b : UInt8) (r : List UInt8) : (signOf (b :: r)).length = if (b :: r).take 2 ∈ twoL then 2 else if b ∈ oneL then 1 else 0 := by
  by_cases hb : b ∈ 33 :: oneL
  · cases r with
    | nil => exact sign_one b hb
    | cons c q =>
      by_cases hc : c ∈ ([45, 126, 46, 61] : List UInt8)
      · have e : signOf (b :: c :: q) = signOf [b, c] := by
          unfold signOf
          rw [find_congr fun s hs => ?_]
          rcases sign_lens s hs with h | ⟨h, _⟩
          · match s, h with
            | [x], _ => simp [List.isPrefixOf]
          · match s, h with
            | [x, y], _ => simp [List.isPrefixOf]
        rw [e]; exact sign_two b hb c hc
      · have e : signOf (b :: c :: q) = signOf [b] := by
          unfold signOf
          rw [find_congr fun s hs => ?_]
          rcases sign_lens s hs with h | ⟨h, h2⟩
          · match s, h with
            | [x], _ => simp [List.isPrefixOf]
          · match s, h, h2 with
            | [x, y], _, h2 =>
              have hy : (y == c) = false := by
                cases hyc : y == c with
                | false => rfl
                | true => rw [beq_iff_eq] at hyc; subst hyc; exact absurd h2 hc
              simp [List.isPrefixOf, hy]
        rw [e, sign_one b hb]
        have n1 : ¬ ([b] ∈ twoL) := fun h => by have := (two_lens _ h).1; simp at this
        have n2 : ¬ ((b :: c :: q).take 2 ∈ twoL) := fun h => hc (two_lens _ h).2
        rw [if_neg n1, if_neg n2]
  · have e : signOf (b :: r) = [] := by
      unfold signOf
      rw [List.find?_eq_none.2 fun s hs => ?_]
      · rfl
      · obtain ⟨h, hh, hm⟩ := sign_heads s hs
        cases s with
        | nil => cases hh
        | cons x y =>
          simp only [List.head?_cons, Option.mem_def, Option.some.injEq] at hh
          subst hh
          simp only [List.isPrefixOf, Bool.and_eq_true, beq_iff_eq, not_and]
          rintro rfl
          exact absurd hm hb
    rw [e, if_neg (fun h => hb (two_fst ((b :: r).take 2) h)), if_neg (fun h => hb (one_sub b h))]
    rfl
end Go.Sx.Lx

/- The lexer's run, byte by byte. -/
namespace Go.Sx.Lx
open Go.Sx
theorem runAt_eq (s : List UInt8) (i : Nat) : run i (s.drop i) = toksF (s.length + 1) (skipTo s i) (s.drop (skipTo s i)) := by
  unfold run
  rw [List.drop_drop]
  have h := skp_le false (s.drop i)
  show toksF _ (skipTo s i) (s.drop (skipTo s i)) = _
  exact toksF_fuel _ _ _ _ (by unfold skipTo; simp only [List.length_drop]; omega) (by simp only [List.length_drop]; omega)
theorem runAt_congr {s : List UInt8} {i j : Nat} (h : skipTo s i = skipTo s j) : run i (s.drop i) = run j (s.drop j) := by rw [runAt_eq, runAt_eq, h]
theorem runAt_end {s : List UInt8} {i : Nat} (h : s.length ≤ i) : (run i (s.drop i)).1 = [] ∧ (run i (s.drop i)).2.1 = none := by
  rw [List.drop_eq_nil_of_le h]; exact ⟨rfl, rfl⟩
theorem runAt_blank {s : List UInt8} {i : Nat} (h : i < s.length) (hb : isBlank (s.getD i 0) = true) : run i (s.drop i) = run (i + 1) (s.drop (i + 1)) := by
  refine runAt_congr ?_
  rw [skipTo_blank s i, runTo_step h hb, ← skipTo_blank]
theorem runAt_cmt {s : List UInt8} {i : Nat} (h : i < s.length) (hb : s.getD i 0 = 37) : run i (s.drop i) = run (runTo inLine s i) (s.drop (runTo inLine s i)) :=
  runAt_congr (skipTo_cmt h hb)
theorem runAt_tok {s : List UInt8} {i : Nat} (h : i < s.length) (h1 : isBlank (s.getD i 0) = false) (h2 : s.getD i 0 ≠ 37) :
    ((tok (s.drop i)).2.2 = 0 → (run i (s.drop i)).1 = ((tok (s.drop i)).1, (tok (s.drop i)).2.1, (i : Int)) :: (run (i + (tok (s.drop i)).2.1.length) (s.drop (i + (tok (s.drop i)).2.1.length))).1 ∧
      (run i (s.drop i)).2.1 = (run (i + (tok (s.drop i)).2.1.length) (s.drop (i + (tok (s.drop i)).2.1.length))).2.1) ∧
    ((tok (s.drop i)).2.2 ≠ 0 → (run i (s.drop i)).2.1 = some (i, (tok (s.drop i)).2.2)) := by
  have hk : skp false (s.drop i) = 0 := by
    rw [drop_getD (d := 0) h]
    refine skp_stop ?_
    intro b hb
    simp only [List.head?_cons, Option.some.injEq] at hb
    subst hb; exact ⟨h1, h2⟩
  have hg := run_go (o := i) (l := s.drop i) (by rw [hk, List.length_drop]; omega)
  rw [hk] at hg
  simp only [List.drop_zero, Nat.add_zero, Nat.zero_add, List.drop_drop] at hg
  rw [hg]
  constructor
  · intro he; rw [if_pos he]; exact ⟨rfl, rfl⟩
  · intro he; rw [if_neg he]
/- What a token is, by its first byte. -/
theorem tok_name {s : List UInt8} {i : Nat} (h : i < s.length) (hb : (isLet (s.getD i 0) || isUnd (s.getD i 0)) = true) :
    tok (s.drop i) = ((wordK ((s.take (runTo isName s (i + 1))).drop i)).1, (s.take (runTo isName s (i + 1))).drop i, (wordK ((s.take (runTo isName s (i + 1))).drop i)).2) ∧ i + ((s.take (runTo isName s (i + 1))).drop i).length = runTo isName s (i + 1) := by
  have hn : isName (s.getD i 0) = true := by unfold isName; rw [Bool.or_eq_true] at hb; rcases hb with h | h <;> simp only [h, Bool.true_or, Bool.or_true]
  rw [← runTo_step h hn, runTo_text]
  refine ⟨?_, rfl⟩
  rw [drop_getD (d := 0) h]
  simp only [tok]
  rw [if_pos hb]
theorem dig_first : (List.range 256).all (fun n => !(isDig (UInt8.ofNat n)) || (!(isLet (UInt8.ofNat n)) && !(isUnd (UInt8.ofNat n)))) = true := by decide +kernel
theorem dig_not {b : UInt8} (h : isDig b = true) : isLet b = false ∧ isUnd b = false := by
  have := List.all_eq_true.1 dig_first b.toNat (List.mem_range.2 b.toNat_lt)
  rw [UInt8.ofNat_toNat, h] at this
  simpa using this
theorem tok_dig {s : List UInt8} {i : Nat} (h : i < s.length) (hb : isDig (s.getD i 0) = true) :
    tok (s.drop i) = (3, (s.take (runTo isDig s (i + 1))).drop i, numE ((s.take (runTo isDig s (i + 1))).drop i)) ∧ i + ((s.take (runTo isDig s (i + 1))).drop i).length = runTo isDig s (i + 1) ∧
    (s.take (runTo isDig s (i + 1))).drop i ≠ [] ∧ ((s.take (runTo isDig s (i + 1))).drop i).all isDig = true := by
  rw [← runTo_step h hb, runTo_text]
  refine ⟨?_, rfl, ?_, ?_⟩
  · rw [drop_getD (d := 0) h]
    obtain ⟨h1, h2⟩ := dig_not hb
    simp only [tok]
    rw [if_neg (by rw [h1, h2]; decide), if_pos hb]
  · rw [drop_getD (d := 0) h]
    exact List.length_pos_iff.1 (takeWhile_pos hb)
  · rw [List.all_eq_true]
    intro x hx
    exact (List.all_eq_true.1 (List.all_takeWhile (p := isDig) (l := s.drop i)) x hx)
theorem tok_dir {s : List UInt8} {i : Nat} (h : i < s.length) (hb : s.getD i 0 = 35) :
    tok (s.drop i) = (5, (s.take (runTo isLet s (i + 1))).drop i, if (s.take (runTo isLet s (i + 1))).drop i ∈ dirs then 0 else 31) ∧ i + ((s.take (runTo isLet s (i + 1))).drop i).length = runTo isLet s (i + 1) := by
  have h1 := runTo_le isLet s (i + 1)
  have h2 := runTo_len (p := isLet) (s := s) (i := i + 1) (by omega)
  have e : (s.take (runTo isLet s (i + 1))).drop i = 35 :: (s.drop (i + 1)).takeWhile isLet := by
    rw [drop_getD (d := 0) (by rw [List.length_take]; omega), runTo_text]
    congr 1
    rw [List.getD_eq_getElem?_getD, List.getElem?_take, if_pos (by omega), ← List.getD_eq_getElem?_getD]
    exact hb
  rw [e]
  refine ⟨?_, ?_⟩
  · rw [drop_getD (d := 0) h, hb]
    rfl
  · unfold runTo; rw [List.length_cons]; omega
theorem tok_sign {s : List UInt8} {i : Nat} (h : i < s.length) (h1 : (isLet (s.getD i 0) || isUnd (s.getD i 0)) = false) (h2 : isDig (s.getD i 0) = false) (h3 : s.getD i 0 ≠ 35) :
    tok (s.drop i) = (6, signOf (s.drop i), if signOf (s.drop i) = [] then 30 else 0) := by
  rw [drop_getD (d := 0) h]
  simp only [tok]
  rw [if_neg (by rw [h1]; decide), if_neg (by rw [h2]; decide), if_neg (by simp only [beq_iff_eq]; exact h3)]
/-- What the reference's Lex answers. -/
def ansR (l : List Tk) (q : List Tk × Option (Nat × Int) × Nat) : List Tk × Int × Int := match q.2.1 with
  | some (a, e) => ([], a, e)
  | none => (l ++ q.1, 0, 0)
theorem ansR_go {l : List Tk} {t : Tk} {q q' : List Tk × Option (Nat × Int) × Nat} (h1 : q.1 = t :: q'.1) (h2 : q.2.1 = q'.2.1) : ansR l q = ansR (l ++ [t]) q' := by
  unfold ansR
  rw [h2]
  cases q'.2.1 with
  | none => simp [h1]
  | some x => rfl
theorem ansR_err {l : List Tk} {q : List Tk × Option (Nat × Int) × Nat} {a : Nat} {e : Int} (h : q.2.1 = some (a, e)) : ansR l q = ([], (a : Int), e) := by
  unfold ansR; rw [h]
theorem ansR_end {l : List Tk} {q : List Tk × Option (Nat × Int) × Nat} (h1 : q.1 = []) (h : q.2.1 = none) : ansR l q = (l, 0, 0) := by
  unfold ansR; rw [h, h1]; simp
theorem rl_go {s : List UInt8} {i j : Nat} {es : List Tk} {k : Int} {T : List UInt8} (h : i < s.length) (h1 : isBlank (s.getD i 0) = false) (h2 : s.getD i 0 ≠ 37) (hk : tok (s.drop i) = (k, T, 0)) (hj : i + T.length = j) :
    ansR es (run i (s.drop i)) = ansR (es ++ [(k, T, (i : Int))]) (run j (s.drop j)) := by
  have := (runAt_tok h h1 h2).1
  rw [hk] at this
  obtain ⟨e1, e2⟩ := this rfl
  simp only [hj] at e1 e2
  exact ansR_go e1 e2
theorem rl_err {s : List UInt8} {i : Nat} {es : List Tk} {k : Int} {T : List UInt8} {e : Int} (h : i < s.length) (h1 : isBlank (s.getD i 0) = false) (h2 : s.getD i 0 ≠ 37) (hk : tok (s.drop i) = (k, T, e)) (he : e ≠ 0) :
    ansR es (run i (s.drop i)) = ([], (i : Int), e) := by
  have := (runAt_tok h h1 h2).2
  rw [hk] at this
  exact ansR_err (this he)
theorem wordK_zero {t : List UInt8} (h : (wordK t).1 = 0) : (wordK t).2 = 31 := by
  unfold wordK at h ⊢
  split at h
  · cases h
  split at h
  · cases h
  split at h
  · cases h
  · rename_i h1 h2 h3; rw [if_neg h1, if_neg h2, if_neg h3]
theorem wordK_some {t : List UInt8} (h : (wordK t).1 ≠ 0) : (wordK t).2 = 0 := by
  unfold wordK at h ⊢
  split
  · rfl
  split
  · rfl
  split
  · rfl
  · rename_i h1 h2 h3; rw [if_neg h1, if_neg h2, if_neg h3] at h; exact absurd rfl h
theorem lexR_ans (s : List UInt8) : lexR s = if 32768 < s.length then ([], 0, 3) else ansR [] (run 0 s) := by
  rw [lexR_eq]
  split
  · rfl
  · unfold ans ansR
    rcases run 0 s with ⟨l, _ | ⟨a, e⟩, p⟩ <;> rfl
end Go.Sx.Lx

/- OWN ROWS OF TEXTS, SORTED AND MADE COMPACT IN PLACE BY THE LIBRARY. -/
namespace Go.Sx
open Go.RowKit Go.Sort
open Go.Proofs (encStr)
variable [Globs] [Codes]
variable {P : Program} {f : FuncId}

def srt (l : List (List UInt8)) : List (List UInt8) := l.mergeSort fun x y => decide (x ≤ y)
theorem encS (s : List UInt8) : encStr s = .string ⟨s.toArray⟩ := rfl

/-- What an own row of texts holds. -/
theorem arrS {own : Nat → Prop} {fz : Bool} {ty : TypeId} {φ : Mem} {h : Nat → Value} {w : World} {hv : Value} {l : List (List UInt8)} (ho : ObR own φ h w hv (.arr fz 1 ty (strC l))) (hne : l ≠ []) :
    ∃ g cap cur, hv = .slice (some ⟨g, 0, none⟩) l.length cap ∧ own g ∧ w.heap[g]? = some (.cells cur ty (0, 0)) ∧ l.length ≤ cap ∧ cap ≤ maxLen ∧ cur.size = cap * 1 ∧ cur.toList.take l.length = l.map encStr ∧
      ∀ o, φ g o = if fz = true ∧ o < l.length then some (encStr (l.getD o [])) else none := by
  obtain ⟨_, hsz, xs, hown, hrep, hb⟩ := ho
  have hlen : (strC l).length = l.length := strC_len l
  rw [hlen] at hown hb
  have hxs : xs = l.map encStr := by
    have hl := hown.1
    rw [Nat.mul_one] at hl
    apply List.ext_getElem (by simpa using hl)
    intro i h1 h2
    simp at h2
    have := hrep i _ 0 (D.str (l.getD i [])) (strC_get h2) rfl
    simp only [Nat.mul_one, Nat.add_zero] at this
    have h3 := (RV.pure (h := h) this).str_inv
    rw [List.getD_eq_getElem?_getD, List.getElem?_eq_getElem h1, Option.getD_some] at h3
    rw [h3, List.getElem_map, encS]
    simp [List.getD, h2]
  subst hxs
  rcases hown.2 with ⟨_, h0⟩ | ⟨g, cap, cur, hv', _, hblk, hn, hcap, hcs, htk⟩
  · exact absurd (List.length_eq_zero_iff.1 h0) hne
  · have hb2 := hb g (by rw [hv']; rfl)
    refine ⟨g, cap, cur, hv', hb2.1, hblk, hn, hcap, hcs, by rw [Nat.mul_one] at htk; exact htk, fun o => ?_⟩
    rw [hb2.2 o, Nat.mul_one]
    by_cases ho : fz = true ∧ o < l.length
    · rw [if_pos ho, if_pos ho, List.getElem?_map, List.getElem?_eq_getElem ho.2, List.getD_eq_getElem?_getD, List.getElem?_eq_getElem ho.2]
      rfl
    · rw [if_neg ho, if_neg ho]

/-- AND THE OTHER WAY. -/
theorem arrS_mk {own : Nat → Prop} {fz : Bool} {ty : TypeId} {φ : Mem} {h : Nat → Value} {w : World} {g cap : Nat} {cur : Array Value} {l : List (List UInt8)} (ho : own g) (hblk : w.heap[g]? = some (.cells cur ty (0, 0))) (hn : l.length ≤ cap) (hcap : cap ≤ maxLen) (hcs : cur.size = cap * 1) (htk : cur.toList.take l.length = l.map encStr)
    (hφ : ∀ o, φ g o = if fz = true ∧ o < l.length then some (encStr (l.getD o [])) else none) : ObR own φ h w (.slice (some ⟨g, 0, none⟩) l.length cap) (.arr fz 1 ty (strC l)) := by
  refine ⟨by decide, fun x hx => ?_, l.map encStr, ?_, fun i x j d hi hj => ?_, fun b hb => ?_⟩
  · unfold strC at hx
    obtain ⟨t, _, rfl⟩ := List.mem_map.1 hx
    rfl
  · rw [strC_len]
    exact ⟨by simp, .inr ⟨g, cap, cur, rfl, Nat.zero_le _, hblk, hn, hcap, hcs, by rw [Nat.mul_one]; exact htk⟩⟩
  · have hi2 : i < l.length := by
      rcases Nat.lt_or_ge i l.length with h | h
      · exact h
      · rw [List.getElem?_eq_none (by rw [strC_len]; exact h)] at hi; cases hi
    rw [strC_get hi2] at hi
    cases hi
    cases j with
    | succ j => simp at hj
    | zero =>
      cases hj
      rw [Nat.mul_one, Nat.add_zero, List.getD_eq_getElem?_getD, List.getElem?_map, List.getElem?_eq_getElem hi2, Option.map_some, Option.getD_some, encS]
      have := Rep.str (φ := φ) (l.getD i [])
      simpa [List.getD, hi2] using this
  · cases hb
    refine ⟨ho, fun o => ?_⟩
    rw [hφ o, strC_len, Nat.mul_one]
    by_cases h : fz = true ∧ o < l.length
    · rw [if_pos h, if_pos h, List.getElem?_map, List.getElem?_eq_getElem h.2, List.getD_eq_getElem?_getD, List.getElem?_eq_getElem h.2]
      rfl
    · rw [if_neg h, if_neg h]

/-- slices.Sort of an own row of texts. -/
theorem CallL.sortS (hpf : pureF P f = true) (H : ∀ (blk cap : Nat) (ss : List (List UInt8)) (w : World), Holds encStr w blk 0 ss.toArray → blk < w.heap.size → ss.length < 4611686018427387904 →
      Calls P f #[.slice (some ⟨blk, 0, none⟩) ss.length cap] w fun e w' => e = .returned (.tuple #[]) ∧ ∃ n os, w' = grow (putRow encStr (Sort.ahead w n) blk 0 (ss.mergeSort fun x y => decide (x ≤ y)).toArray) os)
    (ty : TypeId) (l : List (List UInt8)) (hne : l ≠ []) (hlt : l.length < 4611686018427387904) : CallL P (.func (.func f) [] []) [.vec 0] [(0, .arr false 1 ty (strC l))] fun r ob => r = .tuple [] ∧ ob = [(0, .arr false 1 ty (strC (srt l)))] := by
  intro F hF n φ h w v vs hp hv hvs
  obtain ⟨va, vc, rfl, hva, hvc⟩ : ∃ va vc, v = .func (.func f) va vc ∧ va.size = 0 ∧ vc.size = 0 := by
    cases hv with
    | pure hr => cases hr
    | func _ vf vc _ _ hf hc _ _ => exact ⟨vf, vc, rfl, hf, hc⟩
  obtain ⟨u, rfl, hu⟩ := vs1 hvs
  have hu' := hu.vec_inv
  subst hu'
  rw [run_callv_func hpf]
  have ea : va = #[] := by simpa using hva
  have ec : vc = #[] := by simpa using hvc
  subst ea; subst ec
  simp only [Array.empty_append, Array.append_empty, DynOut]
  obtain ⟨g, cap, cur, hh, _, hblk, hn, hcap, hcs, htk, hφ⟩ := arrS (hp.obj 0 _ rfl) hne
  have hφ0 : ∀ o, φ g o = none := fun o => by rw [hφ o]; rfl
  have hZ : ZOf [(0, Ob.arr false 1 ty (strC l))] h g := ⟨0, rfl, by rw [hh]; rfl⟩
  have hg : g < w.heap.size := (Array.getElem?_eq_some_iff.1 hblk).1
  rw [hh]
  refine hF.calls ((H g cap l w (holds_of_block hblk htk) hg hlt).mono ?_) n
  rintro e w' ⟨rfl, m, os, rfl⟩
  have hsl : (srt l).length = l.length := by unfold srt; simp
  have hG := grownBy_sorted (w := w) (g := g) (n := m) (os := os) (srt l).toArray
  have hS := heap_sorted (n := m) (os := os) (srt l).toArray hblk
  have hT := take_putCells cur (srt l) (by rw [hsl]; omega)
  show Post _ φ h w _ _ (grow (putRow encStr (Sort.ahead w m) g 0 (srt l).toArray) os)
  generalize grow (putRow encStr (Sort.ahead w m) g 0 (srt l).toArray) os = w' at hG hS
  have hfr : ∀ b, b < w.heap.size → b ≠ g → w'.heap[b]? = w.heap[b]? := fun b hb hne => hG.block b hb (by simpa using hne)
  have hold : ∀ b o, w.heap[b]? = some o → b ≠ g → w'.heap[b]? = some o := fun b o hb hne => by rw [hfr b (Array.getElem?_eq_some_iff.1 hb).1 hne, hb]
  have hZe : ∀ b, ZOf [(0, Ob.arr false 1 ty (strC (srt l)))] h b → ZOf [(0, Ob.arr false 1 ty (strC l))] h b := by
    rintro b ⟨i, hi, hb⟩
    cases i with
    | zero => exact ⟨0, rfl, hb⟩
    | succ i => simp [lk] at hi
  refine ⟨_, _, _, φ, h, rfl, ⟨rfl, rfl⟩, .tuple _ _ rfl (by simp), ⟨⟨hp.one, ⟨hp.glob.ok, fun g' arr hx => ?_, fun g' hx => ?_⟩, fun b o u hu => ?_, fun i ob hob => ?_, fun i j b hi hj _ _ => ?_⟩, fun _ _ _ h => h, fun b o u h1 h2 => (by rw [h1] at h2; cases h2), fun b hb hz => hfr b hb fun e => hz (e ▸ hZ), fun _ _ => rfl, hG.os, hG.tape, hG.output, hG.size⟩⟩
  · obtain ⟨⟨ty', fr, hw⟩, hz⟩ := hp.glob.x g' arr hx
    exact ⟨⟨ty', fr, hold _ _ hw fun e => hz (e ▸ hZ)⟩, fun hz' => hz (hZe _ hz')⟩
  · obtain ⟨⟨arr, ty', fr, q, hw, ha⟩, hz⟩ := hp.glob.i g' hx
    exact ⟨⟨arr, ty', fr, q, hold _ _ hw fun e => hz (e ▸ hZ), ha⟩, fun hz' => hz (hZe _ hz')⟩
  · have hbg : b ≠ g := fun e => by rw [e, hφ0 o] at hu; cases hu
    have hlt : b < w.heap.size := Sub.lt (w := w) hp.mem hu
    rw [World.cell?_of_block (a := ⟨b, o, none⟩) (hfr b hlt hbg)]
    exact hp.mem b o u hu
  · cases i with
    | succ i => simp [lk] at hob
    | zero =>
      simp only [lk, if_true, Option.some.injEq] at hob
      subst hob
      rw [hh, ← hsl]
      exact arrS_mk (.inr hZ) hS (by omega) hcap (by simpa [putCells] using hcs) hT fun o => by rw [hφ0 o]; rfl
  · cases i with
    | succ i => simp [lk] at hi
    | zero => cases j with
      | succ j => simp [lk] at hj
      | zero => rfl

theorem cpt_len (l : List (List UInt8)) : (Lib.compact l).length ≤ l.length := by
  unfold Lib.compact Lib.compactUpTo
  rw [List.length_map]
  refine Nat.le_trans (List.length_filter_le _ _) ?_
  simp
theorem cpt_take {cur : Array Value} {l : List (List UInt8)} {d : List (List UInt8)} (hd : d.length ≤ cur.size) {k : Nat} (hk : k ≤ d.length) : (putCells encStr 0 d.toArray cur).toList.take k = (d.take k).map encStr := by
  have h := take_putCells cur d hd
  rw [← List.map_take.symm, ← h, List.take_take, Nat.min_eq_left hk]
def memG (φ : Mem) (g : Nat) (k : List (List UInt8)) : Mem := fun b o => if b = g then (if o < k.length then some (encStr (k.getD o [])) else none) else φ b o
/-- slices.Compact of an own row of texts: what is left is no more written to. -/
theorem CallL.compactS (hpf : pureF P f = true) (H : ∀ (blk cap : Nat) (zs : List (List UInt8)) (w : World), Holds encStr w blk 0 zs.toArray → zs.length ≤ 9223372036854775807 → zs.length ≤ cap →
      Calls P f #[.slice (some ⟨blk, 0, none⟩) zs.length cap] w fun e w' => e = .returned (.slice (some ⟨blk, 0, none⟩) (Lib.compact zs).length cap) ∧ ∃ q, w' = putRow encStr (Sort.ahead w q) blk 0 (Lib.compact zs ++ List.replicate (zs.length - (Lib.compact zs).length) []).toArray)
    (ty : TypeId) (l : List (List UInt8)) (hne : l ≠ []) (hlt : l.length < 4611686018427387904) : CallL P (.func (.func f) [] []) [.vec 0] [(0, .arr false 1 ty (strC l))] fun r ob => r = .vec 1 ∧ ob = [(1, .arr true 1 ty (strC (Lib.compact l)))] := by
  intro F hF n φ h w v vs hp hv hvs
  obtain ⟨va, vc, rfl, hva, hvc⟩ : ∃ va vc, v = .func (.func f) va vc ∧ va.size = 0 ∧ vc.size = 0 := by
    cases hv with
    | pure hr => cases hr
    | func _ vf vc _ _ hf hc _ _ => exact ⟨vf, vc, rfl, hf, hc⟩
  obtain ⟨u, rfl, hu⟩ := vs1 hvs
  have hu' := hu.vec_inv
  subst hu'
  rw [run_callv_func hpf]
  have ea : va = #[] := by simpa using hva
  have ec : vc = #[] := by simpa using hvc
  subst ea; subst ec
  simp only [Array.empty_append, Array.append_empty, DynOut]
  obtain ⟨g, cap, cur, hh, _, hblk, hn, hcap, hcs, htk, hφ⟩ := arrS (hp.obj 0 _ rfl) hne
  have hφ0 : ∀ o, φ g o = none := fun o => by rw [hφ o]; rfl
  have hZ : ZOf [(0, Ob.arr false 1 ty (strC l))] h g := ⟨0, rfl, by rw [hh]; rfl⟩
  have hg : g < w.heap.size := (Array.getElem?_eq_some_iff.1 hblk).1
  rw [hh]
  refine hF.calls ((H g cap l w (holds_of_block hblk htk) (by omega) hn).mono ?_) n
  rintro e w' ⟨rfl, m, rfl⟩
  have hcl := cpt_len l
  have hdl : (Lib.compact l ++ List.replicate (l.length - (Lib.compact l).length) []).length = l.length := by simp; omega
  have hG := grownBy_sorted (w := w) (g := g) (n := m) (os := #[]) (Lib.compact l ++ List.replicate (l.length - (Lib.compact l).length) []).toArray
  have hS := heap_sorted (n := m) (os := #[]) (Lib.compact l ++ List.replicate (l.length - (Lib.compact l).length) []).toArray hblk
  have hT := cpt_take (cur := cur) (l := l) (d := Lib.compact l ++ List.replicate (l.length - (Lib.compact l).length) []) (by rw [hdl]; omega) (k := (Lib.compact l).length) (by rw [hdl]; exact hcl)
  rw [List.take_left] at hT
  rw [grow_empty] at hG hS
  generalize putRow encStr (Sort.ahead w m) g 0 (Lib.compact l ++ List.replicate (l.length - (Lib.compact l).length) []).toArray = w' at hG hS ⊢
  generalize hcur : putCells encStr 0 (Lib.compact l ++ List.replicate (l.length - (Lib.compact l).length) []).toArray cur = cur' at hS hT
  have hcs' : cur'.size = cap * 1 := by rw [← hcur]; simpa [putCells] using hcs
  generalize Lib.compact l = k at hcl hT ⊢
  have hfr : ∀ b, b < w.heap.size → b ≠ g → w'.heap[b]? = w.heap[b]? := fun b hb hne => hG.block b hb (by simpa using hne)
  have hold : ∀ b o, w.heap[b]? = some o → b ≠ g → w'.heap[b]? = some o := fun b o hb hne => by rw [hfr b (Array.getElem?_eq_some_iff.1 hb).1 hne, hb]
  have hh1 : updH h 1 (.slice (some ⟨g, 0, none⟩) k.length cap) 1 = .slice (some ⟨g, 0, none⟩) k.length cap := upd_same ..
  have hZe : ∀ b, ZOf [(1, Ob.arr true 1 ty (strC k))] (updH h 1 (.slice (some ⟨g, 0, none⟩) k.length cap)) b → ZOf [(0, Ob.arr false 1 ty (strC l))] h b := by
    rintro b ⟨i, hi, hb⟩
    simp only [lk] at hi
    split at hi
    · rename_i e
      subst e
      rw [hh1] at hb
      simp only [blk, Option.some.injEq] at hb
      exact hb ▸ hZ
    · cases hi
  obtain ⟨φ', hφd⟩ : ∃ m, m = memG φ g k := ⟨_, rfl⟩
  have hφn : ∀ b o, b ≠ g → φ' b o = φ b o := fun b o hb => by rw [hφd]; exact if_neg hb
  have hφ' : ∀ b o v, φ b o = some v → φ' b o = some v := fun b o v hv => by
    have hbg : b ≠ g := fun e => by rw [e, hφ0 o] at hv; cases hv
    rw [hφn b o hbg]; exact hv
  have hφg : ∀ o, φ' g o = if o < k.length then some (encStr (k.getD o [])) else none := fun o => by rw [hφd]; exact if_pos rfl
  have hcell : ∀ o, o < k.length → w'.cell? ⟨g, o, none⟩ = some (encStr (k.getD o [])) := fun o ho => by
    have h1 : (cur'.toList.take k.length)[o]? = (k.map encStr)[o]? := by rw [hT]
    rw [List.getElem?_take_of_lt ho, List.getElem?_map, List.getElem?_eq_getElem ho, Option.map_some, Array.getElem?_toList] at h1
    simp only [World.cell?, hS, h1, List.getD_eq_getElem?_getD, List.getElem?_eq_getElem ho, Option.getD_some]
    rfl
  refine ⟨_, _, _, φ', updH h 1 (.slice (some ⟨g, 0, none⟩) k.length cap), rfl, ⟨rfl, rfl⟩, ?_, ⟨⟨fun i => ?_, ⟨fun g' cs hgc => (hp.glob.ok g' cs hgc).mono hφ', fun g' arr hx => ?_, fun g' hx => ?_⟩, fun b o u hu => ?_, fun i ob hob => ?_, fun i j b hi hj _ _ => ?_⟩, hφ', fun b o u h1 h2 => ?_, fun b hb hz => hfr b hb fun e => hz (e ▸ hZ), fun i hi => ?_, hG.os, hG.tape, hG.output, hG.size⟩⟩
  · have := RV.vec (φ := φ') (h := updH h 1 (.slice (some ⟨g, 0, none⟩) k.length cap)) 1 (by rw [hh1]; rfl)
    rw [hh1] at this
    exact this
  · by_cases hi : i = 1
    · subst hi; rw [hh1]; rfl
    · rw [upd_other _ _ hi]; exact hp.one i
  · obtain ⟨⟨ty', fr, hw⟩, hz⟩ := hp.glob.x g' arr hx
    exact ⟨⟨ty', fr, hold _ _ hw fun e => hz (e ▸ hZ)⟩, fun hz' => hz (hZe _ hz')⟩
  · obtain ⟨⟨arr, ty', fr, q, hw, ha⟩, hz⟩ := hp.glob.i g' hx
    exact ⟨⟨arr, ty', fr, q, hold _ _ hw fun e => hz (e ▸ hZ), ha⟩, fun hz' => hz (hZe _ hz')⟩
  · by_cases hbg : b = g
    · subst hbg
      rw [hφg] at hu
      split at hu
      · rename_i ho
        rw [hcell o ho]; exact hu
      · cases hu
    · have hu' : φ b o = some u := by
        rw [← hφn b o hbg]; exact hu
      have hlt : b < w.heap.size := Sub.lt (w := w) hp.mem hu'
      rw [World.cell?_of_block (a := ⟨b, o, none⟩) (hfr b hlt hbg)]
      exact hp.mem b o u hu'
  · simp only [lk] at hob
    split at hob
    · rename_i e
      subst e
      cases hob
      rw [hh1]
      exact arrS_mk (.inr hZ) hS (by omega) hcap hcs' hT fun o => by rw [hφg o]; simp
    · cases hob
  · simp only [lk] at hi hj
    split at hi
    · split at hj
      · omega
      · cases hj
    · cases hi
  · by_cases hbg : b = g
    · exact .inr (hbg ▸ hZ)
    · rw [hφn b o hbg, h2] at h1; cases h1
  · have : i ≠ 1 := fun e => by rw [e] at hi; simp [lk] at hi
    exact upd_other _ _ this
/-- What a call leaves that leaves all as it was. -/
theorem After.same {φ : Mem} {h : Nat → Value} {w : World} {ob : Obs} (hp : Loc (fun _ => True) ob φ h w) : After [] φ h w [] φ h w :=
  ⟨⟨hp.one, hp.glob.sub fun b ⟨i, hi, _⟩ => by simp [lk] at hi, hp.mem, fun i o ho => by simp [lk] at ho, fun i j b hi => by simp [lk] at hi⟩, fun _ _ _ h => h, fun b o u h1 h2 => (by rw [h1] at h2; cases h2), fun _ _ _ => rfl, fun _ _ => rfl, rfl, rfl, rfl, Nat.le_refl _⟩
theorem nil_inv {φ : Mem} {h : Nat → Value} {v : Value} (hv : RV φ h v (.slice [] [])) : ∃ p c, v = .slice p 0 c := by
  cases hv with
  | pure hr => cases hr with
    | nil => exact ⟨none, 0, rfl⟩
    | nilA a c => exact ⟨some a, c, rfl⟩
    | slice b off cap sz _ _ vals _ _ _ _ => exact ⟨some ⟨b, off, none⟩, cap, rfl⟩
theorem CallL.sortN (hpf : pureF P f = true) (H : ∀ (p : Option Addr) (cap : Nat) (w : World), Calls P f #[.slice p 0 cap] w fun e w' => e = .returned (.tuple #[]) ∧ w' = w) : CallL P (.func (.func f) [] []) [.slice [] []] [] fun r ob => r = .tuple [] ∧ ob = [] := by
  intro F hF n φ h w v vs hp hv hvs
  obtain ⟨va, vc, rfl, hva, hvc⟩ : ∃ va vc, v = .func (.func f) va vc ∧ va.size = 0 ∧ vc.size = 0 := by
    cases hv with
    | pure hr => cases hr
    | func _ vf vc _ _ hf hc _ _ => exact ⟨vf, vc, rfl, hf, hc⟩
  obtain ⟨u, rfl, hu⟩ := vs1 hvs
  obtain ⟨p, c, rfl⟩ := nil_inv hu
  rw [run_callv_func hpf]
  have ea : va = #[] := by simpa using hva
  have ec : vc = #[] := by simpa using hvc
  subst ea; subst ec
  simp only [Array.empty_append, Array.append_empty, DynOut]
  refine hF.calls ((H p c w).mono ?_) n
  rintro e w' ⟨rfl, rfl⟩
  exact ⟨_, _, _, φ, h, rfl, ⟨rfl, rfl⟩, .tuple _ _ rfl (by simp), After.same hp⟩
theorem CallL.compactN (hpf : pureF P f = true) (H : ∀ (p : Option Addr) (cap : Nat) (w : World), Calls P f #[.slice p 0 cap] w fun e w' => e = .returned (.slice p 0 cap) ∧ w' = w) : CallL P (.func (.func f) [] []) [.slice [] []] [] fun r ob => r = .slice [] [] ∧ ob = [] := by
  intro F hF n φ h w v vs hp hv hvs
  obtain ⟨va, vc, rfl, hva, hvc⟩ : ∃ va vc, v = .func (.func f) va vc ∧ va.size = 0 ∧ vc.size = 0 := by
    cases hv with
    | pure hr => cases hr
    | func _ vf vc _ _ hf hc _ _ => exact ⟨vf, vc, rfl, hf, hc⟩
  obtain ⟨u, rfl, hu⟩ := vs1 hvs
  obtain ⟨p, c, rfl⟩ := nil_inv hu
  rw [run_callv_func hpf]
  have ea : va = #[] := by simpa using hva
  have ec : vc = #[] := by simpa using hvc
  subst ea; subst ec
  simp only [Array.empty_append, Array.append_empty, DynOut]
  refine hF.calls ((H p c w).mono ?_) n
  rintro e w' ⟨rfl, rfl⟩
  exact ⟨_, _, _, φ, h, rfl, ⟨rfl, rfl⟩, hu, After.same hp⟩
theorem strC_app (a b : List (List UInt8)) : strC (a ++ b) = strC a ++ strC b := by simp [strC]
/-- An own row that a function hands back is no more written to. -/
theorem FnOK.freezeS {args : List D} {ty : TypeId} {l : List (List UInt8)} (h : FnOK P f args (.own 1 ty (strC l))) (hne : l ≠ []) : FnOK P f args (.slice (strC l) []) := by
  intro φ hh w vs h1 h2 h3 h4 h5
  refine (h φ hh w vs h1 h2 h3 h4 h5).mono ?_
  rintro e w' ⟨v, φ', rfl, hR, rest⟩
  refine ⟨v, φ', rfl, ?_, rest⟩
  obtain ⟨g, cap, cur, rfl, _, _, hn, _, _, _, hφ⟩ := arrS (h := noH) hR hne
  intro h'
  have hlen : (strC l).length = l.length := strC_len l
  have key : ∀ i e, (strC l ++ [])[i]? = some e → i < l.length ∧ e = [D.str (l.getD i [])] := fun i e he => by
    rw [List.append_nil] at he
    have hi : i < l.length := by
      rcases Nat.lt_or_ge i l.length with h | h
      · exact h
      · rw [List.getElem?_eq_none (by rw [hlen]; exact h)] at he; cases he
    rw [strC_get hi] at he
    exact ⟨hi, by cases he; rfl⟩
  refine .pure ?_
  conv => arg 2; rw [← hlen]
  refine .slice g 0 cap 1 _ _ (fun i j => encStr (l.getD i [])) (by rw [hlen]; simpa using hn) (fun e he => ?_) (fun i e j d he hd => ?_) (fun i e j d he hd => ?_)
  · obtain ⟨i, hi⟩ := List.mem_iff_getElem?.1 he
    rw [(key i e hi).2]; rfl
  · obtain ⟨hi, rfl⟩ := key i e he
    cases j with
    | succ j => simp at hd
    | zero =>
      rw [Nat.zero_add, Nat.mul_one, Nat.add_zero, hφ i, if_pos ⟨rfl, hi⟩]
  · obtain ⟨hi, rfl⟩ := key i e he
    cases j with
    | succ j => simp at hd
    | zero =>
      cases hd
      exact .str _
end Go.Sx
/- The variables of a term. -/
namespace Go.Sx
def Tm.v1 : Tm → List (List UInt8)
  | .mk k _ s _ => if k = 3 then [s] else []
mutual
def Tm.vs : Tm → List (List UInt8)
  | .mk k n s l => Tm.v1 (.mk k n s l) ++ Tm.vsL l
def Tm.vsL : List Tm → List (List UInt8)
  | [] => []
  | a :: r => a.vs ++ Tm.vsL r
end
theorem vsL_mem {l : List Tm} {x : Tm} (h : x ∈ l) : x.vs.length ≤ (Tm.vsL l).length := by
  induction l with
  | nil => cases h
  | cons a r ih =>
    simp only [Tm.vsL, List.length_append]
    rcases List.mem_cons.1 h with rfl | h
    · omega
    · have := ih h; omega
end Go.Sx

namespace Go.Sx
/- THE ORDER IS TRANSITIVE. -/
def Tri (p q r : Int) : Prop := (p ≤ 0 → q ≤ 0 → r ≤ 0) ∧ (p ≤ 0 → q ≤ 0 → r = 0 → p = 0 ∧ q = 0) ∧ (p = 0 → q = 0 → r = 0)
theorem tri_cons {p q r : Int} {P Q R : List Int} (h : Tri p q r) (ht : p = 0 → q = 0 → Tri (fst0 P) (fst0 Q) (fst0 R)) : Tri (fst0 (p :: P)) (fst0 (q :: Q)) (fst0 (r :: R)) := by
  simp only [fst0]
  obtain ⟨h1, h2, h3⟩ := h
  by_cases hp : p = 0
  · by_cases hq : q = 0
    · have hr := h3 hp hq
      rw [if_neg (by simpa using hp), if_neg (by simpa using hq), if_neg (by simpa using hr)]
      exact ht hp hq
    · rw [if_neg (by simpa using hp), if_pos hq]
      refine ⟨fun a b => ?_, fun a b c => ?_, fun a b => absurd b hq⟩
      · have := h1 (by omega) b
        by_cases hr : r = 0
        · exact absurd (h2 (by omega) b hr).2 hq
        · rw [if_pos hr]; exact this
      · have := h1 (by omega) b
        by_cases hr : r = 0
        · exact absurd (h2 (by omega) b hr).2 hq
        · rw [if_pos hr] at c; exact absurd c hr
  · rw [if_pos hp]
    by_cases hq : q = 0
    · rw [if_neg (by simpa using hq)]
      refine ⟨fun a b => ?_, fun a b c => ?_, fun a b => absurd a hp⟩
      · have := h1 a (by omega)
        by_cases hr : r = 0
        · exact absurd (h2 a (by omega) hr).1 hp
        · rw [if_pos hr]; exact this
      · by_cases hr : r = 0
        · exact absurd (h2 a (by omega) hr).1 hp
        · rw [if_pos hr] at c; exact absurd c hr
    · rw [if_pos hq]
      refine ⟨fun a b => ?_, fun a b c => ?_, fun a b => absurd a hp⟩
      · have := h1 a b
        by_cases hr : r = 0
        · exact absurd (h2 a b hr).1 hp
        · rw [if_pos hr]; exact this
      · by_cases hr : r = 0
        · exact absurd (h2 a b hr).1 hp
        · rw [if_pos hr] at c; exact absurd c hr
theorem tri_nil : Tri (fst0 []) (fst0 []) (fst0 []) := ⟨fun _ _ => Int.le_refl _, fun _ _ _ => ⟨rfl, rfl⟩, fun _ _ => rfl⟩
theorem tri_ncmp (a b c : Int) : Tri (ncmp a b) (ncmp b c) (ncmp a c) := by
  unfold Tri ncmp
  repeat' split
  all_goals omega
theorem bcmp_cons (u v : UInt8) (s t : List UInt8) : Lib.compareBytes (u :: s) (v :: t) = if u < v then -1 else if v < u then 1 else Lib.compareBytes s t := by rw [Lib.compareBytes]
theorem tri_bcmp : ∀ a b c : List UInt8, Tri (Lib.compareBytes a b) (Lib.compareBytes b c) (Lib.compareBytes a c)
  | [], [], [] => by simp [Lib.compareBytes, Tri]
  | [], [], _ :: _ => by simp [Lib.compareBytes, Tri]
  | [], _ :: _, [] => by simp [Lib.compareBytes, Tri]
  | [], _ :: _, _ :: _ => by simp [Lib.compareBytes, Tri]
  | _ :: _, [], [] => by simp [Lib.compareBytes, Tri]
  | _ :: _, [], _ :: _ => by simp [Lib.compareBytes, Tri]
  | x :: a, y :: b, [] => by simp [Lib.compareBytes, Tri]
  | x :: a, y :: b, z :: c => by
    have ih := tri_bcmp a b c
    have key : ∀ (u v : UInt8) (s t : List UInt8), Lib.compareBytes (u :: s) (v :: t) = fst0 [ncmp (u.toNat : Int) v.toNat, Lib.compareBytes s t] := fun u v s t => by
      rw [bcmp_cons]
      simp only [fst0, ncmp, UInt8.lt_iff_toNat_lt]
      by_cases h1 : u.toNat < v.toNat
      · rw [if_pos h1]; simp [h1]
      · by_cases h2 : v.toNat < u.toNat
        · rw [if_neg h1, if_pos h2]
          have e1 : ¬ ((u.toNat : Int) < v.toNat) := by omega
          have e2 : ((v.toNat : Int) < u.toNat) := by omega
          simp [e1, e2]
        · rw [if_neg h1, if_neg h2]
          have e1 : ¬ ((u.toNat : Int) < v.toNat) := by omega
          have e2 : ¬ ((v.toNat : Int) < u.toNat) := by omega
          simp only [e1, e2, if_false]
          by_cases h3 : Lib.compareBytes s t = 0 <;> simp [h3]
    rw [key, key, key]
    refine tri_cons (tri_ncmp _ _ _) fun _ _ => tri_cons ih fun _ _ => tri_nil
mutual
theorem tri_cmp : ∀ a b c : Tm, Tri (a.cmp b) (b.cmp c) (a.cmp c)
  | .mk k n s l, .mk k' n' s' l', .mk k2 n2 s2 l2 => by
    simp only [Tm.cmp]
    refine tri_cons (tri_ncmp _ _ _) fun h1 h2 => tri_cons ?_ fun _ _ => tri_cons (tri_ncmp _ _ _) fun _ _ => tri_cons (tri_bcmp _ _ _) fun _ _ => tri_cons (tri_cmpL _ _ _) fun _ _ => tri_cons (tri_ncmp _ _ _) fun _ _ => tri_nil
    have e1 := rkI_inj (ncmp_eq.1 h1)
    have e2 := rkI_inj (ncmp_eq.1 h2)
    subst e1; subst e2
    by_cases hk : k = 1
    · simp only [if_pos hk]; exact tri_ncmp _ _ _
    · simp only [if_neg hk]; exact ⟨fun _ _ => Int.le_refl _, fun _ _ _ => ⟨rfl, rfl⟩, fun _ _ => rfl⟩
theorem tri_cmpL : ∀ a b c : List Tm, Tri (Tm.cmpL a b) (Tm.cmpL b c) (Tm.cmpL a c)
  | [], [], [] => by simp [Tm.cmpL, Tri]
  | [], [], _ :: _ => by simp [Tm.cmpL, Tri]
  | [], _ :: _, [] => by simp [Tm.cmpL, Tri]
  | [], _ :: _, _ :: _ => by simp [Tm.cmpL, Tri]
  | _ :: _, [], [] => by simp [Tm.cmpL, Tri]
  | _ :: _, [], _ :: _ => by simp [Tm.cmpL, Tri]
  | x :: a, y :: b, [] => by simp [Tm.cmpL, Tri]
  | x :: a, y :: b, z :: c => by
    have h1 := tri_cmp x y z
    have h2 := tri_cmpL a b c
    have key : ∀ (u v : Tm) (s t : List Tm), Tm.cmpL (u :: s) (v :: t) = fst0 [u.cmp v, Tm.cmpL s t] := fun u v s t => by
      simp only [Tm.cmpL, fst0]
      by_cases h : u.cmp v ≠ 0
      · rw [if_pos h, if_pos h]
      · rw [if_neg h, if_neg h]
        by_cases h3 : Tm.cmpL s t = 0 <;> simp [h3]
    rw [key, key, key]
    exact tri_cons h1 fun _ _ => tri_cons h2 fun _ _ => tri_nil
end
theorem fst0_neg : ∀ l : List Int, fst0 (l.map fun x => -x) = - fst0 l
  | [] => rfl
  | x :: r => by
    simp only [List.map_cons, fst0]
    by_cases h : x ≠ 0
    · rw [if_pos h, if_pos (by omega)]
    · rw [if_neg h, if_neg (by omega)]; exact fst0_neg r
mutual
theorem cmp_neg : ∀ a b : Tm, b.cmp a = - a.cmp b
  | .mk k n s l, .mk k' n' s' l' => by
    simp only [Tm.cmp]
    by_cases h : ncmp (rkI k) (rkI k') = 0
    · have e := rkI_inj (ncmp_eq.1 h)
      subst e
      rw [← fst0_neg]
      simp only [List.map_cons, List.map_nil, ← ncmp_neg, ← bcmp_neg, ← cmpL_neg]
      congr 3
      split
      · rw [← ncmp_neg]
      · rfl
    · have h' : ncmp (rkI k') (rkI k) ≠ 0 := by rw [ncmp_neg]; omega
      simp only [fst0]
      rw [if_pos h, if_pos h', ncmp_neg]
theorem cmpL_neg : ∀ a b : List Tm, Tm.cmpL b a = - Tm.cmpL a b
  | [], [] => rfl
  | [], _ :: _ => rfl
  | _ :: _, [] => rfl
  | a :: r, b :: q => by
    simp only [Tm.cmpL]
    have h1 := cmp_neg a b
    by_cases h : a.cmp b ≠ 0
    · rw [if_pos h, if_pos (by omega)]; exact h1
    · rw [if_neg h, if_neg (by omega)]; exact cmpL_neg r q
end
theorem cmp_self (a : Tm) : a.cmp a = 0 := cmp_eq.2 rfl
end Go.Sx

/- Sorted, made compact: what is in it, and in which order. -/
namespace Go.Sx
theorem blt : ∀ (x y : List UInt8), Op.bytesLess x y = decide (x < y)
  | [], [] => by simp [Op.bytesLess]
  | _ :: _, [] => by simp [Op.bytesLess]
  | [], _ :: _ => by simp [Op.bytesLess]
  | a :: x, b :: y => by
    rw [Op.bytesLess, blt x y]
    simp only [List.cons_lt_cons_iff]
    by_cases h1 : a < b <;> by_cases h2 : a = b <;> by_cases h3 : x < y <;> simp [h1, h2, h3]
theorem lt_ne {a b : List UInt8} (h : a ≤ b) (hn : a ≠ b) : a < b := by
  rcases Classical.em (a < b) with h2 | h2
  · exact h2
  · exact absurd (List.le_antisymm h (List.not_lt.1 h2)) hn
theorem srt_pw (l : List (List UInt8)) : (srt l).Pairwise (· ≤ ·) := by
  have h := List.pairwise_mergeSort (le := fun x y : List UInt8 => decide (x ≤ y)) (fun a b c h1 h2 => by simp only [decide_eq_true_eq] at *; exact List.le_trans h1 h2) (fun a b => by simp only [Bool.or_eq_true, decide_eq_true_eq]; exact List.le_total a b) l
  exact h.imp fun h => of_decide_eq_true h
theorem srt_mem {l : List (List UInt8)} {x : List UInt8} : x ∈ srt l ↔ x ∈ l := (List.mergeSort_perm l _).mem_iff
theorem cpt_up {d : Array (List UInt8)} (hd : ∀ i j, i ≤ j → j < d.size → d[i]! ≤ d[j]!) : ∀ m, m ≤ d.size → (∀ x, x ∈ Lib.compactUpTo d m ↔ ∃ j, j < m ∧ d[j]! = x) ∧ (Lib.compactUpTo d m).Pairwise (· < ·)
  | 0, _ => ⟨fun x => by simp [Lib.compactUpTo], by simp [Lib.compactUpTo]⟩
  | m + 1, h => by
    obtain ⟨h1, h2⟩ := cpt_up hd m (by omega)
    rw [Lib.compactUpTo_succ]
    by_cases hk : Lib.keeps d m = true
    · rw [if_pos hk]
      refine ⟨fun x => ?_, ?_⟩
      · rw [List.mem_append, h1, List.mem_singleton]
        constructor
        · rintro (⟨j, hj, e⟩ | e)
          · exact ⟨j, by omega, e⟩
          · exact ⟨m, by omega, e.symm⟩
        · rintro ⟨j, hj, e⟩
          by_cases hm : j = m
          · exact .inr (by rw [← e, hm])
          · exact .inl ⟨j, by omega, e⟩
      · rw [List.pairwise_append]
        refine ⟨h2, by simp, fun x hx y hy => ?_⟩
        rw [List.mem_singleton] at hy
        subst hy
        obtain ⟨j, hj, rfl⟩ := (h1 x).1 hx
        have hne : d[m]! ≠ d[m - 1]! := by
          unfold Lib.keeps at hk
          rcases of_decide_eq_true hk with h | h
          · omega
          · exact h
        exact List.lt_of_le_of_lt (hd j (m - 1) (by omega) (by omega)) (lt_ne (hd (m - 1) m (by omega) (by omega)) fun e => hne e.symm)
    · rw [if_neg hk, List.append_nil]
      refine ⟨fun x => ?_, h2⟩
      have hk' : m ≠ 0 ∧ d[m]! = d[m - 1]! := by
        unfold Lib.keeps at hk
        simp only [decide_eq_true_eq, not_or, Classical.not_not] at hk
        exact hk
      rw [h1]
      constructor
      · rintro ⟨j, hj, e⟩; exact ⟨j, by omega, e⟩
      · rintro ⟨j, hj, e⟩
        by_cases hm : j = m
        · exact ⟨m - 1, by omega, by rw [← hk'.2, ← hm, e]⟩
        · exact ⟨j, by omega, e⟩
/-- The variables of a term, sorted, each once. -/
def Tm.V (x : Tm) : List (List UInt8) := Lib.compact (srt x.vs)
theorem cpt_srt (l : List (List UInt8)) : (∀ x, x ∈ Lib.compact (srt l) ↔ x ∈ l) ∧ (Lib.compact (srt l)).Pairwise (· < ·) := by
  have hp := srt_pw l
  have h := cpt_up (d := (srt l).toArray) (fun i j hij hj => by
    have hj' : j < (srt l).length := by simpa using hj
    rcases Nat.lt_or_eq_of_le hij with h | h
    · have := List.pairwise_iff_getElem.1 hp i j (by omega) hj' h
      simpa [getElem!_pos, show i < (srt l).length by omega, hj'] using this
    · subst h; exact List.le_refl _) (srt l).length (by simp)
  refine ⟨fun x => ?_, h.2⟩
  rw [← srt_mem (l := l)]
  have := h.1 x
  unfold Lib.compact
  rw [this]
  constructor
  · rintro ⟨j, hj, e⟩
    rw [getElem!_pos _ j (by simpa using hj)] at e
    rw [← e]
    simp
  · intro hx
    obtain ⟨j, hj, e⟩ := List.mem_iff_getElem.1 hx
    exact ⟨j, hj, by rw [getElem!_pos _ j (by simpa using hj)]; simpa using e⟩
theorem V_mem {x : Tm} {s : List UInt8} : s ∈ x.V ↔ s ∈ x.vs := (cpt_srt x.vs).1 s
theorem V_step {x : Tm} {i : Nat} (h : i + 1 < x.V.length) : (Op.bytesLess x.V[i + 1] x.V[i] || decide (x.V[i + 1] = x.V[i])) = false := by
  have := List.pairwise_iff_getElem.1 (cpt_srt x.vs).2 i (i + 1) (by unfold Tm.V at h; omega) h (by omega)
  rw [blt, Bool.or_eq_false_iff]
  exact ⟨decide_eq_false fun h2 => List.lt_asymm this h2, decide_eq_false fun e => List.lt_irrefl _ (e ▸ this : x.V[i] < x.V[i])⟩
theorem V_nil {x : Tm} : x.V = [] ↔ x.vs = [] := by
  constructor
  · intro h
    rw [List.eq_nil_iff_forall_not_mem] at h ⊢
    exact fun s hs => h s (V_mem.2 hs)
  · intro h
    rw [List.eq_nil_iff_forall_not_mem] at h ⊢
    exact fun s hs => h s (V_mem.1 hs)
end Go.Sx

/- A term and its parts. -/
namespace Go.Sx
mutual
theorem sz_vs : ∀ (t : Tm) (m : Int), t.sz m ≤ m → (t.vs.length : Int) ≤ m
  | .mk k n s l, m, h => by
    simp only [Tm.sz] at h
    have := szL_vs l (m - 1) 0 (by omega)
    have h1 : (Tm.v1 (.mk k n s l)).length ≤ 1 := by
      simp only [Tm.v1]
      split <;> simp
    simp only [Tm.vs, List.length_append]
    omega
theorem szL_vs : ∀ (l : List Tm) (m n : Int), Tm.szL l m n ≤ m → ((Tm.vsL l).length : Int) ≤ m - n
  | [], m, n, h => by
    simp only [Tm.szL] at h
    simp only [Tm.vsL, List.length_nil]
    omega
  | a :: r, m, n, h => by
    simp only [Tm.szL] at h
    simp only [Tm.vsL, List.length_append]
    split at h
    · have h0 := szL_ge r m (n + a.sz (m - n))
      have h1 := sz_vs a (m - n) (by omega)
      have h4 := sz_ge a (m - n)
      have h2 := szL_vs r m (n + a.sz (m - n)) h
      have h3 := sz_vs2 a (m - n) (by omega)
      omega
    · omega
theorem sz_vs2 : ∀ (t : Tm) (m : Int), t.sz m ≤ m → (t.vs.length : Int) ≤ t.sz m
  | .mk k n s l, m, h => by
    simp only [Tm.sz] at h ⊢
    have := szL_vs2 l (m - 1) 0 (by omega)
    have h1 : (Tm.v1 (.mk k n s l)).length ≤ 1 := by
      simp only [Tm.v1]
      split <;> simp
    simp only [Tm.vs, List.length_append]
    omega
theorem szL_vs2 : ∀ (l : List Tm) (m n : Int), Tm.szL l m n ≤ m → ((Tm.vsL l).length : Int) ≤ Tm.szL l m n - n
  | [], m, n, h => by
    simp only [Tm.szL] at h ⊢
    simp only [Tm.vsL, List.length_nil]
    omega
  | a :: r, m, n, h => by
    simp only [Tm.szL] at h ⊢
    simp only [Tm.vsL, List.length_append]
    split at h
    · rename_i hc
      rw [if_pos hc]
      have h0 := szL_ge r m (n + a.sz (m - n))
      have h2 := szL_vs2 r m (n + a.sz (m - n)) h
      have h3 := sz_vs2 a (m - n) (by omega)
      omega
    · omega
end
theorem cpt_len0 (l : List (List UInt8)) : (Lib.compact l).length ≤ l.length := by
  unfold Lib.compact Lib.compactUpTo
  rw [List.length_map]
  refine Nat.le_trans (List.length_filter_le _ _) ?_
  simp
theorem V_len (x : Tm) : x.V.length ≤ x.vs.length := by
  have := cpt_len0 (srt x.vs)
  have e : (srt x.vs).length = x.vs.length := by unfold srt; simp
  unfold Tm.V
  omega
theorem depthL_app (x : Tm) : ∀ a : List Tm, Tm.depthL (a ++ [x]) = Nat.max (Tm.depthL a) x.depth
  | [] => by simp only [List.nil_append, Tm.depthL]; exact Nat.max_comm ..
  | y :: r => by
    simp only [List.cons_append, Tm.depthL]
    rw [depthL_app x r]
    exact (Nat.max_assoc ..).symm
theorem allL_eq (h : Tm → Bool) : ∀ l : List Tm, Tm.allL h l = l.all fun x => x.all h
  | [] => rfl
  | a :: r => by simp only [Tm.allL, List.all_cons]; rw [allL_eq h r]
def vL (l : List Tm) : List (List UInt8) := (l.map Tm.V).flatten
theorem vL_app (a : List Tm) (x : Tm) : vL (a ++ [x]) = vL a ++ x.V := by simp [vL]
theorem vL_len : ∀ l : List Tm, (vL l).length ≤ (Tm.vsL l).length
  | [] => by simp [vL]
  | a :: r => by
    have h1 := vL_len r
    have h2 := V_len a
    have e : vL (a :: r) = a.V ++ vL r := by simp [vL]
    rw [e]
    simp only [Tm.vsL, List.length_append]
    omega
theorem vsL_iff {s : List UInt8} : ∀ {l : List Tm}, s ∈ Tm.vsL l ↔ ∃ c ∈ l, s ∈ c.vs
  | [] => by simp [Tm.vsL]
  | a :: r => by simp [Tm.vsL, vsL_iff (l := r)]
/-- What the law gathers is in the variables, and the other way. -/
theorem gathered {k : Nat} {n : Int} {s t : List UInt8} {l : List Tm} : t ∈ vL l ++ (if k = 3 then [s] else []) ↔ t ∈ (Tm.mk k n s l).V := by
  rw [V_mem]
  simp only [Tm.vs, Tm.v1, List.mem_append, vsL_iff, vL, List.mem_flatten, List.mem_map]
  constructor
  · rintro (⟨_, ⟨c, hc, rfl⟩, ht⟩ | h)
    · exact .inr ⟨c, hc, V_mem.1 ht⟩
    · exact .inl h
  · rintro (h | ⟨c, hc, ht⟩)
    · exact .inr h
    · exact .inl ⟨_, ⟨c, hc, rfl⟩, V_mem.2 ht⟩
def Tm.plain : Tm → Bool
  | .mk k _ _ _ => decide (k = 1) || decide (k = 2) || decide (k = 4)
def Tm.gr : Tm → Bool
  | .mk k _ _ _ => !decide (k = 3)
mutual
theorem all_mono {h h' : Tm → Bool} (H : ∀ y, h y = true → h' y = true) : ∀ x : Tm, x.all h = true → x.all h' = true
  | .mk k n s l, hx => by
    simp only [Tm.all, Bool.and_eq_true] at hx ⊢
    exact ⟨H _ hx.1, allL_mono H l hx.2⟩
theorem allL_mono {h h' : Tm → Bool} (H : ∀ y, h y = true → h' y = true) : ∀ l : List Tm, Tm.allL h l = true → Tm.allL h' l = true
  | [], _ => rfl
  | a :: r, hl => by
    simp only [Tm.allL, Bool.and_eq_true] at hl ⊢
    exact ⟨all_mono H a hl.1, allL_mono H r hl.2⟩
end
theorem plain_gr (x : Tm) (h : x.all Tm.plain = true) : x.all Tm.gr = true := all_mono (fun y hy => by
  obtain ⟨k, n, s, l⟩ := y
  simp only [Tm.plain, Tm.gr, Bool.or_eq_true, decide_eq_true_eq, Bool.not_eq_true', decide_eq_false_iff_not] at hy ⊢
  omega) x h
mutual
theorem gr_vs : ∀ x : Tm, x.all Tm.gr = true ↔ x.vs = []
  | .mk k n s l => by
    simp only [Tm.all, Tm.gr, Tm.vs, Tm.v1, Bool.and_eq_true, List.append_eq_nil_iff]
    rw [grL_vs l]
    by_cases hk : k = 3
    · rw [if_pos hk]; simp [hk]
    · rw [if_neg hk]; simp [hk]
theorem grL_vs : ∀ l : List Tm, Tm.allL Tm.gr l = true ↔ Tm.vsL l = []
  | [] => by simp [Tm.allL, Tm.vsL]
  | a :: r => by
    simp only [Tm.allL, Tm.vsL, Bool.and_eq_true, List.append_eq_nil_iff]
    rw [gr_vs a, grL_vs r]
end
theorem gr_V (x : Tm) : x.all Tm.gr = decide (x.V.length = 0) := by
  rw [Bool.eq_iff_iff, gr_vs, decide_eq_true_eq, ← V_nil, List.length_eq_zero_iff]
def n7 : Tm := .mk 1 7 [] []
theorem n7_depth : ∀ m : Nat, Tm.depthL (List.replicate m n7) ≤ 1
  | 0 => by simp [Tm.depthL]
  | m + 1 => by
    simp only [List.replicate_succ, Tm.depthL]
    exact Nat.max_le.2 ⟨by decide, n7_depth m⟩
theorem n7_all : ∀ m : Nat, Tm.allL Tm.shape (List.replicate m n7) = true
  | 0 => rfl
  | m + 1 => by
    simp only [List.replicate_succ, Tm.allL, n7_all m, Bool.and_true]
    decide
theorem depthL_le {M : Nat} : ∀ {l : List Tm}, (∀ x ∈ l, x.depth ≤ M) → Tm.depthL l ≤ M
  | [], _ => by simp [Tm.depthL]
  | a :: r, h => by
    simp only [Tm.depthL]
    exact Nat.max_le.2 ⟨h a (List.mem_cons_self ..), depthL_le fun x hx => h x (List.mem_cons_of_mem _ hx)⟩
theorem depthL_mem0 {l : List Tm} {x : Tm} (h : x ∈ l) : x.depth ≤ Tm.depthL l := by
  induction l with
  | nil => cases h
  | cons a r ih =>
    simp only [Tm.depthL]
    rcases List.mem_cons.1 h with rfl | h
    · exact Nat.le_max_left ..
    · exact Nat.le_trans (ih h) (Nat.le_max_right ..)
/-- A term is valid where its parts are, its depth is, and it is with other parts. -/
theorem valid_parts (k : Nat) (n : Int) (s : List UInt8) (l : List Tm) : Tm.valid (.mk k n s l) = (l.all Tm.valid && (decide ((Tm.depthL l : Int) < 12) && Tm.valid (.mk k n s (List.replicate l.length n7)))) := by
  have h7 := n7_depth l.length
  have hn := n7_all l.length
  rw [allL_eq, List.all_eq_true] at hn
  rw [Bool.eq_iff_iff]
  simp only [Tm.valid, Bool.and_eq_true, decide_eq_true_eq, Tm.all, Tm.shape, List.length_replicate, Tm.depth, allL_eq, List.all_eq_true]
  constructor
  · rintro ⟨h1, h2, h3⟩
    have h1 := of_decide_eq_true h1
    exact ⟨fun x hx => ⟨Nat.le_trans (depthL_mem0 hx) (by omega), h3 x hx⟩, by omega, decide_eq_true (by omega), h2, hn⟩
  · rintro ⟨h1, h2, _, h4, _⟩
    exact ⟨decide_eq_true (by omega), h4, fun x hx => (h1 x hx).2⟩
theorem value_gr (x : Tm) (h : (x.all Tm.plain && x.valid) = true) : x.valid = true ∧ x.all Tm.gr = true := by
  rw [Bool.and_eq_true] at h
  exact ⟨h.2, plain_gr x h.1⟩
mutual
theorem sz_depth : ∀ (t : Tm) (m : Int), t.sz m ≤ m → (t.depth : Int) ≤ m
  | .mk k n s l, m, h => by
    simp only [Tm.sz] at h
    have := szL_depth l (m - 1) 0 (by omega)
    simp only [Tm.depth]
    omega
theorem szL_depth : ∀ (l : List Tm) (m n : Int), Tm.szL l m n ≤ m → (Tm.depthL l : Int) ≤ m - n
  | [], m, n, h => by
    simp only [Tm.szL] at h
    simp only [Tm.depthL]
    omega
  | a :: r, m, n, h => by
    simp only [Tm.szL] at h
    simp only [Tm.depthL]
    split at h
    · have h0 := sz_ge a (m - n)
      have h1 := szL_ge r m (n + a.sz (m - n))
      have h2 := szL_depth r m (n + a.sz (m - n)) h
      have h3 := sz_depth a (m - n) (by omega)
      have : Nat.max a.depth (Tm.depthL r) = a.depth ∨ Nat.max a.depth (Tm.depthL r) = Tm.depthL r := by
        rcases Nat.le_total a.depth (Tm.depthL r) with h | h
        · exact .inr (Nat.max_eq_right h)
        · exact .inl (Nat.max_eq_left h)
      omega
    · omega
end
end Go.Sx
