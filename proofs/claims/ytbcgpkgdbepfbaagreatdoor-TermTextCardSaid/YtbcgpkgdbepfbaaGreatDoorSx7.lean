/- Own work: a layer over the kit: plain data, a walk over it, its soundness. -/
import Derived.Lib.Join
import Derived.Lib.ItoaNum
import Derived.Test.YtbcgpkgdbepfbaaGreatDoorSx6
set_option linter.unusedSectionVars false
set_option linter.unusedVariables false
set_option linter.unusedSimpArgs false
set_option linter.deprecated false
/- Laws of the lexer. -/
namespace Go.Sx.Lx
open Go.Sx

/-- A byte that ends every token. -/
def isSep (c : UInt8) : Bool := isBlank c || c == 37

theorem sep_all : (List.range 256).all (fun n => !(isSep (UInt8.ofNat n)) || (!(isName (UInt8.ofNat n)) && !(isDig (UInt8.ofNat n)) && !(isLet (UInt8.ofNat n)) && signL.all fun s => !(s.contains (UInt8.ofNat n)))) = true := by decide +kernel
theorem sep_spec {c : UInt8} (h : isSep c = true) : isName c = false ∧ isDig c = false ∧ isLet c = false ∧ ∀ s ∈ signL, c ∉ s := by
  have := List.all_eq_true.1 sep_all c.toNat (List.mem_range.2 c.toNat_lt)
  simp only [UInt8.ofNat_toNat, h, Bool.not_true, Bool.false_or, Bool.and_eq_true, Bool.not_eq_true', List.all_eq_true] at this
  refine ⟨this.1.1.1, this.1.1.2, this.1.2, fun s hs hm => ?_⟩
  have h1 := this.2 s hs
  rw [List.contains_iff_mem.2 hm] at h1
  cases h1

theorem takeWhile_sep {p : UInt8 → Bool} {c : UInt8} (h : p c = false) (r : List UInt8) : ∀ l : List UInt8, (l ++ c :: r).takeWhile p = l.takeWhile p
  | [] => by simp [List.takeWhile_cons, h]
  | b :: l => by
    simp only [List.cons_append, List.takeWhile_cons]
    split
    · rw [takeWhile_sep h r l]
    · rfl
theorem prefix_sep {c : UInt8} (r : List UInt8) : ∀ (s l : List UInt8), c ∉ s → s.isPrefixOf (l ++ c :: r) = s.isPrefixOf l
  | [], l, _ => by cases l <;> rfl
  | x :: s, [], h => by
    have : (x == c) = false := by
      cases hx : x == c with
      | false => rfl
      | true => rw [eq_of_beq hx] at h; simp at h
    simp [List.isPrefixOf, this]
  | x :: s, b :: l, h => by
    simp only [List.cons_append, List.isPrefixOf]
    rw [prefix_sep r s l (fun hm => h (List.mem_cons_of_mem _ hm))]
theorem find_congr {α : Type} {p q : α → Bool} : ∀ {l : List α}, (∀ x ∈ l, p x = q x) → l.find? p = l.find? q
  | [], _ => rfl
  | x :: l, h => by
    rw [List.find?_cons, List.find?_cons, h x (List.mem_cons_self ..), find_congr fun y hy => h y (List.mem_cons_of_mem _ hy)]
theorem signOf_sep {c : UInt8} (hc : isSep c = true) (l r : List UInt8) : signOf (l ++ c :: r) = signOf l := by
  unfold signOf
  rw [find_congr fun s hs => prefix_sep r s l ((sep_spec hc).2.2.2 s hs)]
/-- What follows behind a separator does not matter. -/
theorem tok_sep {c : UInt8} (hc : isSep c = true) {l : List UInt8} (hl : l ≠ []) (r : List UInt8) : tok (l ++ c :: r) = tok l := by
  obtain ⟨h1, h2, h3, _⟩ := sep_spec hc
  cases l with
  | nil => exact absurd rfl hl
  | cons b l =>
    have e1 : (b :: l ++ c :: r).takeWhile isName = (b :: l).takeWhile isName := takeWhile_sep h1 r (b :: l)
    have e2 : (b :: l ++ c :: r).takeWhile isDig = (b :: l).takeWhile isDig := takeWhile_sep h2 r (b :: l)
    have e3 : (l ++ c :: r).takeWhile isLet = l.takeWhile isLet := takeWhile_sep h3 r l
    have e4 : signOf (b :: l ++ c :: r) = signOf (b :: l) := signOf_sep hc (b :: l) r
    simp only [List.cons_append] at e1 e2 e3 e4
    simp only [tok, List.cons_append, e1, e2, e3, e4]

theorem skp_sep (b : List UInt8) : ∀ (c : Bool) (l : List UInt8), skp c (l ++ 10 :: b) = if skp c l = l.length then l.length + 1 + skp false b else skp c l
  | false, [] => by simp [skp, isBlank]
  | true, [] => by simp [skp]
  | false, x :: l => by
    simp only [List.cons_append, skp]
    have h1 := skp_sep b false l
    have h2 := skp_sep b true l
    split
    · rw [h1]; split
      · rename_i h; rw [if_pos (by rw [List.length_cons]; omega), List.length_cons]; omega
      · rename_i h; rw [if_neg (by rw [List.length_cons]; omega)]
    split
    · rw [h2]; split
      · rename_i h; rw [if_pos (by rw [List.length_cons]; omega), List.length_cons]; omega
      · rename_i h; rw [if_neg (by rw [List.length_cons]; omega)]
    · rw [if_neg (by simp)]
  | true, x :: l => by
    simp only [List.cons_append, skp]
    have h1 := skp_sep b false l
    have h2 := skp_sep b true l
    split
    · rw [h1]; split
      · rename_i h; rw [if_pos (by rw [List.length_cons]; omega), List.length_cons]; omega
      · rename_i h; rw [if_neg (by rw [List.length_cons]; omega)]
    · rw [h2]; split
      · rename_i h; rw [if_pos (by rw [List.length_cons]; omega), List.length_cons]; omega
      · rename_i h; rw [if_neg (by rw [List.length_cons]; omega)]

/-- More fuel does not matter. -/
theorem toksF_fuel : ∀ (f g o : Nat) (l : List UInt8), l.length < f → l.length < g → toksF f o l = toksF g o l := by
  intro f
  induction f with
  | zero => intro g o l h; omega
  | succ f ih =>
    intro g o l hf hg
    cases g with
    | zero => omega
    | succ g =>
      cases l with
      | nil => rfl
      | cons b r =>
        simp only [toksF]
        split
        · rename_i he
          have hp := tok_pos (l := b :: r) (by simp) he
          have hl : ((b :: r).drop ((tok (b :: r)).2.1.length + skp false ((b :: r).drop (tok (b :: r)).2.1.length))).length < r.length + 1 := by
            rw [List.length_drop, List.length_cons]; omega
          rw [List.length_cons] at hf hg
          rw [ih g _ _ (by omega) (by omega)]
        · rfl
/-- The run that begins with blanks and comments. -/
def run (o : Nat) (l : List UInt8) : List Tk × Option (Nat × Int) × Nat := toksF (l.length + 1) (o + skp false l) (l.drop (skp false l))
theorem run_end {o : Nat} {l : List UInt8} (h : skp false l = l.length) : run o l = ([], none, o + l.length) := by
  unfold run
  rw [h, List.drop_length]; rfl
theorem run_go {o : Nat} {l : List UInt8} (h : skp false l ≠ l.length) : run o l =
    if (tok (l.drop (skp false l))).2.2 = 0 then
      (((tok (l.drop (skp false l))).1, (tok (l.drop (skp false l))).2.1, ((o + skp false l : Nat) : Int)) :: (run (o + skp false l + (tok (l.drop (skp false l))).2.1.length) (l.drop (skp false l + (tok (l.drop (skp false l))).2.1.length))).1,
        (run (o + skp false l + (tok (l.drop (skp false l))).2.1.length) (l.drop (skp false l + (tok (l.drop (skp false l))).2.1.length))).2)
    else ([], some (o + skp false l, (tok (l.drop (skp false l))).2.2), o + skp false l + (tok (l.drop (skp false l))).2.1.length) := by
  have hk := skp_le false l
  have hne : l.drop (skp false l) ≠ [] := fun he => by
    have := congrArg List.length he
    rw [List.length_drop, List.length_nil] at this
    omega
  unfold run
  generalize hd : l.drop (skp false l) = d at hne ⊢
  have hdl : d.length ≤ l.length := by rw [← hd, List.length_drop]; omega
  cases d with
  | nil => exact absurd rfl hne
  | cons b r =>
    have hl : 0 < l.length := by rw [List.length_cons] at hdl; omega
    rw [List.length_cons] at hdl
    cases hlen : l.length with
    | zero => omega
    | succ m =>
      simp only [toksF]
      split
      · rename_i he
        have hp := tok_pos (l := b :: r) (by simp) he
        have e : l.drop (skp false l + (tok (b :: r)).2.1.length) = (b :: r).drop (tok (b :: r)).2.1.length := by rw [← hd, List.drop_drop]
        rw [e, List.drop_drop]
        have hl2 : ((b :: r).drop ((tok (b :: r)).2.1.length + skp false ((b :: r).drop (tok (b :: r)).2.1.length))).length < r.length + 1 := by
          rw [List.length_drop, List.length_cons]; omega
        have hl3 : ((b :: r).drop ((tok (b :: r)).2.1.length + skp false ((b :: r).drop (tok (b :: r)).2.1.length))).length < ((b :: r).drop (tok (b :: r)).2.1.length).length + 1 := by
          simp only [List.length_drop]; omega
        rw [toksF_fuel (m + 1) (((b :: r).drop (tok (b :: r)).2.1.length).length + 1) _ _ (by omega) hl3]
      · rfl

theorem drop_app {l r : List UInt8} {n : Nat} (h : n ≤ l.length) : (l ++ r).drop n = l.drop n ++ r := by
  rw [List.drop_append, show n - l.length = 0 by omega, List.drop_zero]

/-- Two sources with a newline between. -/
theorem run_split (b : List UInt8) : ∀ (m : Nat) (l : List UInt8) (o : Nat), l.length < m → run o (l ++ 10 :: b) =
    match run o l with
    | (ts, some e, p) => (ts, some e, p)
    | (ts, none, _) => (ts ++ (run (o + l.length + 1) b).1, (run (o + l.length + 1) b).2) := by
  intro m
  induction m with
  | zero => intro l o h; omega
  | succ m ih =>
    intro l o hm
    have hk := skp_le false l
    have hs := skp_sep b false l
    by_cases h : skp false l = l.length
    · rw [run_end h]
      rw [if_pos h] at hs
      simp only [List.nil_append]
      unfold run
      rw [hs]
      have e : (l ++ 10 :: b).drop (l.length + 1 + skp false b) = b.drop (skp false b) := by
        rw [List.drop_append, List.drop_eq_nil_of_le (by omega), List.nil_append, show l.length + 1 + skp false b - l.length = skp false b + 1 by omega, List.drop_succ_cons]
      have hlb : (b.drop (skp false b)).length ≤ b.length := by rw [List.length_drop]; omega
      rw [e, toksF_fuel ((l ++ 10 :: b).length + 1) (b.length + 1) _ _ (by rw [List.length_append, List.length_cons]; omega) (by omega)]
      rw [show o + (l.length + 1 + skp false b) = o + l.length + 1 + skp false b by omega]
    · rw [if_neg h] at hs
      have h' : skp false (l ++ 10 :: b) ≠ (l ++ 10 :: b).length := by rw [hs, List.length_append, List.length_cons]; omega
      have hd : (l ++ 10 :: b).drop (skp false (l ++ 10 :: b)) = l.drop (skp false l) ++ 10 :: b := by rw [hs]; exact drop_app hk
      have hne : l.drop (skp false l) ≠ [] := fun he => by
        have := congrArg List.length he
        rw [List.length_drop, List.length_nil] at this
        omega
      rw [run_go h', run_go h, hd, tok_sep (by decide) hne b, hs]
      have htl := tok_len (l.drop (skp false l))
      rw [List.length_drop] at htl
      have e2 : (l ++ 10 :: b).drop (skp false l + (tok (l.drop (skp false l))).2.1.length) = l.drop (skp false l + (tok (l.drop (skp false l))).2.1.length) ++ 10 :: b := drop_app (by omega)
      rw [e2]
      by_cases he : (tok (l.drop (skp false l))).2.2 = 0
      · rw [if_pos he, if_pos he]
        have hp := tok_pos hne he
        rw [ih (l.drop (skp false l + (tok (l.drop (skp false l))).2.1.length)) _ (by rw [List.length_drop]; omega)]
        have el : o + skp false l + (tok (l.drop (skp false l))).2.1.length + (l.drop (skp false l + (tok (l.drop (skp false l))).2.1.length)).length + 1 = o + l.length + 1 := by
          rw [List.length_drop]; omega
        rw [el]
        rcases run (o + skp false l + (tok (l.drop (skp false l))).2.1.length) (l.drop (skp false l + (tok (l.drop (skp false l))).2.1.length)) with ⟨ts, _ | e, p⟩ <;> rfl
      · rw [if_neg he, if_neg he]

/-- A run begun later. -/
def shift (d : Nat) (r : List Tk × Option (Nat × Int) × Nat) : List Tk × Option (Nat × Int) × Nat := (r.1.map fun t => (t.1, t.2.1, t.2.2 + d), r.2.1.map fun e => (e.1 + d, e.2), r.2.2 + d)
theorem run_shift (d : Nat) : ∀ (m : Nat) (l : List UInt8) (o : Nat), l.length < m → run (o + d) l = shift d (run o l) := by
  intro m
  induction m with
  | zero => intro l o h; omega
  | succ m ih =>
    intro l o hm
    have hk := skp_le false l
    by_cases h : skp false l = l.length
    · rw [run_end h, run_end h]
      simp only [shift, List.map_nil, Option.map_none]
      rw [show o + d + l.length = o + l.length + d by omega]
    · have hne : l.drop (skp false l) ≠ [] := fun he => by
        have := congrArg List.length he
        rw [List.length_drop, List.length_nil] at this
        omega
      rw [run_go h, run_go h]
      by_cases he : (tok (l.drop (skp false l))).2.2 = 0
      · rw [if_pos he, if_pos he]
        have hp := tok_pos hne he
        rw [show o + d + skp false l + (tok (l.drop (skp false l))).2.1.length = o + skp false l + (tok (l.drop (skp false l))).2.1.length + d by omega]
        rw [ih _ _ (by rw [List.length_drop]; omega)]
        simp only [shift, List.map_cons]
        rw [show ((o + d + skp false l : Nat) : Int) = ((o + skp false l : Nat) : Int) + d by omega]
      · rw [if_neg he, if_neg he]
        simp only [shift, List.map_nil, Option.map_some]
        rw [show o + d + skp false l = o + skp false l + d by omega, show o + skp false l + d + (tok (l.drop (skp false l))).2.1.length = o + skp false l + (tok (l.drop (skp false l))).2.1.length + d by omega]

/-- A run's answer. -/
def ans (r : List Tk × Option (Nat × Int) × Nat) : List Tk × Int × Int := match r with
  | (_, some (a, e), _) => ([], a, e)
  | (l, none, _) => (l, 0, 0)
theorem lexR_eq (s : List UInt8) : lexR s = if 32768 < s.length then ([], 0, 3) else ans (run 0 s) := by
  unfold lexR run ans
  rw [Nat.zero_add]
  all_goals rfl
theorem run_err : ∀ (m : Nat) (l : List UInt8) (o : Nat), l.length < m → ∀ a e, (run o l).2.1 = some (a, e) → e ≠ 0 ∧ o ≤ a ∧ a < o + l.length ∧ (e = 30 ∨ e = 31 ∨ e = 32) := by
  intro m
  induction m with
  | zero => intro l o h; omega
  | succ m ih =>
    intro l o hm a e hr
    have hk := skp_le false l
    by_cases h : skp false l = l.length
    · rw [run_end h] at hr; cases hr
    · have hne : l.drop (skp false l) ≠ [] := fun he => by
        have := congrArg List.length he
        rw [List.length_drop, List.length_nil] at this
        omega
      rw [run_go h] at hr
      by_cases he : (tok (l.drop (skp false l))).2.2 = 0
      · rw [if_pos he] at hr
        have hp := tok_pos hne he
        have htl := tok_len (l.drop (skp false l))
        rw [List.length_drop] at htl
        obtain ⟨h1, h2, h3, h4⟩ := ih _ _ (by rw [List.length_drop]; omega) a e hr
        rw [List.length_drop] at h3
        exact ⟨h1, by omega, by omega, h4⟩
      · rw [if_neg he] at hr
        simp only [Option.some.injEq, Prod.mk.injEq] at hr
        obtain ⟨rfl, rfl⟩ := hr
        refine ⟨he, by omega, by omega, ?_⟩
        generalize l.drop (skp false l) = x at he ⊢
        unfold tok at he ⊢
        cases x with
        | nil => simp at he
        | cons b r =>
          simp only at he ⊢
          split at he
          · rename_i h1
            rw [if_pos h1]
            simp only [wordK] at he ⊢
            repeat' split at he
            all_goals first | (exact absurd rfl he) | skip
            rename_i g1 g2 g3
            rw [if_neg g1, if_neg g2, if_neg g3]; simp
          · rename_i h1
            rw [if_neg h1]
            split at he
            · rename_i h2
              rw [if_pos h2]
              simp only [numE] at he ⊢
              split at he
              · rename_i n hn
                repeat' split at he
                all_goals first | (exact absurd rfl he) | skip
                all_goals simp_all
              · rename_i hn
                simp_all
            · rename_i h2
              rw [if_neg h2]
              split at he
              · rename_i h3
                rw [if_pos h3]
                simp only at he ⊢
                split at he
                · exact absurd rfl he
                · rename_i h4; rw [if_neg h4]; simp
              · rename_i h3
                rw [if_neg h3]
                simp only at he ⊢
                split at he
                · rename_i h4; rw [if_pos h4]; simp
                · exact absurd rfl he
end Go.Sx.Lx
namespace Go.Sx.Lx
theorem run_toks : ∀ (m : Nat) (l : List UInt8) (o : Nat), l.length < m → (run o l).1.length ≤ l.length ∧ ∀ t ∈ (run o l).1, (o : Int) ≤ t.2.2 ∧ t.2.2 + t.2.1.length ≤ o + l.length := by
  intro m
  induction m with
  | zero => intro l o h; omega
  | succ m ih =>
    intro l o hm
    have hk := skp_le false l
    by_cases h : skp false l = l.length
    · rw [run_end h]; exact ⟨by simp, fun t ht => by cases ht⟩
    · have hne : l.drop (skp false l) ≠ [] := fun he => by
        have := congrArg List.length he
        rw [List.length_drop, List.length_nil] at this
        omega
      rw [run_go h]
      by_cases he : (tok (l.drop (skp false l))).2.2 = 0
      · rw [if_pos he]
        have hp := tok_pos hne he
        have htl := tok_len (l.drop (skp false l))
        rw [List.length_drop] at htl
        obtain ⟨h1, h2⟩ := ih (l.drop (skp false l + (tok (l.drop (skp false l))).2.1.length)) (o + skp false l + (tok (l.drop (skp false l))).2.1.length) (by rw [List.length_drop]; omega)
        rw [List.length_drop] at h1 h2
        refine ⟨by simp only [List.length_cons]; omega, fun t ht => ?_⟩
        rcases List.mem_cons.1 ht with rfl | ht
        · simp only; omega
        · have := h2 t ht; omega
      · rw [if_neg he]; exact ⟨by simp, fun t ht => by cases ht⟩
theorem shift_map (d : Nat) (l : List Tk) : (l.map fun t => ((t.1, t.2.1, t.2.2 + (d : Int)) : Tk)).map (fun t => (t.1, t.2.1)) = l.map fun t => (t.1, t.2.1) := by
  rw [List.map_map]; rfl
theorem alikeB_self (l : List Tk) : alikeB l l = true := (alikeB_iff l l).2 rfl
theorem map_de_to (l : List (List D)) (h : ∃ k : List Tk, l = k.map tokC) : l = (l.map deT).map tokC := by
  obtain ⟨k, rfl⟩ := h
  rw [map_deT]
end Go.Sx.Lx
namespace Go.Sx.Lx
theorem sep_35 : (List.range 256).all (fun n => !(isSep (UInt8.ofNat n)) || !(UInt8.ofNat n == 35)) = true := by decide +kernel
theorem sign_ne : ∀ s ∈ signL, s ≠ [] := by decide
theorem sep_tok {b : UInt8} (h : isSep b = true) (r : List UInt8) : (tok (b :: r)).2.2 ≠ 0 := by
  obtain ⟨h1, h2, h3, h4⟩ := sep_spec h
  have h5 : (b == 35) = false := by
    have := List.all_eq_true.1 sep_35 b.toNat (List.mem_range.2 b.toNat_lt)
    simpa [h] using this
  have h6 : (isLet b || isUnd b) = false := by
    simp only [isName, Bool.or_eq_false_iff] at h1
    simp only [h1.1.1, h1.2, Bool.or_false]
  have h7 : signOf (b :: r) = [] := by
    unfold signOf
    have : signL.find? (·.isPrefixOf (b :: r)) = none := by
      rw [List.find?_eq_none]
      intro s hs hp
      cases s with
      | nil => exact sign_ne _ hs rfl
      | cons x s =>
        have : x = b := by simp [List.isPrefixOf] at hp; exact hp.1
        exact h4 _ hs (by rw [this]; exact List.mem_cons_self ..)
    rw [this]; rfl
  simp only [tok, h6, h2, h5, Bool.false_eq_true, if_false, h7, if_true]
  decide

theorem takeWhile_idem (p : UInt8 → Bool) (l : List UInt8) : (l.takeWhile p).takeWhile p = l.takeWhile p := by
  induction l with
  | nil => rfl
  | cons b r ih =>
    rw [List.takeWhile_cons]
    split
    · rename_i h; rw [List.takeWhile_cons, if_pos h, ih]
    · rfl
theorem sign_self : ∀ s ∈ signL, signOf s = s := by decide +kernel
theorem sign_first : ∀ s ∈ signL, ∀ b ∈ s.head?, isLet b = false ∧ isUnd b = false ∧ isDig b = false ∧ (b == 35) = false := by decide +kernel
theorem signOf_mem {l : List UInt8} (h : signOf l ≠ []) : signOf l ∈ signL := by
  unfold signOf at h ⊢
  cases hf : signL.find? (·.isPrefixOf l) with
  | none => rw [hf] at h; exact absurd rfl h
  | some s => exact List.mem_of_find?_eq_some hf
/-- A token's text, read by itself, is that token. -/
theorem tok_self {l : List UInt8} (hl : l ≠ []) (h : (tok l).2.2 = 0) : tok (tok l).2.1 = tok l := by
  cases l with
  | nil => exact absurd rfl hl
  | cons b r =>
    by_cases h1 : (isLet b || isUnd b) = true
    · have e : tok (b :: r) = ((wordK ((b :: r).takeWhile isName)).1, (b :: r).takeWhile isName, (wordK ((b :: r).takeWhile isName)).2) := by simp only [tok, h1, if_true]
      have hb : isName b = true := by simp only [isName]; simp only [Bool.or_eq_true] at h1 ⊢; rcases h1 with h | h <;> simp [h]
      have e2 : (b :: r).takeWhile isName = b :: r.takeWhile isName := by rw [List.takeWhile_cons, if_pos hb]
      rw [e]
      simp only
      rw [e2]
      simp only [tok, h1, if_true]
      have e3 : (b :: r.takeWhile isName).takeWhile isName = b :: r.takeWhile isName := by rw [List.takeWhile_cons, if_pos hb, takeWhile_idem]
      rw [e3]
    · by_cases h2 : isDig b = true
      · have e : tok (b :: r) = (3, (b :: r).takeWhile isDig, numE ((b :: r).takeWhile isDig)) := by simp only [tok, h1, h2, if_true, if_false]; simp
        have e2 : (b :: r).takeWhile isDig = b :: r.takeWhile isDig := by rw [List.takeWhile_cons, if_pos h2]
        have e3 : (b :: r.takeWhile isDig).takeWhile isDig = b :: r.takeWhile isDig := by rw [List.takeWhile_cons, if_pos h2, takeWhile_idem]
        rw [e]
        simp only
        rw [e2]
        simp only [tok, h1, h2, if_true, e3]; simp
      · by_cases h3 : (b == 35) = true
        · have e : tok (b :: r) = (5, 35 :: r.takeWhile isLet, if 35 :: r.takeWhile isLet ∈ dirs then 0 else 31) := by simp only [tok, h1, h2, h3, if_true]; simp
          have hb : b = 35 := eq_of_beq h3
          subst hb
          rw [e]
          have e4 : tok (35 :: r.takeWhile isLet) = (5, 35 :: (r.takeWhile isLet).takeWhile isLet, if 35 :: (r.takeWhile isLet).takeWhile isLet ∈ dirs then 0 else 31) := by simp only [tok, h1, h2, h3, if_true]; simp
          rw [e4, takeWhile_idem]
        · have e : tok (b :: r) = (6, signOf (b :: r), if signOf (b :: r) = [] then 30 else 0) := by simp only [tok, h1, h2, h3]; simp
          rw [e] at h ⊢
          simp only at h ⊢
          by_cases hs : signOf (b :: r) = []
          · rw [if_pos hs] at h; cases h
          · have hm := signOf_mem hs
            have hself := sign_self _ hm
            have hf := sign_first _ hm
            generalize signOf (b :: r) = s at hs hm hself hf ⊢
            cases s with
            | nil => exact absurd rfl hs
            | cons x s =>
              obtain ⟨g1, g2, g3, g4⟩ := hf x rfl
              simp only [tok, g1, g2, g3, g4, Bool.or_self, Bool.false_eq_true, if_false, hself]

/-- A token that stands by itself. -/
def Val (t : Tk) : Prop := t.2.1 ≠ [] ∧ tok t.2.1 = (t.1, t.2.1, 0)
theorem val_of {l : List UInt8} (hl : l ≠ []) (h : (tok l).2.2 = 0) (a : Int) : Val ((tok l).1, (tok l).2.1, a) := by
  have hp := tok_pos hl h
  refine ⟨fun he => by rw [he] at hp; simp at hp, ?_⟩
  rw [tok_self hl h]
  exact Prod.ext rfl (Prod.ext rfl h)
theorem run_val : ∀ (m : Nat) (l : List UInt8) (o : Nat), l.length < m → ∀ t ∈ (run o l).1, Val t := by
  intro m
  induction m with
  | zero => intro l o h; omega
  | succ m ih =>
    intro l o hm
    have hk := skp_le false l
    by_cases h : skp false l = l.length
    · rw [run_end h]; intro t ht; cases ht
    · have hne : l.drop (skp false l) ≠ [] := fun he => by
        have := congrArg List.length he
        rw [List.length_drop, List.length_nil] at this
        omega
      rw [run_go h]
      by_cases he : (tok (l.drop (skp false l))).2.2 = 0
      · rw [if_pos he]
        have hp := tok_pos hne he
        intro t ht
        rcases List.mem_cons.1 ht with rfl | ht
        · exact val_of hne he _
        · exact ih (l.drop (skp false l + (tok (l.drop (skp false l))).2.1.length)) _ (by rw [List.length_drop]; omega) t ht
      · rw [if_neg he]; intro t ht; cases ht

/-- It begins with a separator, or is empty. -/
def Sepd (r : List UInt8) : Prop := r = [] ∨ ∃ c q, r = c :: q ∧ isSep c = true
theorem val_tok {t : Tk} (h : Val t) {r : List UInt8} (hr : Sepd r) : tok (t.2.1 ++ r) = (t.1, t.2.1, 0) := by
  rcases hr with rfl | ⟨c, q, rfl, hc⟩
  · rw [List.append_nil]; exact h.2
  · rw [tok_sep hc h.1]; exact h.2
theorem val_head {t : Tk} (h : Val t) : ∃ b r, t.2.1 = b :: r ∧ isSep b = false := by
  obtain ⟨h1, h2⟩ := h
  cases hs : t.2.1 with
  | nil => exact absurd hs h1
  | cons b r =>
    refine ⟨b, r, rfl, ?_⟩
    rw [hs] at h2
    cases hb : isSep b with
    | false => rfl
    | true => exact absurd (by rw [h2]) (sep_tok hb r)
theorem skp_head {b : UInt8} (h : isSep b = false) (r : List UInt8) : skp false (b :: r) = 0 := by
  simp only [isSep, Bool.or_eq_false_iff] at h
  simp only [skp, h.1, h.2, Bool.false_eq_true, if_false]
/-- A gap: blanks and comments that end before what is no separator. -/
def Gap (g : List UInt8) : Prop := ∀ b r, isSep b = false → skp false (g ++ b :: r) = g.length
theorem run_piece {g : List UInt8} {t : Tk} {r : List UInt8} (hg : Gap g) (ht : Val t) (hr : Sepd r) (o : Nat) :
    run o (g ++ (t.2.1 ++ r)) = ((t.1, t.2.1, ((o + g.length : Nat) : Int)) :: (run (o + g.length + t.2.1.length) r).1, (run (o + g.length + t.2.1.length) r).2) := by
  obtain ⟨b, q, hb, hs⟩ := val_head ht
  have h1 : skp false (g ++ (t.2.1 ++ r)) = g.length := by rw [hb]; exact hg b (q ++ r) hs
  have h2 : (g ++ (t.2.1 ++ r)).drop g.length = t.2.1 ++ r := List.drop_left' rfl
  have hlt : 0 < t.2.1.length := by rw [hb]; simp
  rw [run_go (by rw [h1]; simp only [List.length_append]; omega), h1, h2, val_tok ht hr, if_pos rfl]
  have h3 : (g ++ (t.2.1 ++ r)).drop (g.length + t.2.1.length) = r := by rw [← List.drop_drop, h2, List.drop_left' rfl]
  rw [h3]
theorem gap_nil : Gap [] := fun b r h => by simpa using skp_head h r
theorem gap_blank {c : UInt8} (h : isBlank c = true) {g : List UInt8} (hg : Gap g) : Gap (c :: g) := fun b r hb => by
  simp only [List.cons_append, skp, h, if_true, hg b r hb, List.length_cons]; omega

/-- The texts behind each other, a blank ahead of each. -/
def tailJ : List Tk → List UInt8
  | [] => []
  | t :: r => 32 :: (t.2.1 ++ tailJ r)
theorem tailJ_sep (l : List Tk) : Sepd (tailJ l) := by
  cases l with
  | nil => exact .inl rfl
  | cons t r => exact .inr ⟨32, _, rfl, rfl⟩
theorem run_tailJ : ∀ (l : List Tk) (o : Nat), (∀ t ∈ l, Val t) → (run o (tailJ l)).2.1 = none ∧ alikeB l (run o (tailJ l)).1 = true
  | [], o, _ => by
    have : run o (tailJ []) = ([], none, o + 0) := run_end rfl
    rw [this]; exact ⟨rfl, rfl⟩
  | t :: r, o, h => by
    have hp := run_piece (gap_blank (c := 32) rfl gap_nil) (h t (List.mem_cons_self ..)) (tailJ_sep r) o
    obtain ⟨h1, h2⟩ := run_tailJ r (o + [(32 : UInt8)].length + t.2.1.length) fun x hx => h x (List.mem_cons_of_mem _ hx)
    have e : tailJ (t :: r) = [32] ++ (t.2.1 ++ tailJ r) := rfl
    rw [e, hp]
    refine ⟨h1, ?_⟩
    simp only [alikeB, decide_true, Bool.and_self, Bool.true_and]
    exact h2
theorem joinTail_eq : ∀ l : List Tk, Lib.joinTail [32] (l.map (·.2.1)) = tailJ l
  | [] => rfl
  | t :: r => by
    have := joinTail_eq r
    simp [Lib.joinTail, tailJ] at this ⊢
    exact this
theorem join_tail (t : Tk) (r : List Tk) : Lib.join ((t :: r).map (·.2.1)) [32] = t.2.1 ++ tailJ r := by
  rw [List.map_cons, Lib.join_cons, joinTail_eq]
theorem run_join (l : List Tk) (h : ∀ t ∈ l, Val t) : (run 0 (Lib.join (l.map (·.2.1)) [32])).2.1 = none ∧ alikeB l (run 0 (Lib.join (l.map (·.2.1)) [32])).1 = true := by
  cases l with
  | nil =>
    rw [List.map_nil, Lib.join_nil]
    have : run 0 [] = ([], none, 0 + 0) := run_end rfl
    rw [this]; exact ⟨rfl, rfl⟩
  | cons t r =>
    rw [join_tail]
    have hp := run_piece gap_nil (h t (List.mem_cons_self ..)) (tailJ_sep r) 0
    obtain ⟨h1, h2⟩ := run_tailJ r (0 + ([] : List UInt8).length + t.2.1.length) fun x hx => h x (List.mem_cons_of_mem _ hx)
    rw [List.nil_append] at hp
    rw [hp]
    refine ⟨h1, ?_⟩
    simp only [alikeB, decide_true, Bool.and_self, Bool.true_and]
    exact h2
theorem tailJ_len : ∀ (l : List Tk) (B : Nat), (∀ t ∈ l, t.2.1.length ≤ B) → (tailJ l).length ≤ l.length * (B + 1)
  | [], B, _ => by simp [tailJ]
  | t :: r, B, h => by
    have h1 := h t (List.mem_cons_self ..)
    have h2 := tailJ_len r B fun x hx => h x (List.mem_cons_of_mem _ hx)
    simp only [tailJ, List.length_cons, List.length_append]
    rw [Nat.add_mul, Nat.one_mul]
    omega

/-- What is skipped is blanks and comments. -/
theorem skp_empty : ∀ (c : Bool) (l : List UInt8), emptyB c (l.take (skp c l)) = true
  | _, [] => by simp [skp, emptyB]
  | false, b :: r => by
    have h1 := skp_empty false r
    have h2 := skp_empty true r
    simp only [skp]
    split
    · rename_i hb
      rw [Nat.add_comm, List.take_succ_cons]
      simp only [emptyB]
      simp only [isBlank, Bool.or_eq_true, beq_iff_eq] at hb
      rcases hb with ((rfl | rfl) | rfl) | rfl <;> simp [h1]
    split
    · rename_i hb
      rw [Nat.add_comm, List.take_succ_cons]
      have hb := eq_of_beq hb
      subst hb
      simp [emptyB, h2]
    · simp [emptyB]
  | true, b :: r => by
    have h1 := skp_empty false r
    have h2 := skp_empty true r
    simp only [skp]
    split
    · rename_i hb
      rw [Nat.add_comm, List.take_succ_cons]
      have hb := eq_of_beq hb
      subst hb
      simp [emptyB, h1]
    · rename_i hb
      rw [Nat.add_comm, List.take_succ_cons]
      have hb : b ≠ 10 := fun h => hb (by simp [h])
      simp [emptyB, hb, h2]
/-- The tokens stand in the source, from a place on, with blanks and comments between. -/
def Occ (s : List UInt8) : Nat → List Tk → Prop
  | i, [] => emptyB false (s.drop i) = true
  | i, t :: r => ∃ n : Nat, t.2.2 = (n : Int) ∧ i ≤ n ∧ n + t.2.1.length ≤ s.length ∧ (s.drop n).take t.2.1.length = t.2.1 ∧ emptyB false ((s.take n).drop i) = true ∧ Occ s (n + t.2.1.length) r
theorem tok_take (l : List UInt8) : l.take (tok l).2.1.length = (tok l).2.1 := by
  cases l with
  | nil => simp [tok]
  | cons b r =>
    have tw : ∀ (p : UInt8 → Bool) (l : List UInt8), l.take (l.takeWhile p).length = l.takeWhile p := fun p l => (List.prefix_iff_eq_take.1 (List.takeWhile_prefix p)).symm
    unfold tok
    simp only
    split
    · exact tw _ _
    split
    · exact tw _ _
    split
    · rename_i h; rw [eq_of_beq h]; simp [tw]
    · simp only [signOf]
      cases hf : signL.find? (·.isPrefixOf (b :: r)) with
      | none => simp
      | some s =>
        have := List.find?_some hf
        exact (List.prefix_iff_eq_take.1 (List.isPrefixOf_iff_prefix.1 this)).symm
theorem run_occ (s : List UInt8) : ∀ (m o : Nat), s.length - o < m → o ≤ s.length → (run o (s.drop o)).2.1 = none → Occ s o (run o (s.drop o)).1 := by
  intro m
  induction m with
  | zero => intro o h; omega
  | succ m ih =>
    intro o hm ho hn
    have hk := skp_le false (s.drop o)
    have hem := skp_empty false (s.drop o)
    rw [List.length_drop] at hk
    by_cases h : skp false (s.drop o) = (s.drop o).length
    · rw [run_end h]
      rw [h, List.take_length] at hem
      exact hem
    · have hne : (s.drop o).drop (skp false (s.drop o)) ≠ [] := fun he => by
        have := congrArg List.length he
        rw [List.length_drop, List.length_nil] at this
        have := skp_le false (s.drop o)
        omega
      rw [List.length_drop] at h
      rw [run_go (by rw [List.length_drop]; exact h)] at hn ⊢
      by_cases he : (tok ((s.drop o).drop (skp false (s.drop o)))).2.2 = 0
      · rw [if_pos he] at hn ⊢
        have hp := tok_pos hne he
        have htl := tok_len ((s.drop o).drop (skp false (s.drop o)))
        have htk := tok_take ((s.drop o).drop (skp false (s.drop o)))
        rw [List.length_drop, List.length_drop] at htl
        rw [List.drop_drop] at hn hp htl htk ⊢
        have ed : (s.drop o).drop (skp false (s.drop o) + (tok (s.drop (o + skp false (s.drop o)))).2.1.length) = s.drop (o + skp false (s.drop o) + (tok (s.drop (o + skp false (s.drop o)))).2.1.length) := by
          rw [List.drop_drop, Nat.add_assoc]
        rw [ed] at hn ⊢
        have hx := ih (o + skp false (s.drop o) + (tok (s.drop (o + skp false (s.drop o)))).2.1.length) (by omega) (by omega) hn
        refine ⟨o + skp false (s.drop o), rfl, by omega, by simp only; omega, htk, ?_, hx⟩
        have : (s.take (o + skp false (s.drop o))).drop o = (s.drop o).take (skp false (s.drop o)) := by rw [List.drop_take]; congr 1; omega
        rw [this]; exact hem
      · rw [if_neg he] at hn; cases hn
end Go.Sx.Lx
namespace Go.Sx.Lx
theorem run_lens : ∀ (m : Nat) (l : List UInt8) (o : Nat), l.length < m → Lib.lens ((run o l).1.map (·.2.1)) ≤ l.length := by
  intro m
  induction m with
  | zero => intro l o h; omega
  | succ m ih =>
    intro l o hm
    have hk := skp_le false l
    by_cases h : skp false l = l.length
    · rw [run_end h]; simp [Lib.lens]
    · have hne : l.drop (skp false l) ≠ [] := fun he => by
        have := congrArg List.length he
        rw [List.length_drop, List.length_nil] at this
        omega
      rw [run_go h]
      by_cases he : (tok (l.drop (skp false l))).2.2 = 0
      · rw [if_pos he]
        have hp := tok_pos hne he
        have htl := tok_len (l.drop (skp false l))
        rw [List.length_drop] at htl
        have h1 := ih (l.drop (skp false l + (tok (l.drop (skp false l))).2.1.length)) (o + skp false l + (tok (l.drop (skp false l))).2.1.length) (by rw [List.length_drop]; omega)
        rw [List.length_drop] at h1
        simp only [Lib.lens, List.map_cons, List.sum_cons] at h1 ⊢
        omega
      · rw [if_neg he]; simp [Lib.lens]
theorem join_le (l : List Tk) : (Lib.join (l.map (·.2.1)) [32]).length ≤ l.length + Lib.lens (l.map (·.2.1)) := by
  cases l with
  | nil => simp [Lib.join_nil]
  | cons t r =>
    rw [List.map_cons, Lib.join_length]
    simp
end Go.Sx.Lx
namespace Go.Sx.Lx
def fills : List (List UInt8) := [[32], [10], [9, 32], [37, 10], [32, 37, 32, 97, 46, 32, 35, 120, 10], [13, 10]]
/-- The end that is appended. -/
def theEnd : List UInt8 := [32, 37, 32, 116, 104, 101, 32, 101, 110, 100]
def pickF (g : Int) : Int := pickG g 6
theorem pickF_lt (g : Int) : 0 ≤ pickF g ∧ pickF g < 6 := by
  have h1 := Int.tmod_lt_of_pos g (b := 6) (by omega)
  have h2 := Int.tmod_lt_of_pos (-g) (b := 6) (by omega)
  rw [Int.neg_tmod] at h2
  unfold pickF pickG
  split <;> omega
def fillOf (g : Int) : List UInt8 := fills.getD (pickF g).toNat []
theorem fillOf_mem (g : Int) : fillOf g ∈ fills := by
  have h := pickF_lt g
  unfold fillOf
  rw [List.getD_eq_getElem?_getD, List.getElem?_eq_getElem (by have : fills.length = 6 := rfl; omega), Option.getD_some]
  exact List.getElem_mem _
theorem fill_gap : ∀ f ∈ fills, Gap f ∧ (∃ c q, f = c :: q ∧ isSep c = true) ∧ f.length ≤ 9 := by
  intro f hf
  simp only [fills, List.mem_cons, List.not_mem_nil, or_false] at hf
  rcases hf with rfl | rfl | rfl | rfl | rfl | rfl
  all_goals refine ⟨fun b r hb => ?_, ⟨_, _, rfl, rfl⟩, by decide⟩
  all_goals
    have h0 : skp false (b :: r) = 0 := skp_head hb r
    simp only [List.cons_append, List.nil_append]
    generalize b :: r = x at h0
    simp [skp, isBlank, h0]
def gapF (gs : List Int) (i : Nat) : Int := if i < gs.length then gs.getD i 0 else i
/-- The tokens with gaps ahead of them, the end. -/
def tailB (gs : List Int) : Nat → List Tk → List UInt8
  | _, [] => theEnd
  | i, t :: r => fillOf (gapF gs i) ++ (t.2.1 ++ tailB gs (i + 1) r)
def offB (gs : List Int) : Nat → Nat → List Tk → List Int
  | _, _, [] => []
  | i, o, t :: r => ((o + (fillOf (gapF gs i)).length : Nat) : Int) :: offB gs (i + 1) (o + (fillOf (gapF gs i)).length + t.2.1.length) r
def finB (gs : List Int) : Nat → List Tk → List UInt8 → List Int → List UInt8 × List Int
  | _, [], s, o => (s, o)
  | i, t :: r, s, o => finB gs (i + 1) r (s ++ fillOf (gapF gs i) ++ t.2.1) (o ++ [((s ++ fillOf (gapF gs i)).length : Int)])
theorem finB_eq (gs : List Int) : ∀ (l : List Tk) (i : Nat) (s : List UInt8) (o : List Int), (finB gs i l s o).1 ++ theEnd = s ++ tailB gs i l ∧ (finB gs i l s o).2 = o ++ offB gs i s.length l
  | [], i, s, o => by simp [finB, tailB, offB]
  | t :: r, i, s, o => by
    obtain ⟨h1, h2⟩ := finB_eq gs r (i + 1) (s ++ fillOf (gapF gs i) ++ t.2.1) (o ++ [((s ++ fillOf (gapF gs i)).length : Int)])
    simp only [finB, tailB, offB]
    rw [h1, h2]
    simp [Nat.add_assoc]
theorem tailB_sep (gs : List Int) (i : Nat) (l : List Tk) : Sepd (tailB gs i l) := by
  cases l with
  | nil => exact .inr ⟨32, _, rfl, rfl⟩
  | cons t r =>
    obtain ⟨_, ⟨c, q, h, hc⟩, _⟩ := fill_gap _ (fillOf_mem (gapF gs i))
    exact .inr ⟨c, q ++ (t.2.1 ++ tailB gs (i + 1) r), by simp only [tailB, h, List.cons_append], hc⟩
theorem run_tailB (gs : List Int) : ∀ (l : List Tk) (i o : Nat), (∀ t ∈ l, Val t) → (run o (tailB gs i l)).2.1 = none ∧ alikeB l (run o (tailB gs i l)).1 = true ∧ (run o (tailB gs i l)).1.map (·.2.2) = offB gs i o l
  | [], i, o, _ => by
    have : run o (tailB gs i []) = ([], none, o + theEnd.length) := run_end (l := theEnd) (by decide)
    rw [this]; exact ⟨rfl, rfl, rfl⟩
  | t :: r, i, o, h => by
    obtain ⟨hg, _, _⟩ := fill_gap _ (fillOf_mem (gapF gs i))
    have hp := run_piece hg (h t (List.mem_cons_self ..)) (tailB_sep gs (i + 1) r) o
    obtain ⟨h1, h2, h3⟩ := run_tailB gs r (i + 1) (o + (fillOf (gapF gs i)).length + t.2.1.length) fun x hx => h x (List.mem_cons_of_mem _ hx)
    have e : tailB gs i (t :: r) = fillOf (gapF gs i) ++ (t.2.1 ++ tailB gs (i + 1) r) := rfl
    rw [e, hp]
    refine ⟨h1, ?_, ?_⟩
    · simp only [alikeB, decide_true, Bool.and_self, Bool.true_and]
      exact h2
    · simp only [List.map_cons, offB, h3]
theorem offB_len (gs : List Int) : ∀ (l : List Tk) (i o : Nat), (offB gs i o l).length = l.length
  | [], _, _ => rfl
  | t :: r, i, o => by simp [offB, offB_len gs r]
end Go.Sx.Lx

/- The reference model's lexer, plainly: its tests are the lexer's. -/
namespace Go.Sx.Lx
open Go.Sx
theorem dropWhile_drop (p : UInt8 → Bool) : ∀ s : List UInt8, s.dropWhile p = s.drop (s.takeWhile p).length
  | [] => rfl
  | b :: r => by
    rw [List.dropWhile_cons, List.takeWhile_cons]
    split
    · rw [List.length_cons, List.drop_succ_cons, dropWhile_drop p r]
    · rfl
theorem runTo_zero (p : UInt8 → Bool) (s : List UInt8) : runTo p s 0 = (s.takeWhile p).length := by unfold runTo; rw [List.drop_zero, Nat.zero_add]
theorem wordB_eq (first : UInt8 → Bool) (s : List UInt8) : wordB first s = (decide (runTo isUnd s 0 < s.length) && first (s.getD (runTo isUnd s 0) 0) && ((s.drop (runTo isUnd s 0)).all isName && decide (s.length ≤ 32))) := by
  unfold wordB
  rw [dropWhile_drop, ← runTo_zero]
  by_cases h : runTo isUnd s 0 < s.length
  · rw [drop_getD (d := 0) h, decide_eq_true h, Bool.true_and]
    simp only [Bool.and_assoc]
  · rw [List.drop_eq_nil_of_le (by omega), decide_eq_false h]; rfl
theorem dig_und : (List.range 256).all (fun n => !(isDig (UInt8.ofNat n)) || (!(isUnd (UInt8.ofNat n)) && !(isUp (UInt8.ofNat n)))) = true := by decide +kernel
theorem dig_spec {b : UInt8} (h : isDig b = true) : isUnd b = false ∧ isUp b = false := by
  have := List.all_eq_true.1 dig_und b.toNat (List.mem_range.2 b.toNat_lt)
  rw [UInt8.ofNat_toNat] at this
  rw [h] at this
  simpa using this
theorem isUnd_iff (b : UInt8) : isUnd b = true ↔ b = 95 := by simp [isUnd]
/-- 'Variable' of the reference model. -/
def varR (s : List UInt8) : Bool :=
  if runTo isUnd s 0 < s.length ∧ isUp (s.getD (runTo isUnd s 0) 0) = true then (s.drop (runTo isUnd s 0)).all isName && decide (s.length ≤ 32)
  else if runTo isUnd s 0 = 1 ∧ s.length ≤ 32 then (s.drop 1).all isDig else false
theorem varR_eq (s : List UInt8) : varR s = variableB s := by
  unfold varR variableB
  rw [wordB_eq]
  by_cases h : runTo isUnd s 0 < s.length ∧ isUp (s.getD (runTo isUnd s 0) 0) = true
  · rw [if_pos h, decide_eq_true h.1, h.2, Bool.true_and, Bool.true_and]
    suffices hx : ∀ (t : List UInt8), s = 95 :: t → t.all isDig = false by
      split
      · rename_i t; rw [hx t rfl]; simp
      · simp
    rintro t rfl
    rw [runTo_zero, List.takeWhile_cons, if_pos (show isUnd 95 = true from rfl)] at h
    simp only [List.length_cons, List.getD_cons_succ] at h
    have h1 : (t.takeWhile isUnd).length < t.length := by omega
    cases ha : t.all isDig with
    | false => rfl
    | true =>
      have := List.all_eq_true.1 ha (t.getD (t.takeWhile isUnd).length 0) (by rw [List.getD_eq_getElem?_getD, List.getElem?_eq_getElem h1]; exact List.getElem_mem h1)
      rw [(dig_spec this).2] at h
      exact absurd h.2 (by simp)
  · rw [if_neg h]
    have hw : (decide (runTo isUnd s 0 < s.length) && isUp (s.getD (runTo isUnd s 0) 0)) = false := by
      cases h1 : decide (runTo isUnd s 0 < s.length) with
      | false => rfl
      | true =>
        cases h2 : isUp (s.getD (runTo isUnd s 0) 0) with
        | false => rfl
        | true => exact absurd ⟨of_decide_eq_true h1, h2⟩ h
    rw [hw, Bool.false_and, Bool.false_or]
    cases s with
    | nil => simp [runTo]
    | cons b t =>
      by_cases hb : b = 95
      · subst hb
        have e : runTo isUnd (95 :: t) 0 = (t.takeWhile isUnd).length + 1 := by rw [runTo_zero, List.takeWhile_cons, if_pos (show isUnd 95 = true from rfl)]; rfl
        rw [e]
        simp only [List.drop_succ_cons, List.drop_zero]
        by_cases ht : (t.takeWhile isUnd).length = 0
        · by_cases hl : (95 :: t : List UInt8).length ≤ 32
          · rw [if_pos ⟨by omega, hl⟩, decide_eq_true hl, Bool.and_true]
          · rw [if_neg (fun h => hl h.2), decide_eq_false hl, Bool.and_false]
        · rw [if_neg (fun h => ht (by omega))]
          cases t with
          | nil => exact absurd rfl ht
          | cons c q =>
            have hc : isUnd c = true := by
              cases hc : isUnd c with
              | true => rfl
              | false => rw [List.takeWhile_cons, if_neg (by simp [hc])] at ht; exact absurd rfl ht
            have hd : isDig c = false := by
              cases hd : isDig c with
              | false => rfl
              | true => rw [(dig_spec hd).1] at hc; cases hc
            simp [hd]
      · have e : runTo isUnd (b :: t) 0 = 0 := by
          rw [runTo_zero, List.takeWhile_cons, if_neg (by rw [isUnd_iff]; exact hb)]; rfl
        rw [e, if_neg (by simp)]
        split
        · rename_i heq; cases heq; exact absurd rfl hb
        · rfl
theorem symbolB_ref (s : List UInt8) : symbolB s = (decide (runTo isUnd s 0 < s.length) && isLow (s.getD (runTo isUnd s 0) 0) && ((s.drop (runTo isUnd s 0)).all isName && decide (s.length ≤ 32)) && !decide (s = notS)) := by
  unfold symbolB
  rw [wordB_eq]
  by_cases h : s = notS <;> simp [h]
end Go.Sx.Lx

/- Numbers and signs of the reference model. -/
namespace Go.Sx.Lx
open Go.Sx
def valN (a : Nat) (l : List UInt8) : Nat := l.foldl (fun a c => a * 10 + (c.toNat - 48)) a
theorem valN_cons (a : Nat) (c : UInt8) (r : List UInt8) : valN a (c :: r) = valN (a * 10 + (c.toNat - 48)) r := by unfold valN; rw [List.foldl_cons]
theorem valN_nil (a : Nat) : valN a [] = a := by unfold valN; rw [List.foldl_nil]
attribute [irreducible] valN
theorem valN_le (l : List UInt8) : ∀ (a : Nat), a ≤ valN a l := by
  induction l with
  | nil => intro a; rw [valN_nil]; exact Nat.le_refl _
  | cons c r ih =>
    intro a
    rw [valN_cons]
    exact Nat.le_trans (by omega) (ih _)
theorem valN_app (l r : List UInt8) : ∀ (a : Nat), valN a (l ++ r) = valN (valN a l) r := by
  induction l with
  | nil => intro a; rw [valN_nil]; rfl
  | cons c l ih => intro a; rw [List.cons_append, valN_cons, valN_cons, ih]
theorem isDig_iff (b : UInt8) : isDig b = true ↔ 48 ≤ b.toNat ∧ b.toNat ≤ 57 := by simp [isDig]
theorem parse_ok : ∀ (l : List UInt8) (a u : Nat), Lib.parseUint10 a l = .ok u → u = valN a l
  | [], a, u, h => by simp only [Lib.parseUint10] at h; cases h; rw [valN_nil]
  | c :: r, a, u, h => by
    simp only [Lib.parseUint10] at h
    split at h
    · split at h
      · cases h
      · split at h
        · cases h
        · rw [valN_cons]; exact parse_ok r _ u h
    · cases h
theorem parse_small : ∀ (l : List UInt8) (a : Nat), l.all isDig = true → valN a l ≤ 2147483647 → Lib.parseUint10 a l = .ok (valN a l)
  | [], a, _, _ => by rw [valN_nil]; rfl
  | c :: r, a, hd, hv => by
    rw [List.all_cons, Bool.and_eq_true, isDig_iff] at hd
    rw [valN_cons] at hv
    have h1 := valN_le r (a * 10 + (c.toNat - 48))
    simp only [Lib.parseUint10]
    rw [valN_cons]
    rw [if_pos hd.1, if_neg (by omega), if_neg (by omega)]
    exact parse_small r _ hd.2 hv
theorem dec_val : ∀ (m : Nat) (l : List UInt8), l.length = m → l ≠ [] → l.all isDig = true → (Lib.decDigits (valN 0 l) = l ↔ l.length = 1 ∨ l.head? ≠ some 48) := by
  intro m
  induction m with
  | zero => intro l h hn; exact absurd (List.length_eq_zero_iff.1 h) hn
  | succ m ih =>
    intro l hl hne hd
    obtain ⟨q, c, rfl⟩ : ∃ q c, l = q ++ [c] := ⟨l.dropLast, l.getLast hne, (List.dropLast_concat_getLast hne).symm⟩
    rw [List.length_append, List.length_singleton] at hl
    rw [List.all_append, Bool.and_eq_true] at hd
    have hc : 48 ≤ c.toNat ∧ c.toNat ≤ 57 := by
      have := hd.2
      rw [List.all_cons, List.all_nil, Bool.and_true, isDig_iff] at this
      exact this
    rw [valN_app, valN_cons, valN_nil]
    have hcc : UInt8.ofNat (48 + (c.toNat - 48)) = c := by rw [show 48 + (c.toNat - 48) = c.toNat by omega]; simp
    cases q with
    | nil =>
      simp only [valN_nil, Nat.zero_mul, Nat.zero_add, List.nil_append, List.length_singleton, true_or, iff_true]
      rw [Lib.decDigits_one (by omega), hcc]
    | cons b r =>
      have hih := ih (b :: r) (by omega) (by simp) hd.1
      have hb : 48 ≤ b.toNat ∧ b.toNat ≤ 57 := by
        have := hd.1
        rw [List.all_cons, Bool.and_eq_true, isDig_iff] at this
        exact this.1
      have hge := valN_le r (0 * 10 + (b.toNat - 48))
      have hv : valN 0 (b :: r) = valN (0 * 10 + (b.toNat - 48)) r := valN_cons _ _ _
      by_cases h0 : valN 0 (b :: r) = 0
      · have hb0 : b = 48 := UInt8.toNat_inj.1 (by have : (48 : UInt8).toNat = 48 := rfl; omega)
        rw [h0, Nat.zero_mul, Nat.zero_add, Lib.decDigits_one (by omega)]
        constructor
        · intro h; have := congrArg List.length h; simp at this
        · rintro (h | h)
          · simp at h
          · rw [hb0] at h; simp at h
      · have hten : ¬ valN 0 (b :: r) * 10 + (c.toNat - 48) < 10 := by omega
        rw [Lib.decDigits, dif_neg hten, show (valN 0 (b :: r) * 10 + (c.toNat - 48)) / 10 = valN 0 (b :: r) by omega, show (valN 0 (b :: r) * 10 + (c.toNat - 48)) % 10 = c.toNat - 48 by omega, hcc]
        rw [List.append_left_inj, hih]
        constructor
        · rintro (h | h)
          · right
            simp only [List.cons_append, List.head?_cons, ne_eq, Option.some.injEq]
            rintro rfl
            have hr : r = [] := by cases r with
              | nil => rfl
              | cons x y => simp at h
            subst hr
            exact h0 (by rw [valN_cons, valN_nil]; rfl)
          · right; simpa using h
        · rintro (h | h)
          · simp at h
          · right; simpa using h
theorem itoa_nat (n : Nat) : Lib.itoa (n : Int) = Lib.decDigits n := by
  unfold Lib.itoa
  rw [if_neg (by omega), Int.toNat_natCast]
theorem numE_iff {s : List UInt8} (hne : s ≠ []) (hd : s.all isDig = true) : numE s = 0 ↔ valN 0 s ≤ 2147483647 ∧ (s.length = 1 ∨ s.head? ≠ some 48) := by
  rw [← dec_val _ s rfl hne hd]
  unfold numE
  cases s with
  | nil => exact absurd rfl hne
  | cons c r =>
    have hc : 48 ≤ c.toNat ∧ c.toNat ≤ 57 := by
      rw [List.all_cons, Bool.and_eq_true, isDig_iff] at hd; exact hd.1
    simp only [Lib.atoiAll]
    rw [if_neg (show ¬ (c.toNat = 43 ∨ c.toNat = 45) by omega)]
    simp only [Lib.parseMag, if_neg (List.cons_ne_nil c r), show ¬ c.toNat = 45 by omega, not_false_iff, true_and, false_and, if_false]
    by_cases hv : valN 0 (c :: r) ≤ 2147483647
    · rw [parse_small _ _ hd hv]
      simp only
      rw [if_neg (by omega)]
      simp only
      rw [if_neg (by omega), itoa_nat]
      by_cases hx : Lib.decDigits (valN 0 (c :: r)) = c :: r
      · rw [if_pos hx]; simp [hx, hv]
      · rw [if_neg hx]; simp [hx]
    · constructor
      · intro h
        exfalso
        cases hp : Lib.parseUint10 0 (c :: r)
        case ok u =>
          have := parse_ok _ _ _ hp
          rw [hp] at h
          simp only at h
          split at h
          · rename_i n heq
            split at heq
            · cases heq
            · cases heq
              rw [if_pos (by omega)] at h; cases h
          · cases h
        all_goals (rw [hp] at h; simp at h)
      · exact fun h => absurd h.1 hv
def twoL : List (List UInt8) := [[58, 45], [58, 126], [46, 46], [33, 61], [60, 61], [62, 61]]
def oneL : List UInt8 := [58, 46, 44, 59, 124, 40, 41, 123, 125, 91, 93, 61, 60, 62, 43, 45, 42, 47, 92, 64]
theorem sign_heads : ∀ s ∈ signL, ∃ h ∈ s.head?, h ∈ 33 :: oneL := by decide +kernel
theorem sign_two : ∀ b ∈ 33 :: oneL, ∀ c ∈ ([45, 126, 46, 61] : List UInt8), (signOf [b, c]).length = if [b, c] ∈ twoL then 2 else if b ∈ oneL then 1 else 0 := by decide +kernel
theorem sign_one : ∀ b ∈ 33 :: oneL, (signOf [b]).length = if [b] ∈ twoL then 2 else if b ∈ oneL then 1 else 0 := by decide +kernel
theorem sign_lens : ∀ s ∈ signL, s.length = 1 ∨ (s.length = 2 ∧ s.getD 1 0 ∈ ([45, 126, 46, 61] : List UInt8)) := by decide +kernel
theorem two_lens : ∀ s ∈ twoL, s.length = 2 ∧ s.getD 1 0 ∈ ([45, 126, 46, 61] : List UInt8) := by decide +kernel
theorem two_fst : ∀ s ∈ twoL, s.getD 0 0 ∈ 33 :: oneL := by decide +kernel
theorem one_sub : ∀ b ∈ oneL, b ∈ 33 :: oneL := fun b h => List.mem_cons_of_mem _ h
theorem signOf_len (b : UInt8) (r : List UInt8) : (signOf (b :: r)).length = if (b :: r).take 2 ∈ twoL then 2 else if b ∈ oneL then 1 else 0 := by
  by_cases hb : b ∈ 33 :: oneL
  · cases r with
    | nil => exact sign_one b hb
    | cons c q =>
      by_cases hc : c ∈ ([45, 126, 46, 61] : List UInt8)
      · have e : signOf (b :: c :: q) = signOf [b, c] := by
          unfold signOf
          rw [find_congr fun s hs => ?_]
          rcases sign_lens s hs with h | ⟨h, _⟩
          · match s, h with
            | [x], _ => simp [List.isPrefixOf]
          · match s, h with
            | [x, y], _ => simp [List.isPrefixOf]
        rw [e]; exact sign_two b hb c hc
      · have e : signOf (b :: c :: q) = signOf [b] := by
          unfold signOf
          rw [find_congr fun s hs => ?_]
          rcases sign_lens s hs with h | ⟨h, h2⟩
          · match s, h with
            | [x], _ => simp [List.isPrefixOf]
          · match s, h, h2 with
            | [x, y], _, h2 =>
              have hy : (y == c) = false := by
                cases hyc : y == c with
                | false => rfl
                | true => rw [beq_iff_eq] at hyc; subst hyc; exact absurd h2 hc
              simp [List.isPrefixOf, hy]
        rw [e, sign_one b hb]
        have n1 : ¬ ([b] ∈ twoL) := fun h => by have := (two_lens _ h).1; simp at this
        have n2 : ¬ ((b :: c :: q).take 2 ∈ twoL) := fun h => hc (two_lens _ h).2
        rw [if_neg n1, if_neg n2]
  · have e : signOf (b :: r) = [] := by
      unfold signOf
      rw [List.find?_eq_none.2 fun s hs => ?_]
      · rfl
      · obtain ⟨h, hh, hm⟩ := sign_heads s hs
        cases s with
        | nil => cases hh
        | cons x y =>
          simp only [List.head?_cons, Option.mem_def, Option.some.injEq] at hh
          subst hh
          simp only [List.isPrefixOf, Bool.and_eq_true, beq_iff_eq, not_and]
          rintro rfl
          exact absurd hm hb
    rw [e, if_neg (fun h => hb (two_fst ((b :: r).take 2) h)), if_neg (fun h => hb (one_sub b h))]
    rfl
end Go.Sx.Lx

/- The lexer's run, byte by byte. -/
namespace Go.Sx.Lx
open Go.Sx
theorem runAt_eq (s : List UInt8) (i : Nat) : run i (s.drop i) = toksF (s.length + 1) (skipTo s i) (s.drop (skipTo s i)) := by
  unfold run
  rw [List.drop_drop]
  have h := skp_le false (s.drop i)
  show toksF _ (skipTo s i) (s.drop (skipTo s i)) = _
  exact toksF_fuel _ _ _ _ (by unfold skipTo; simp only [List.length_drop]; omega) (by simp only [List.length_drop]; omega)
theorem runAt_congr {s : List UInt8} {i j : Nat} (h : skipTo s i = skipTo s j) : run i (s.drop i) = run j (s.drop j) := by rw [runAt_eq, runAt_eq, h]
theorem runAt_end {s : List UInt8} {i : Nat} (h : s.length ≤ i) : (run i (s.drop i)).1 = [] ∧ (run i (s.drop i)).2.1 = none := by
  rw [List.drop_eq_nil_of_le h]; exact ⟨rfl, rfl⟩
theorem runAt_blank {s : List UInt8} {i : Nat} (h : i < s.length) (hb : isBlank (s.getD i 0) = true) : run i (s.drop i) = run (i + 1) (s.drop (i + 1)) := by
  refine runAt_congr ?_
  rw [skipTo_blank s i, runTo_step h hb, ← skipTo_blank]
theorem runAt_cmt {s : List UInt8} {i : Nat} (h : i < s.length) (hb : s.getD i 0 = 37) : run i (s.drop i) = run (runTo inLine s i) (s.drop (runTo inLine s i)) :=
  runAt_congr (skipTo_cmt h hb)
theorem runAt_tok {s : List UInt8} {i : Nat} (h : i < s.length) (h1 : isBlank (s.getD i 0) = false) (h2 : s.getD i 0 ≠ 37) :
    ((tok (s.drop i)).2.2 = 0 → (run i (s.drop i)).1 = ((tok (s.drop i)).1, (tok (s.drop i)).2.1, (i : Int)) :: (run (i + (tok (s.drop i)).2.1.length) (s.drop (i + (tok (s.drop i)).2.1.length))).1 ∧
      (run i (s.drop i)).2.1 = (run (i + (tok (s.drop i)).2.1.length) (s.drop (i + (tok (s.drop i)).2.1.length))).2.1) ∧
    ((tok (s.drop i)).2.2 ≠ 0 → (run i (s.drop i)).2.1 = some (i, (tok (s.drop i)).2.2)) := by
  have hk : skp false (s.drop i) = 0 := by
    rw [drop_getD (d := 0) h]
    refine skp_stop ?_
    intro b hb
    simp only [List.head?_cons, Option.some.injEq] at hb
    subst hb; exact ⟨h1, h2⟩
  have hg := run_go (o := i) (l := s.drop i) (by rw [hk, List.length_drop]; omega)
  rw [hk] at hg
  simp only [List.drop_zero, Nat.add_zero, Nat.zero_add, List.drop_drop] at hg
  rw [hg]
  constructor
  · intro he; rw [if_pos he]; exact ⟨rfl, rfl⟩
  · intro he; rw [if_neg he]
/- What a token is, by its first byte. -/
theorem tok_name {s : List UInt8} {i : Nat} (h : i < s.length) (hb : (isLet (s.getD i 0) || isUnd (s.getD i 0)) = true) :
    tok (s.drop i) = ((wordK ((s.take (runTo isName s (i + 1))).drop i)).1, (s.take (runTo isName s (i + 1))).drop i, (wordK ((s.take (runTo isName s (i + 1))).drop i)).2) ∧ i + ((s.take (runTo isName s (i + 1))).drop i).length = runTo isName s (i + 1) := by
  have hn : isName (s.getD i 0) = true := by unfold isName; rw [Bool.or_eq_true] at hb; rcases hb with h | h <;> simp only [h, Bool.true_or, Bool.or_true]
  rw [← runTo_step h hn, runTo_text]
  refine ⟨?_, rfl⟩
  rw [drop_getD (d := 0) h]
  simp only [tok]
  rw [if_pos hb]
theorem dig_first : (List.range 256).all (fun n => !(isDig (UInt8.ofNat n)) || (!(isLet (UInt8.ofNat n)) && !(isUnd (UInt8.ofNat n)))) = true := by decide +kernel
theorem dig_not {b : UInt8} (h : isDig b = true) : isLet b = false ∧ isUnd b = false := by
  have := List.all_eq_true.1 dig_first b.toNat (List.mem_range.2 b.toNat_lt)
  rw [UInt8.ofNat_toNat, h] at this
  simpa using this
theorem tok_dig {s : List UInt8} {i : Nat} (h : i < s.length) (hb : isDig (s.getD i 0) = true) :
    tok (s.drop i) = (3, (s.take (runTo isDig s (i + 1))).drop i, numE ((s.take (runTo isDig s (i + 1))).drop i)) ∧ i + ((s.take (runTo isDig s (i + 1))).drop i).length = runTo isDig s (i + 1) ∧
    (s.take (runTo isDig s (i + 1))).drop i ≠ [] ∧ ((s.take (runTo isDig s (i + 1))).drop i).all isDig = true := by
  rw [← runTo_step h hb, runTo_text]
  refine ⟨?_, rfl, ?_, ?_⟩
  · rw [drop_getD (d := 0) h]
    obtain ⟨h1, h2⟩ := dig_not hb
    simp only [tok]
    rw [if_neg (by rw [h1, h2]; decide), if_pos hb]
  · rw [drop_getD (d := 0) h]
    exact List.length_pos_iff.1 (takeWhile_pos hb)
  · rw [List.all_eq_true]
    intro x hx
    exact (List.all_eq_true.1 (List.all_takeWhile (p := isDig) (l := s.drop i)) x hx)
theorem tok_dir {s : List UInt8} {i : Nat} (h : i < s.length) (hb : s.getD i 0 = 35) :
    tok (s.drop i) = (5, (s.take (runTo isLet s (i + 1))).drop i, if (s.take (runTo isLet s (i + 1))).drop i ∈ dirs then 0 else 31) ∧ i + ((s.take (runTo isLet s (i + 1))).drop i).length = runTo isLet s (i + 1) := by
  have h1 := runTo_le isLet s (i + 1)
  have h2 := runTo_len (p := isLet) (s := s) (i := i + 1) (by omega)
  have e : (s.take (runTo isLet s (i + 1))).drop i = 35 :: (s.drop (i + 1)).takeWhile isLet := by
    rw [drop_getD (d := 0) (by rw [List.length_take]; omega), runTo_text]
    congr 1
    rw [List.getD_eq_getElem?_getD, List.getElem?_take, if_pos (by omega), ← List.getD_eq_getElem?_getD]
    exact hb
  rw [e]
  refine ⟨?_, ?_⟩
  · rw [drop_getD (d := 0) h, hb]
    rfl
  · unfold runTo; rw [List.length_cons]; omega
theorem tok_sign {s : List UInt8} {i : Nat} (h : i < s.length) (h1 : (isLet (s.getD i 0) || isUnd (s.getD i 0)) = false) (h2 : isDig (s.getD i 0) = false) (h3 : s.getD i 0 ≠ 35) :
    tok (s.drop i) = (6, signOf (s.drop i), if signOf (s.drop i) = [] then 30 else 0) := by
  rw [drop_getD (d := 0) h]
  simp only [tok]
  rw [if_neg (by rw [h1]; decide), if_neg (by rw [h2]; decide), if_neg (by simp only [beq_iff_eq]; exact h3)]
/-- What the reference's Lex answers. -/
def ansR (l : List Tk) (q : List Tk × Option (Nat × Int) × Nat) : List Tk × Int × Int := match q.2.1 with
  | some (a, e) => ([], a, e)
  | none => (l ++ q.1, 0, 0)
theorem ansR_go {l : List Tk} {t : Tk} {q q' : List Tk × Option (Nat × Int) × Nat} (h1 : q.1 = t :: q'.1) (h2 : q.2.1 = q'.2.1) : ansR l q = ansR (l ++ [t]) q' := by
  unfold ansR
  rw [h2]
  cases q'.2.1 with
  | none => simp [h1]
  | some x => rfl
theorem ansR_err {l : List Tk} {q : List Tk × Option (Nat × Int) × Nat} {a : Nat} {e : Int} (h : q.2.1 = some (a, e)) : ansR l q = ([], (a : Int), e) := by
  unfold ansR; rw [h]
theorem ansR_end {l : List Tk} {q : List Tk × Option (Nat × Int) × Nat} (h1 : q.1 = []) (h : q.2.1 = none) : ansR l q = (l, 0, 0) := by
  unfold ansR; rw [h, h1]; simp
theorem rl_go {s : List UInt8} {i j : Nat} {es : List Tk} {k : Int} {T : List UInt8} (h : i < s.length) (h1 : isBlank (s.getD i 0) = false) (h2 : s.getD i 0 ≠ 37) (hk : tok (s.drop i) = (k, T, 0)) (hj : i + T.length = j) :
    ansR es (run i (s.drop i)) = ansR (es ++ [(k, T, (i : Int))]) (run j (s.drop j)) := by
  have := (runAt_tok h h1 h2).1
  rw [hk] at this
  obtain ⟨e1, e2⟩ := this rfl
  simp only [hj] at e1 e2
  exact ansR_go e1 e2
theorem rl_err {s : List UInt8} {i : Nat} {es : List Tk} {k : Int} {T : List UInt8} {e : Int} (h : i < s.length) (h1 : isBlank (s.getD i 0) = false) (h2 : s.getD i 0 ≠ 37) (hk : tok (s.drop i) = (k, T, e)) (he : e ≠ 0) :
    ansR es (run i (s.drop i)) = ([], (i : Int), e) := by
  have := (runAt_tok h h1 h2).2
  rw [hk] at this
  exact ansR_err (this he)
theorem wordK_zero {t : List UInt8} (h : (wordK t).1 = 0) : (wordK t).2 = 31 := by
  unfold wordK at h ⊢
  split at h
  · cases h
  split at h
  · cases h
  split at h
  · cases h
  · rename_i h1 h2 h3; rw [if_neg h1, if_neg h2, if_neg h3]
theorem wordK_some {t : List UInt8} (h : (wordK t).1 ≠ 0) : (wordK t).2 = 0 := by
  unfold wordK at h ⊢
  split
  · rfl
  split
  · rfl
  split
  · rfl
  · rename_i h1 h2 h3; rw [if_neg h1, if_neg h2, if_neg h3] at h; exact absurd rfl h
theorem lexR_ans (s : List UInt8) : lexR s = if 32768 < s.length then ([], 0, 3) else ansR [] (run 0 s) := by
  rw [lexR_eq]
  split
  · rfl
  · unfold ans ansR
    rcases run 0 s with ⟨l, _ | ⟨a, e⟩, p⟩ <;> rfl
end Go.Sx.Lx

/- NAMES AND NUMBERS AS SINGLE TOKENS. -/
namespace Go.Sx.Lx
/-- One token, the whole text. -/
def oneB (s : List UInt8) : Bool := decide ((lexR s).2.2 = 0) && decide ((lexR s).1.length = 1) && decide (((lexR s).1.getD 0 default).2.1 = s)

theorem isName_start {b : UInt8} (h : (isLet b || isUnd b) = true) : isBlank b = false ∧ b ≠ 37 := by
  have key : (List.range 256).all (fun n => !(isLet (UInt8.ofNat n) || isUnd (UInt8.ofNat n)) || (!(isBlank (UInt8.ofNat n)) && decide (UInt8.ofNat n ≠ 37))) = true := by decide +kernel
  have := List.all_eq_true.1 key b.toNat (List.mem_range.2 b.toNat_lt)
  simp only [UInt8.ofNat_toNat] at this
  rw [h] at this
  simpa using this
theorem isDig_start {b : UInt8} (h : isDig b = true) : isBlank b = false ∧ b ≠ 37 := by
  have key : (List.range 256).all (fun n => !(isDig (UInt8.ofNat n)) || (!(isBlank (UInt8.ofNat n)) && decide (UInt8.ofNat n ≠ 37))) = true := by decide +kernel
  have := List.all_eq_true.1 key b.toNat (List.mem_range.2 b.toNat_lt)
  simp only [UInt8.ofNat_toNat] at this
  rw [h] at this
  simpa using this

/-- A text that is one token. -/
theorem lexR_one {s : List UInt8} {b : UInt8} {r : List UInt8} {k : Int} (hs : s = b :: r) (hl : s.length ≤ 32768) (hb : isBlank b = false ∧ b ≠ 37) (ht : tok s = (k, s, 0)) : lexR s = ([(k, s, 0)], 0, 0) := by
  have hsk : skp false s = 0 := by rw [hs]; simp [skp, hb.1, hb.2]
  have e1 : toksF (s.length + 1) 0 s = ([(k, s, 0)], none, s.length) := by
    have h2 : (tok (b :: r)).2.2 = 0 := by rw [← hs, ht]
    conv => lhs; rw [hs]
    simp only [toksF]
    rw [if_pos h2, ← hs, ht]
    simp only [List.drop_length, skp, Nat.add_zero]
    rw [show s.length = r.length + 1 by rw [hs]; rfl]
    simp [toksF]
  unfold lexR
  rw [if_neg (by omega), hsk, List.drop_zero, e1]

/-- What one token is. -/
theorem one_tok {s : List UInt8} (h : oneB s = true) : ∃ k, (lexR s).1 = [(k, s, 0)] ∧ tok s = (k, s, 0) := by
  unfold oneB at h
  simp only [Bool.and_eq_true, decide_eq_true_eq] at h
  obtain ⟨⟨h1, h2⟩, h3⟩ := h
  unfold lexR at h1 h2 h3 ⊢
  by_cases hl : 32768 < s.length
  · rw [if_pos hl] at h2; cases h2
  · rw [if_neg hl] at h1 h2 h3 ⊢
    have hkl := skp_le false s
    generalize hk : skp false s = j at *
    cases hd : s.drop j with
    | nil =>
      rw [hd] at h2
      simp [toksF] at h2
    | cons b r =>
      rw [hd] at h1 h2 h3
      simp only [toksF] at h1 h2 h3 ⊢
      by_cases he : (tok (b :: r)).2.2 = 0
      · rw [if_pos he] at h1 h2 h3 ⊢
        generalize toksF s.length (j + (tok (b :: r)).2.1.length + skp false ((b :: r).drop (tok (b :: r)).2.1.length)) ((b :: r).drop ((tok (b :: r)).2.1.length + skp false ((b :: r).drop (tok (b :: r)).2.1.length))) = q at *
        obtain ⟨l, o, z⟩ := q
        cases o with
        | some ae => simp at h2
        | none =>
          simp only [List.length_cons, Nat.add_eq_right, List.length_eq_zero_iff] at h2
          subst h2
          simp only [List.getD_cons_zero] at h3
          have hlen := tok_len (b :: r)
          have hdl : (b :: r).length = s.length - j := by rw [← hd, List.length_drop]
          rw [h3, hdl] at hlen
          have hj : j = 0 ∨ s = [] := by
            rcases Nat.eq_zero_or_pos j with h | h
            · exact .inl h
            · right
              exact List.length_eq_zero_iff.1 (by omega)
          have hj0 : j = 0 := by
            rcases hj with h | h
            · exact h
            · rw [h] at hd; simp at hd
          subst hj0
          rw [List.drop_zero] at hd
          subst hd
          refine ⟨(tok (b :: r)).1, ?_, ?_⟩
          · simp only [h3]; rfl
          · exact Prod.ext rfl (Prod.ext h3 he)
      · rw [if_neg he] at h2; simp at h2

theorem und_name : (List.range 256).all (fun n => !(isUnd (UInt8.ofNat n)) || isName (UInt8.ofNat n)) = true := by decide +kernel
theorem isUnd_name {b : UInt8} (h : isUnd b = true) : isName b = true := by simp [isName, h]
theorem all_split {s : List UInt8} (h : (s.dropWhile isUnd).all isName = true) : s.all isName = true := by
  induction s with
  | nil => rfl
  | cons b r ih =>
    rw [List.dropWhile_cons] at h
    by_cases hb : isUnd b = true
    · rw [if_pos hb] at h
      rw [List.all_cons, isUnd_name hb, ih h]; rfl
    · rw [if_neg hb] at h; exact h
/-- A word begins as words do, and is made of their bytes. -/
theorem word_start {first : UInt8 → Bool} (hf : ∀ b, first b = true → isLet b = true) {s : List UInt8} (h : wordB first s = true) : s.all isName = true ∧ ∃ b r, s = b :: r ∧ (isLet b || isUnd b) = true := by
  unfold wordB at h
  split at h
  · cases h
  · rename_i b r hd
    simp only [Bool.and_eq_true] at h
    refine ⟨all_split (by rw [hd]; exact h.1.2), ?_⟩
    cases s with
    | nil => simp at hd
    | cons c t =>
      refine ⟨c, t, rfl, ?_⟩
      rw [List.dropWhile_cons] at hd
      by_cases hc : isUnd c = true
      · rw [hc, Bool.or_true]
      · rw [if_neg hc] at hd
        cases hd
        rw [hf _ h.1.1]; rfl
theorem isDig_name {b : UInt8} (h : isDig b = true) : isName b = true := by simp [isName, h]
theorem var_start {s : List UInt8} (h : variableB s = true) : s.all isName = true ∧ ∃ b r, s = b :: r ∧ (isLet b || isUnd b) = true := by
  unfold variableB at h
  rw [Bool.or_eq_true] at h
  rcases h with h | h
  · exact word_start (fun b hb => by simp [isLet, hb]) h
  · split at h
    · rename_i r
      rw [Bool.and_eq_true] at h
      refine ⟨?_, 95, r, rfl, rfl⟩
      rw [List.all_cons]
      have : r.all isName = true := List.all_eq_true.2 fun b hb => isDig_name (List.all_eq_true.1 h.1 b hb)
      rw [this]; rfl
    · cases h
theorem sym_start {s : List UInt8} (h : symbolB s = true) : s.all isName = true ∧ ∃ b r, s = b :: r ∧ (isLet b || isUnd b) = true := by
  unfold symbolB at h
  rw [Bool.and_eq_true] at h
  exact word_start (fun b hb => by simp [isLet, hb]) h.1
theorem takeWhile_all {p : UInt8 → Bool} {s : List UInt8} (h : s.all p = true) : s.takeWhile p = s := by
  induction s with
  | nil => rfl
  | cons b r ih =>
    rw [List.all_cons, Bool.and_eq_true] at h
    rw [List.takeWhile_cons, if_pos h.1, ih h.2]
theorem lexR_name {s : List UInt8} (hl : s.length ≤ 32768) (h : s.all isName = true ∧ ∃ b r, s = b :: r ∧ (isLet b || isUnd b) = true) (hk : (wordK s).2 = 0) : lexR s = ([((wordK s).1, s, 0)], 0, 0) := by
  obtain ⟨ha, b, r, hs, hb⟩ := h
  refine lexR_one hs hl (isName_start hb) ?_
  have e : tok s = ((wordK (s.takeWhile isName)).1, s.takeWhile isName, (wordK (s.takeWhile isName)).2) := by
    rw [hs]
    simp only [tok]
    rw [if_pos hb]
  rw [e, takeWhile_all ha, hk]
theorem low_up {b : UInt8} (h : isLow b = true) : isUp b = false := by
  have key : (List.range 256).all (fun n => !(isLow (UInt8.ofNat n)) || !(isUp (UInt8.ofNat n))) = true := by decide +kernel
  have := List.all_eq_true.1 key b.toNat (List.mem_range.2 b.toNat_lt)
  simp only [UInt8.ofNat_toNat] at this
  rw [h] at this
  simpa using this
theorem low_dig {b : UInt8} (h : isDig b = true) : isLow b = false ∧ isUnd b = false := by
  have key : (List.range 256).all (fun n => !(isDig (UInt8.ofNat n)) || (!(isLow (UInt8.ofNat n)) && !(isUnd (UInt8.ofNat n)))) = true := by decide +kernel
  have := List.all_eq_true.1 key b.toNat (List.mem_range.2 b.toNat_lt)
  simp only [UInt8.ofNat_toNat] at this
  rw [h] at this
  simpa using this
/-- No word is a symbol's and a variable's. -/
theorem var_sym {s : List UInt8} (h : variableB s = true) : symbolB s = false ∧ s ≠ notS := by
  refine ⟨?_, fun e => by rw [e] at h; revert h; decide⟩
  cases hy : symbolB s with
  | false => rfl
  | true =>
    exfalso
    unfold symbolB at hy
    rw [Bool.and_eq_true] at hy
    have hw := hy.1
    unfold wordB at hw
    unfold variableB at h
    rw [Bool.or_eq_true] at h
    rcases h with h | h
    · unfold wordB at h
      split at hw
      · cases hw
      · rename_i b r hd
        rw [hd] at h
        simp only [Bool.and_eq_true] at h hw
        rw [low_up hw.1.1] at h
        exact absurd h.1.1 (by simp)
    · split at h
      · rename_i r
        rw [Bool.and_eq_true] at h
        have hd : (95 :: r).dropWhile isUnd = r.dropWhile isUnd := by rw [List.dropWhile_cons]; rfl
        rw [hd] at hw
        cases r with
        | nil => simp at hw
        | cons c t =>
          have hc : isDig c = true := by
            have := h.1
            rw [List.all_cons, Bool.and_eq_true] at this
            exact this.1
          have h2 := low_dig hc
          rw [List.dropWhile_cons, if_neg (by rw [h2.2]; simp)] at hw
          simp [h2.1] at hw
      · cases h
theorem wordK_sym {s : List UInt8} (h : symbolB s = true) : wordK s = (1, 0) := by
  have hn : s ≠ notS := by
    unfold symbolB at h
    rw [Bool.and_eq_true] at h
    simpa using h.2
  unfold wordK; rw [if_neg hn, if_pos h]
theorem wordK_var {s : List UInt8} (h : variableB s = true) : wordK s = (2, 0) := by
  have h2 := var_sym h
  unfold wordK; rw [if_neg h2.2, if_neg (by rw [h2.1]; simp), if_pos h]
theorem wordK_not {s : List UInt8} (h : s = notS) : wordK s = (4, 0) := by unfold wordK; rw [if_pos h]
/-- The kind tells. -/
theorem tok_kind {s : List UInt8} {k : Int} (h : tok s = (k, s, 0)) : (k = 1 → symbolB s = true) ∧ (k = 2 → variableB s = true) ∧ (k = 4 → s = notS) := by
  cases s with
  | nil =>
    simp only [tok, Prod.mk.injEq] at h
    obtain ⟨rfl, _, _⟩ := h
    exact ⟨fun h => (by cases h), fun h => (by cases h), fun h => (by cases h)⟩
  | cons b r =>
    simp only [tok] at h
    split at h
    · simp only [Prod.mk.injEq] at h
      obtain ⟨h1, h2, h3⟩ := h
      rw [h2] at h1
      unfold wordK at h1
      split at h1
      · rename_i hn
        cases h1
        exact ⟨fun h => (by cases h), fun h => (by cases h), fun _ => hn⟩
      · split at h1
        · rename_i hn
          cases h1
          exact ⟨fun _ => hn, fun h => (by cases h), fun h => (by cases h)⟩
        · split at h1
          · rename_i hn
            cases h1
            exact ⟨fun h => (by cases h), fun _ => hn, fun h => (by cases h)⟩
          · cases h1
            exact ⟨fun h => (by cases h), fun h => (by cases h), fun h => (by cases h)⟩
    · split at h
      · simp only [Prod.mk.injEq] at h
        obtain ⟨rfl, _, _⟩ := h
        exact ⟨fun h => (by cases h), fun h => (by cases h), fun h => (by cases h)⟩
      · split at h
        · simp only [Prod.mk.injEq] at h
          obtain ⟨rfl, _, _⟩ := h
          exact ⟨fun h => (by cases h), fun h => (by cases h), fun h => (by cases h)⟩
        · simp only [Prod.mk.injEq] at h
          obtain ⟨rfl, _, _⟩ := h
          exact ⟨fun h => (by cases h), fun h => (by cases h), fun h => (by cases h)⟩
def kind0 (s : List UInt8) : Int := ((lexR s).1.getD 0 default).1
theorem one_of {s : List UInt8} {k : Int} (h : lexR s = ([(k, s, 0)], 0, 0)) : oneB s = true ∧ kind0 s = k := by
  unfold oneB kind0
  rw [h]
  exact ⟨by simp, rfl⟩
theorem words (s : List UInt8) (hl : s.length ≤ 32768) : symbolB s = (oneB s && decide (kind0 s = 1)) ∧ variableB s = (oneB s && decide (kind0 s = 2)) ∧ decide (s = notS) = (oneB s && decide (kind0 s = 4)) := by
  have hone : oneB s = true → ∃ k, kind0 s = k ∧ tok s = (k, s, 0) := fun h => by
    obtain ⟨k, h1, h2⟩ := one_tok h
    exact ⟨k, by unfold kind0; rw [h1]; rfl, h2⟩
  refine ⟨?_, ?_, ?_⟩
  · rw [Bool.eq_iff_iff, Bool.and_eq_true, decide_eq_true_eq]
    constructor
    · intro h
      have hw := wordK_sym h
      have := lexR_name hl (sym_start h) (by rw [hw])
      rw [hw] at this
      exact one_of this
    · rintro ⟨h1, h2⟩
      obtain ⟨k, h3, h4⟩ := hone h1
      exact (tok_kind h4).1 (by omega)
  · rw [Bool.eq_iff_iff, Bool.and_eq_true, decide_eq_true_eq]
    constructor
    · intro h
      have hw := wordK_var h
      have := lexR_name hl (var_start h) (by rw [hw])
      rw [hw] at this
      exact one_of this
    · rintro ⟨h1, h2⟩
      obtain ⟨k, h3, h4⟩ := hone h1
      exact (tok_kind h4).2.1 (by omega)
  · rw [Bool.eq_iff_iff, Bool.and_eq_true, decide_eq_true_eq, decide_eq_true_eq]
    constructor
    · intro h
      have hw := wordK_not h
      have := lexR_name hl (by rw [h]; exact ⟨by decide, 110, [111, 116], rfl, by decide⟩) (by rw [hw])
      rw [hw] at this
      exact one_of this
    · rintro ⟨h1, h2⟩
      obtain ⟨k, h3, h4⟩ := hone h1
      exact (tok_kind h4).2.2 (by omega)

/- Numbers. -/
theorem dig_of (d : Nat) (h : d < 10) : isDig (UInt8.ofNat (48 + d)) = true ∧ (UInt8.ofNat (48 + d)).toNat - 48 = d := by
  have key : (List.range 10).all (fun d => isDig (UInt8.ofNat (48 + d)) && decide ((UInt8.ofNat (48 + d)).toNat - 48 = d)) = true := by decide +kernel
  have := List.all_eq_true.1 key d (List.mem_range.2 h)
  rw [Bool.and_eq_true, decide_eq_true_eq] at this
  exact this
theorem dec_props : ∀ (k u : Nat), u < 10 ^ (k + 1) → (Lib.decDigits u).all isDig = true ∧ valN 0 (Lib.decDigits u) = u ∧ (Lib.decDigits u).length ≤ k + 1 ∧ Lib.decDigits u ≠ []
  | 0, u, h => by
    have h1 : u < 10 := by simpa using h
    rw [Lib.decDigits_one h1]
    have := dig_of u h1
    refine ⟨by rw [List.all_cons, List.all_nil, this.1]; rfl, by rw [valN_cons, valN_nil, this.2]; omega, by simp, by simp⟩
  | k + 1, u, h => by
    by_cases h1 : u < 10
    · rw [Lib.decDigits_one h1]
      have := dig_of u h1
      refine ⟨by rw [List.all_cons, List.all_nil, this.1]; rfl, by rw [valN_cons, valN_nil, this.2]; omega, by simp, by simp⟩
    · have hlt : u / 10 < 10 ^ (k + 1) := by
        rw [Nat.pow_succ] at h
        exact Nat.div_lt_of_lt_mul (by rw [Nat.mul_comm]; exact h)
      obtain ⟨i1, i2, i3, i4⟩ := dec_props k (u / 10) hlt
      have hd := dig_of (u % 10) (Nat.mod_lt _ (by decide))
      rw [Lib.decDigits, dif_neg h1]
      refine ⟨by rw [List.all_append, i1, List.all_cons, List.all_nil, hd.1]; rfl, by rw [valN_app, i2, valN_cons, valN_nil, hd.2]; omega, by rw [List.length_append]; simp; omega, by simp⟩
theorem num_tok {n : Nat} (h : n ≤ 2147483647) : tok (Lib.decDigits n) = (3, Lib.decDigits n, 0) ∧ (Lib.decDigits n).length ≤ 10 ∧ ∃ b r, Lib.decDigits n = b :: r ∧ isDig b = true := by
  obtain ⟨h1, h2, h3, h4⟩ := dec_props 9 n (by omega)
  have hE : numE (Lib.decDigits n) = 0 := by
    rw [numE_iff h4 h1, h2]
    exact ⟨h, (dec_val _ _ rfl h4 h1).1 (by rw [h2])⟩
  obtain ⟨b, r, hs⟩ : ∃ b r, Lib.decDigits n = b :: r := by
    cases hq : Lib.decDigits n with
    | nil => exact absurd hq h4
    | cons b r => exact ⟨b, r, rfl⟩
  have hb : isDig b = true := by rw [hs, List.all_cons, Bool.and_eq_true] at h1; exact h1.1
  refine ⟨?_, h3, b, r, hs, hb⟩
  have e : tok (Lib.decDigits n) = (3, (Lib.decDigits n).takeWhile isDig, numE ((Lib.decDigits n).takeWhile isDig)) := by
    have h5 := dig_not hb
    rw [hs]
    simp only [tok]
    rw [if_neg (by rw [h5.1, h5.2]; simp), if_pos hb]
  rw [e, takeWhile_all h1, hE]
theorem lexR_num {n : Nat} (h : n ≤ 2147483647) : lexR (Lib.decDigits n) = ([(3, Lib.decDigits n, 0)], 0, 0) := by
  obtain ⟨h1, h2, b, r, h3, h4⟩ := num_tok h
  exact lexR_one h3 (by omega) (isDig_start h4) h1
theorem sign_minus (r : List UInt8) : signOf (45 :: r) = [45] := by
  unfold signOf signL
  simp [List.find?, List.isPrefixOf]
theorem lexR_neg {n : Nat} (h : n ≤ 2147483647) : lexR (45 :: Lib.decDigits n) = ([(6, [45], 0), (3, Lib.decDigits n, 1)], 0, 0) := by
  obtain ⟨h1, h2, b, r, h3, h4⟩ := num_tok h
  have hst := isDig_start h4
  have t0 : tok (45 :: Lib.decDigits n) = (6, [45], 0) := by
    simp only [tok, sign_minus]
    rfl
  have hsk : skp false (45 :: Lib.decDigits n) = 0 := by simp [skp, isBlank]
  have hsk2 : skp false (Lib.decDigits n) = 0 := by rw [h3]; simp [skp, hst.1, hst.2]
  have e2 : ∀ f, toksF (f + 2) 1 (Lib.decDigits n) = ([(3, Lib.decDigits n, 1)], none, 1 + (Lib.decDigits n).length) := fun f => by
    have hz : (tok (b :: r)).2.2 = 0 := by rw [← h3, h1]
    conv => lhs; rw [h3]
    simp only [toksF]
    rw [if_pos hz, ← h3, h1]
    simp [skp, toksF]
  have e1 : toksF ((45 :: Lib.decDigits n).length + 1) 0 (45 :: Lib.decDigits n) = ([(6, [45], 0), (3, Lib.decDigits n, 1)], none, 1 + (Lib.decDigits n).length) := by
    simp only [toksF]
    rw [if_pos (by rw [t0]), t0]
    simp only [List.length_cons, List.length_nil, Nat.zero_add, List.drop_succ_cons, List.drop_zero, hsk2, Nat.add_zero]
    obtain ⟨f, hf⟩ : ∃ f, (Lib.decDigits n).length + 1 = f + 2 := ⟨(Lib.decDigits n).length - 1, by rw [h3]; simp⟩
    rw [hf, e2]
    rfl
  unfold lexR
  rw [if_neg (by simp; omega), hsk, List.drop_zero, e1]
theorem lexR_nil : lexR [] = ([], 0, 0) := by decide
end Go.Sx.Lx

/- The text of a term. -/
namespace Go.Sx
def Tm.kd : Tm → Nat
  | .mk k _ _ _ => k
def Tm.nm : Tm → List UInt8
  | .mk _ _ s _ => s
def Tm.as' : Tm → List Tm
  | .mk _ _ _ l => l
def bindsB (s : List UInt8) : Int := if s = [43] then 1 else if s = [45] then 1 else 2
/-- An operand in parentheses. -/
def closedB (k : Nat) (s : List UInt8) (len kx : Nat) (sx : List UInt8) (lenx : Nat) (r : Bool) : Bool :=
  if kx = 6 then true else if kx = 1 then decide (k = 5) && decide (len = 1)
  else if kx = 5 then (if k = 5 then (if lenx = 1 then false else decide (len = 1) || decide (bindsB sx < bindsB s) || decide (bindsB s = bindsB sx) && r) else false) else false
def opdT (k : Nat) (s : List UInt8) (len : Nat) (x : Tm) (t : List UInt8) (r : Bool) : List UInt8 := match closedB k s len x.kd x.nm x.as'.length r with
  | true => [40] ++ t ++ [41]
  | false => t
mutual
def Tm.text : Tm → List UInt8
  | .mk k n s l =>
    if k = 1 then Lib.itoa n
    else if k = 4 then s ++ [40] ++ Lib.join (Tm.texts l) [44] ++ [41]
    else if k = 6 then opdT k s l.length (l.getD 0 default) ((Tm.texts l).getD 0 []) false ++ [46, 46] ++ opdT k s l.length (l.getD 1 default) ((Tm.texts l).getD 1 []) true
    else if k = 5 then (if l.length = 1 then s ++ opdT k s l.length (l.getD 0 default) ((Tm.texts l).getD 0 []) false
      else opdT k s l.length (l.getD 0 default) ((Tm.texts l).getD 0 []) false ++ s ++ opdT k s l.length (l.getD 1 default) ((Tm.texts l).getD 1 []) true)
    else s
def Tm.texts : List Tm → List (List UInt8)
  | [] => []
  | a :: r => a.text :: Tm.texts r
end
theorem texts_map : ∀ l : List Tm, Tm.texts l = l.map Tm.text
  | [] => rfl
  | a :: r => by rw [Tm.texts, texts_map r]; rfl
end Go.Sx
namespace Go.Sx
theorem sym_len {s : List UInt8} (h : Lx.symbolB s = true) : s.length ≤ 32 := by
  unfold Lx.symbolB Lx.wordB at h
  split at h
  · simp at h
  · simp at h; omega
theorem var_len {s : List UInt8} (h : Lx.variableB s = true) : s.length ≤ 32 := by
  unfold Lx.variableB Lx.wordB at h
  rw [Bool.or_eq_true] at h
  rcases h with h | h
  · split at h
    · simp at h
    · simp at h; omega
  · split at h
    · simp at h ⊢; omega
    · cases h
theorem itoa_len {n : Int} (h : -2147483647 ≤ n ∧ n ≤ 2147483647) : (Lib.itoa n).length ≤ 11 := by
  unfold Lib.itoa
  split
  · have := (Lx.dec_props 9 n.natAbs (by omega)).2.2.1
    simp; omega
  · have := (Lx.dec_props 9 n.toNat (by omega)).2.2.1
    omega
theorem opdT_len (k : Nat) (s : List UInt8) (len : Nat) (x : Tm) (t : List UInt8) (r : Bool) : (opdT k s len x t r).length ≤ t.length + 2 := by
  unfold opdT
  split
  · simp
  · omega
end Go.Sx
namespace Go.Sx
theorem lens_le {M : Nat} : ∀ {l : List (List UInt8)}, (∀ t ∈ l, t.length ≤ M) → Lib.lens l ≤ l.length * M
  | [], _ => by simp [Lib.lens]
  | a :: r, h => by
    have h1 := h a (List.mem_cons_self ..)
    have h2 := lens_le (l := r) fun t ht => h t (List.mem_cons_of_mem _ ht)
    have e : Lib.lens (a :: r) = a.length + Lib.lens r := by simp [Lib.lens]
    rw [e, List.length_cons, Nat.add_mul, Nat.one_mul]
    omega
theorem join_le {M : Nat} {l : List (List UInt8)} (h : ∀ t ∈ l, t.length ≤ M) : (Lib.join l [44]).length ≤ l.length * (M + 1) := by
  cases l with
  | nil => simp [Lib.join_nil]
  | cons a r =>
    rw [Lib.join_length]
    have := lens_le h
    simp only [List.length_cons, List.length_nil, Nat.zero_add, Nat.one_mul, Nat.mul_add, Nat.mul_one] at this ⊢
    omega
theorem depthL_mem {l : List Tm} {x : Tm} (h : x ∈ l) : x.depth ≤ Tm.depthL l := by
  induction l with
  | nil => cases h
  | cons a r ih =>
    simp only [Tm.depthL]
    rcases List.mem_cons.1 h with rfl | h
    · exact Nat.le_max_left ..
    · exact Nat.le_trans (ih h) (Nat.le_max_right ..)
theorem allL_mem {h : Tm → Bool} {l : List Tm} (hl : Tm.allL h l = true) {x : Tm} (hx : x ∈ l) : x.all h = true := by
  induction l with
  | nil => cases hx
  | cons a r ih =>
    simp only [Tm.allL, Bool.and_eq_true] at hl
    rcases List.mem_cons.1 hx with rfl | hx
    · exact hl.1
    · exact ih hl.2 hx
theorem getD_mem {l : List Tm} {i : Nat} (h : i < l.length) : l.getD i default ∈ l ∧ (Tm.texts l).getD i [] = (l.getD i default).text := by
  rw [texts_map]
  simp [List.getD, h]
theorem text_len : ∀ x : Tm, x.all Tm.shape = true → x.text.length ≤ 60 * 9 ^ x.depth
  | .mk k n s l, h => by
    simp only [Tm.all, Bool.and_eq_true, Tm.shape] at h
    obtain ⟨h1, h2⟩ := h
    have IH : ∀ y ∈ l, y.text.length ≤ 60 * 9 ^ (Tm.depthL l) := fun y hy =>
      Nat.le_trans (text_len y (allL_mem h2 hy)) (Nat.mul_le_mul_left _ (Nat.pow_le_pow_right (by decide) (depthL_mem hy)))
    have hp : 1 ≤ 9 ^ (Tm.depthL l) := Nat.pos_of_ne_zero (by simp)
    simp only [Tm.text, Tm.depth]
    rw [Nat.pow_succ]
    generalize 9 ^ (Tm.depthL l) = P at IH hp ⊢
    have hop : ∀ (i : Nat) (r : Bool), i < l.length → (opdT k s l.length (l.getD i default) ((Tm.texts l).getD i []) r).length ≤ 60 * P + 2 := fun i r hi => by
      have hg := getD_mem hi
      have := opdT_len k s l.length (l.getD i default) ((Tm.texts l).getD i []) r
      rw [hg.2] at this ⊢
      have := IH _ hg.1
      omega
    unfold shapeB at h1
    split
    · rename_i hk
      subst hk
      simp at h1
      have := itoa_len (n := n) ⟨by omega, by omega⟩
      omega
    · split
      · rename_i hk
        subst hk
        simp at h1
        have hs := sym_len h1.1.1.2
        have hj := join_le (M := 60 * P) (l := Tm.texts l) (by rw [texts_map]; intro t ht; obtain ⟨y, hy, rfl⟩ := List.mem_map.1 ht; exact IH y hy)
        have hll : (Tm.texts l).length ≤ 8 := by rw [texts_map]; simp; omega
        have hm : (Tm.texts l).length * (60 * P + 1) ≤ 8 * (60 * P + 1) := Nat.mul_le_mul_right _ hll
        simp
        omega
      · split
        · rename_i hk
          subst hk
          simp at h1
          have a := hop 0 false (by omega)
          have b := hop 1 true (by omega)
          simp only [List.length_append, List.length_cons, List.length_nil]
          omega
        · split
          · rename_i hk
            subst hk
            simp at h1
            have hs : s.length = 1 := by
              rcases h1.1.2 with (((h | h) | h) | h) | h <;> rw [h] <;> rfl
            have a := hop 0 false (by omega)
            split
            · simp only [List.length_append]; omega
            · have b := hop 1 true (by omega)
              simp only [List.length_append]; omega
          · rename_i e1 e4 e6 e5
            have c1 : ¬ (k : Int) = 1 := by omega
            have c4 : ¬ (k : Int) = 4 := by omega
            have c5 : ¬ (k : Int) = 5 := by omega
            have c6 : ¬ (k : Int) = 6 := by omega
            by_cases c2 : (k : Int) = 2
            · simp [c2] at h1
              have := sym_len h1.1.2
              omega
            · by_cases c3 : (k : Int) = 3
              · simp [c3] at h1
                have := var_len h1.1.2
                omega
              · simp [c1, c2, c3, c4, c5, c6] at h1
termination_by x => SizeOf.sizeOf x
decreasing_by
  have := List.sizeOf_lt_of_mem hy
  simp only [Tm.mk.sizeOf_spec]
  omega
end Go.Sx

namespace Go.Sx
/- THE ORDER IS TRANSITIVE. -/
def Tri (p q r : Int) : Prop := (p ≤ 0 → q ≤ 0 → r ≤ 0) ∧ (p ≤ 0 → q ≤ 0 → r = 0 → p = 0 ∧ q = 0) ∧ (p = 0 → q = 0 → r = 0)
theorem tri_cons {p q r : Int} {P Q R : List Int} (h : Tri p q r) (ht : p = 0 → q = 0 → Tri (fst0 P) (fst0 Q) (fst0 R)) : Tri (fst0 (p :: P)) (fst0 (q :: Q)) (fst0 (r :: R)) := by
  simp only [fst0]
  obtain ⟨h1, h2, h3⟩ := h
  by_cases hp : p = 0
  · by_cases hq : q = 0
    · have hr := h3 hp hq
      rw [if_neg (by simpa using hp), if_neg (by simpa using hq), if_neg (by simpa using hr)]
      exact ht hp hq
    · rw [if_neg (by simpa using hp), if_pos hq]
      refine ⟨fun a b => ?_, fun a b c => ?_, fun a b => absurd b hq⟩
      · have := h1 (by omega) b
        by_cases hr : r = 0
        · exact absurd (h2 (by omega) b hr).2 hq
        · rw [if_pos hr]; exact this
      · have := h1 (by omega) b
        by_cases hr : r = 0
        · exact absurd (h2 (by omega) b hr).2 hq
        · rw [if_pos hr] at c; exact absurd c hr
  · rw [if_pos hp]
    by_cases hq : q = 0
    · rw [if_neg (by simpa using hq)]
      refine ⟨fun a b => ?_, fun a b c => ?_, fun a b => absurd a hp⟩
      · have := h1 a (by omega)
        by_cases hr : r = 0
        · exact absurd (h2 a (by omega) hr).1 hp
        · rw [if_pos hr]; exact this
      · by_cases hr : r = 0
        · exact absurd (h2 a (by omega) hr).1 hp
        · rw [if_pos hr] at c; exact absurd c hr
    · rw [if_pos hq]
      refine ⟨fun a b => ?_, fun a b c => ?_, fun a b => absurd a hp⟩
      · have := h1 a b
        by_cases hr : r = 0
        · exact absurd (h2 a b hr).1 hp
        · rw [if_pos hr]; exact this
      · by_cases hr : r = 0
        · exact absurd (h2 a b hr).1 hp
        · rw [if_pos hr] at c; exact absurd c hr
theorem tri_nil : Tri (fst0 []) (fst0 []) (fst0 []) := ⟨fun _ _ => Int.le_refl _, fun _ _ _ => ⟨rfl, rfl⟩, fun _ _ => rfl⟩
theorem tri_ncmp (a b c : Int) : Tri (ncmp a b) (ncmp b c) (ncmp a c) := by
  unfold Tri ncmp
  repeat' split
  all_goals omega
theorem bcmp_cons (u v : UInt8) (s t : List UInt8) : Lib.compareBytes (u :: s) (v :: t) = if u < v then -1 else if v < u then 1 else Lib.compareBytes s t := by rw [Lib.compareBytes]
theorem tri_bcmp : ∀ a b c : List UInt8, Tri (Lib.compareBytes a b) (Lib.compareBytes b c) (Lib.compareBytes a c)
  | [], [], [] => by simp [Lib.compareBytes, Tri]
  | [], [], _ :: _ => by simp [Lib.compareBytes, Tri]
  | [], _ :: _, [] => by simp [Lib.compareBytes, Tri]
  | [], _ :: _, _ :: _ => by simp [Lib.compareBytes, Tri]
  | _ :: _, [], [] => by simp [Lib.compareBytes, Tri]
  | _ :: _, [], _ :: _ => by simp [Lib.compareBytes, Tri]
  | x :: a, y :: b, [] => by simp [Lib.compareBytes, Tri]
  | x :: a, y :: b, z :: c => by
    have ih := tri_bcmp a b c
    have key : ∀ (u v : UInt8) (s t : List UInt8), Lib.compareBytes (u :: s) (v :: t) = fst0 [ncmp (u.toNat : Int) v.toNat, Lib.compareBytes s t] := fun u v s t => by
      rw [bcmp_cons]
      simp only [fst0, ncmp, UInt8.lt_iff_toNat_lt]
      by_cases h1 : u.toNat < v.toNat
      · rw [if_pos h1]; simp [h1]
      · by_cases h2 : v.toNat < u.toNat
        · rw [if_neg h1, if_pos h2]
          have e1 : ¬ ((u.toNat : Int) < v.toNat) := by omega
          have e2 : ((v.toNat : Int) < u.toNat) := by omega
          simp [e1, e2]
        · rw [if_neg h1, if_neg h2]
          have e1 : ¬ ((u.toNat : Int) < v.toNat) := by omega
          have e2 : ¬ ((v.toNat : Int) < u.toNat) := by omega
          simp only [e1, e2, if_false]
          by_cases h3 : Lib.compareBytes s t = 0 <;> simp [h3]
    rw [key, key, key]
    refine tri_cons (tri_ncmp _ _ _) fun _ _ => tri_cons ih fun _ _ => tri_nil
mutual
theorem tri_cmp : ∀ a b c : Tm, Tri (a.cmp b) (b.cmp c) (a.cmp c)
  | .mk k n s l, .mk k' n' s' l', .mk k2 n2 s2 l2 => by
    simp only [Tm.cmp]
    refine tri_cons (tri_ncmp _ _ _) fun h1 h2 => tri_cons ?_ fun _ _ => tri_cons (tri_ncmp _ _ _) fun _ _ => tri_cons (tri_bcmp _ _ _) fun _ _ => tri_cons (tri_cmpL _ _ _) fun _ _ => tri_cons (tri_ncmp _ _ _) fun _ _ => tri_nil
    have e1 := rkI_inj (ncmp_eq.1 h1)
    have e2 := rkI_inj (ncmp_eq.1 h2)
    subst e1; subst e2
    by_cases hk : k = 1
    · simp only [if_pos hk]; exact tri_ncmp _ _ _
    · simp only [if_neg hk]; exact ⟨fun _ _ => Int.le_refl _, fun _ _ _ => ⟨rfl, rfl⟩, fun _ _ => rfl⟩
theorem tri_cmpL : ∀ a b c : List Tm, Tri (Tm.cmpL a b) (Tm.cmpL b c) (Tm.cmpL a c)
  | [], [], [] => by simp [Tm.cmpL, Tri]
  | [], [], _ :: _ => by simp [Tm.cmpL, Tri]
  | [], _ :: _, [] => by simp [Tm.cmpL, Tri]
  | [], _ :: _, _ :: _ => by simp [Tm.cmpL, Tri]
  | _ :: _, [], [] => by simp [Tm.cmpL, Tri]
  | _ :: _, [], _ :: _ => by simp [Tm.cmpL, Tri]
  | x :: a, y :: b, [] => by simp [Tm.cmpL, Tri]
  | x :: a, y :: b, z :: c => by
    have h1 := tri_cmp x y z
    have h2 := tri_cmpL a b c
    have key : ∀ (u v : Tm) (s t : List Tm), Tm.cmpL (u :: s) (v :: t) = fst0 [u.cmp v, Tm.cmpL s t] := fun u v s t => by
      simp only [Tm.cmpL, fst0]
      by_cases h : u.cmp v ≠ 0
      · rw [if_pos h, if_pos h]
      · rw [if_neg h, if_neg h]
        by_cases h3 : Tm.cmpL s t = 0 <;> simp [h3]
    rw [key, key, key]
    exact tri_cons h1 fun _ _ => tri_cons h2 fun _ _ => tri_nil
end
theorem fst0_neg : ∀ l : List Int, fst0 (l.map fun x => -x) = - fst0 l
  | [] => rfl
  | x :: r => by
    simp only [List.map_cons, fst0]
    by_cases h : x ≠ 0
    · rw [if_pos h, if_pos (by omega)]
    · rw [if_neg h, if_neg (by omega)]; exact fst0_neg r
mutual
theorem cmp_neg : ∀ a b : Tm, b.cmp a = - a.cmp b
  | .mk k n s l, .mk k' n' s' l' => by
    simp only [Tm.cmp]
    by_cases h : ncmp (rkI k) (rkI k') = 0
    · have e := rkI_inj (ncmp_eq.1 h)
      subst e
      rw [← fst0_neg]
      simp only [List.map_cons, List.map_nil, ← ncmp_neg, ← bcmp_neg, ← cmpL_neg]
      congr 3
      split
      · rw [← ncmp_neg]
      · rfl
    · have h' : ncmp (rkI k') (rkI k) ≠ 0 := by rw [ncmp_neg]; omega
      simp only [fst0]
      rw [if_pos h, if_pos h', ncmp_neg]
theorem cmpL_neg : ∀ a b : List Tm, Tm.cmpL b a = - Tm.cmpL a b
  | [], [] => rfl
  | [], _ :: _ => rfl
  | _ :: _, [] => rfl
  | a :: r, b :: q => by
    simp only [Tm.cmpL]
    have h1 := cmp_neg a b
    by_cases h : a.cmp b ≠ 0
    · rw [if_pos h, if_pos (by omega)]; exact h1
    · rw [if_neg h, if_neg (by omega)]; exact cmpL_neg r q
end
theorem cmp_self (a : Tm) : a.cmp a = 0 := cmp_eq.2 rfl
end Go.Sx

/- TEXTS ARE READ BACK: so no two terms have one. -/
namespace Go.Sx.Pa
open Go.Sx.Lx

inductive Md where
  | R
  | S
  | LS (a : Tm)
  | P
  | LP (a : Tm)
  | A
  | L
abbrev Res := Option (List Tm × List UInt8)
def bnd (x : Res) (k : Tm → List UInt8 → Res) : Res := match x with
  | some ([a], r) => k a r
  | _ => none
theorem bnd_some {a : Tm} {r : List UInt8} {k : Tm → List UInt8 → Res} : bnd (some ([a], r)) k = k a r := rfl
def digStart : List UInt8 → Bool
  | c :: _ => isDig c
  | [] => false
def add1 (c : UInt8) : Bool := c == 43 || c == 45
def mul1 (c : UInt8) : Bool := c == 42 || c == 47 || c == 92
def step (g : Md → List UInt8 → Res) : Md → List UInt8 → Res
  | .R, s => bnd (g .S s) fun a r => match r with
    | c :: d :: r' => if c = 46 ∧ d = 46 then bnd (g .S r') fun b r'' => some ([.mk 6 0 [] [a, b]], r'') else some ([a], c :: d :: r')
    | r => some ([a], r)
  | .S, s => bnd (g .P s) fun a r => g (.LS a) r
  | .LS a, r => match r with
    | c :: r' => if add1 c = true then bnd (g .P r') fun b r'' => g (.LS (.mk 5 0 [c] [a, b])) r'' else some ([a], c :: r')
    | [] => some ([a], [])
  | .P, s => bnd (g .A s) fun a r => g (.LP a) r
  | .LP a, r => match r with
    | c :: r' => if mul1 c = true then bnd (g .A r') fun b r'' => g (.LP (.mk 5 0 [c] [a, b])) r'' else some ([a], c :: r')
    | [] => some ([a], [])
  | .A, s => match s with
    | [] => none
    | c :: r =>
      if c = 40 then bnd (g .R r) fun a r' => match r' with
        | d :: r'' => if d = 41 then some ([a], r'') else none
        | [] => none
      else if c = 45 then (if digStart r = true then some ([.mk 1 (-(valN 0 (r.takeWhile isDig) : Int)) [] []], r.dropWhile isDig) else bnd (g .A r) fun a r' => some ([.mk 5 0 [45] [a]], r'))
      else if isDig c = true then some ([.mk 1 (valN 0 ((c :: r).takeWhile isDig)) [] []], (c :: r).dropWhile isDig)
      else match (c :: r).dropWhile isName with
        | d :: r' => if d = 40 then (match g .L r' with
            | some (l, r'') => some ([.mk 4 0 ((c :: r).takeWhile isName) l], r'')
            | none => none) else some ([.mk (if symbolB ((c :: r).takeWhile isName) = true then 2 else 3) 0 ((c :: r).takeWhile isName) []], d :: r')
        | [] => some ([.mk (if symbolB ((c :: r).takeWhile isName) = true then 2 else 3) 0 ((c :: r).takeWhile isName) []], [])
  | .L, s => bnd (g .R s) fun a r => match r with
    | c :: r' => if c = 44 then (match g .L r' with
        | some (l, r'') => some (a :: l, r'')
        | none => none) else if c = 41 then some ([a], r') else none
    | [] => none
def p : Nat → Md → List UInt8 → Res
  | 0, _, _ => none
  | n + 1, m, s => step (p n) m s

theorem bnd_mono {x y : Res} {k k' : Tm → List UInt8 → Res} {q : List Tm × List UInt8} (h : ∀ r, x = some r → y = some r) (hk : ∀ a r q, k a r = some q → k' a r = some q) (hq : bnd x k = some q) : bnd y k' = some q := by
  unfold bnd at hq ⊢
  split at hq
  · rename_i a r
    rw [h _ rfl]
    exact hk _ _ _ hq
  · cases hq
theorem step_mono {g g' : Md → List UInt8 → Res} (h : ∀ m s r, g m s = some r → g' m s = some r) : ∀ (m : Md) (s : List UInt8) (r : List Tm × List UInt8), step g m s = some r → step g' m s = some r := by
  intro m s q hq
  cases m with
  | R =>
    simp only [step] at hq ⊢
    refine bnd_mono (h _ _) (fun a r q hq => ?_) hq
    split at hq
    · split at hq
      · rename_i hc; simp only [hc, and_self, if_true]; exact bnd_mono (h _ _) (fun _ _ _ h => h) hq
      · rename_i hc; simp only [hc, if_false]; exact hq
    · exact hq
  | S => simp only [step] at hq ⊢; exact bnd_mono (h _ _) (fun _ _ _ hq => h _ _ _ hq) hq
  | LS a =>
    simp only [step] at hq ⊢
    split at hq
    · split at hq
      · rename_i hc; simp only [hc, if_true]; exact bnd_mono (h _ _) (fun _ _ _ hq => h _ _ _ hq) hq
      · rename_i hc; simp only [hc]; exact hq
    · exact hq
  | P => simp only [step] at hq ⊢; exact bnd_mono (h _ _) (fun _ _ _ hq => h _ _ _ hq) hq
  | LP a =>
    simp only [step] at hq ⊢
    split at hq
    · split at hq
      · rename_i hc; simp only [hc, if_true]; exact bnd_mono (h _ _) (fun _ _ _ hq => h _ _ _ hq) hq
      · rename_i hc; simp only [hc]; exact hq
    · exact hq
  | A =>
    simp only [step] at hq ⊢
    split at hq
    · exact hq
    · rename_i c r
      split at hq
      · rename_i hc; simp only [hc, if_true]; exact bnd_mono (h _ _) (fun _ _ _ h => h) hq
      · rename_i hc; simp only [hc, if_false]
        split at hq
        · rename_i hc2; simp only [hc2, if_true]
          split at hq
          · rename_i hd; simp only [hd, if_true]; exact hq
          · rename_i hd; simp only [hd]; exact bnd_mono (h _ _) (fun _ _ _ h => h) hq
        · rename_i hc2; simp only [hc2, if_false]
          split at hq
          · rename_i hd; simp only [hd, if_true]; exact hq
          · rename_i hd; simp only [hd]
            split at hq
            · rename_i d r' hdr
              split at hq
              · rename_i hd4
                simp only [hd4, if_true]
                split at hq
                · rename_i l r'' hl; rw [h _ _ _ hl]; exact hq
                · cases hq
              · rename_i hd4; simp only [hd4, if_false]; exact hq
            · exact hq
  | L =>
    simp only [step] at hq ⊢
    refine bnd_mono (h _ _) (fun a r q hq => ?_) hq
    split at hq
    · split at hq
      · rename_i hc
        simp only [hc, if_true]
        split at hq
        · rename_i l r'' hl; rw [h _ _ _ hl]; exact hq
        · cases hq
      · rename_i hc; simp only [hc, if_false]; exact hq
    · exact hq
theorem p_mono {m : Md} {s : List UInt8} {r : List Tm × List UInt8} : ∀ {n : Nat}, p n m s = some r → p (n + 1) m s = some r := by
  intro n
  induction n generalizing m s r with
  | zero => intro h; cases h
  | succ n ih => intro h; exact step_mono (fun m s r h => ih h) m s r h
theorem p_le {m : Md} {s : List UInt8} {r : List Tm × List UInt8} {n n' : Nat} (h : p n m s = some r) (hn : n ≤ n') : p n' m s = some r := by
  induction hn with
  | refl => exact h
  | step _ ih => exact p_mono ih
def PX (m : Md) (s : List UInt8) (r : List Tm × List UInt8) : Prop := ∃ n, p n m s = some r
theorem PX.det {m : Md} {s : List UInt8} {r r' : List Tm × List UInt8} (h : PX m s r) (h' : PX m s r') : r = r' := by
  obtain ⟨n, h⟩ := h
  obtain ⟨n', h'⟩ := h'
  have h1 := p_le h (Nat.le_max_left n n')
  have h2 := p_le h' (Nat.le_max_right n n')
  rw [h1] at h2
  exact Option.some.inj h2
/-- Two at one time. -/
theorem PX.two {m m' : Md} {s s' : List UInt8} {r r' : List Tm × List UInt8} (h : PX m s r) (h' : PX m' s' r') : ∃ n, p n m s = some r ∧ p n m' s' = some r' := by
  obtain ⟨n, h⟩ := h
  obtain ⟨n', h'⟩ := h'
  exact ⟨max n n', p_le h (Nat.le_max_left ..), p_le h' (Nat.le_max_right ..)⟩

section
variable {a b : Tm} {s r r' u : List UInt8} {q : List Tm × List UInt8} {c : UInt8} {l : List Tm}
theorem r_S (h : PX .P s ([a], r)) (h2 : PX (.LS a) r q) : PX .S s q := by
  obtain ⟨n, h1, h2⟩ := h.two h2
  exact ⟨n + 1, by simp only [p, step]; rw [h1]; exact h2⟩
theorem r_P (h : PX .A s ([a], r)) (h2 : PX (.LP a) r q) : PX .P s q := by
  obtain ⟨n, h1, h2⟩ := h.two h2
  exact ⟨n + 1, by simp only [p, step]; rw [h1]; exact h2⟩
theorem r_LS (hc : add1 c = true) (h : PX .P r ([b], r')) (h2 : PX (.LS (.mk 5 0 [c] [a, b])) r' q) : PX (.LS a) (c :: r) q := by
  obtain ⟨n, h1, h2⟩ := h.two h2
  exact ⟨n + 1, by simp only [p, step]; rw [if_pos hc, h1]; exact h2⟩
theorem r_LP (hc : mul1 c = true) (h : PX .A r ([b], r')) (h2 : PX (.LP (.mk 5 0 [c] [a, b])) r' q) : PX (.LP a) (c :: r) q := by
  obtain ⟨n, h1, h2⟩ := h.two h2
  exact ⟨n + 1, by simp only [p, step]; rw [if_pos hc, h1]; exact h2⟩
theorem e_LS (h : ∀ c, r.head? = some c → add1 c = false) : PX (.LS a) r ([a], r) := by
  refine ⟨1, ?_⟩
  cases r with
  | nil => rfl
  | cons c r => simp only [p, step]; rw [if_neg (by rw [h c rfl]; simp)]
theorem e_LP (h : ∀ c, r.head? = some c → mul1 c = false) : PX (.LP a) r ([a], r) := by
  refine ⟨1, ?_⟩
  cases r with
  | nil => rfl
  | cons c r => simp only [p, step]; rw [if_neg (by rw [h c rfl]; simp)]
theorem r_R (h : PX .S s ([a], r)) (hr : ∀ c, r.head? = some c → c ≠ 46) : PX .R s ([a], r) := by
  obtain ⟨n, h1⟩ := h
  refine ⟨n + 1, ?_⟩
  simp only [p, step]
  rw [h1, bnd_some]
  split
  · rename_i c d r'
    rw [if_neg (fun h => hr c rfl h.1)]
  · rfl
theorem r_Rr (h : PX .S s ([a], 46 :: 46 :: r)) (h2 : PX .S r ([b], r')) : PX .R s ([.mk 6 0 [] [a, b]], r') := by
  obtain ⟨n, h1, h2⟩ := h.two h2
  refine ⟨n + 1, ?_⟩
  simp only [p, step]
  rw [h1, bnd_some]
  simp only [and_self, if_true]
  rw [h2, bnd_some]
theorem r_par (h : PX .R s ([a], 41 :: r)) : PX .A (40 :: s) ([a], r) := by
  obtain ⟨n, h1⟩ := h
  refine ⟨n + 1, ?_⟩
  simp only [p, step, if_true]
  rw [h1, bnd_some]
  simp
theorem r_neg (hd : digStart s = false) (h : PX .A s ([a], r)) : PX .A (45 :: s) ([.mk 5 0 [45] [a]], r) := by
  obtain ⟨n, h1⟩ := h
  refine ⟨n + 1, ?_⟩
  simp only [p, step]
  rw [if_neg (by decide), if_pos trivial, if_neg (by rw [hd]; simp), h1, bnd_some]
theorem r_L1 (h : PX .R s ([a], 41 :: u)) : PX .L s ([a], u) := by
  obtain ⟨n, h1⟩ := h
  refine ⟨n + 1, ?_⟩
  simp only [p, step]
  rw [h1, bnd_some]
  simp
theorem r_L2 (h : PX .R s ([a], 44 :: r)) (h2 : PX .L r (l, u)) : PX .L s (a :: l, u) := by
  obtain ⟨n, h1, h2⟩ := h.two h2
  refine ⟨n + 1, ?_⟩
  simp only [p, step]
  rw [h1, bnd_some]
  simp only [if_true]
  rw [h2]
end
end Go.Sx.Pa

namespace Go.Sx.Pa
open Go.Sx.Lx

def fol (bad : UInt8 → Bool) (u : List UInt8) : Prop := ∀ c, u.head? = some c → bad c = false
def bad3 (c : UInt8) : Bool := isName c || c == 40
def bad2 (c : UInt8) : Bool := bad3 c || mul1 c
def bad1 (c : UInt8) : Bool := bad2 c || add1 c
def bad0 (c : UInt8) : Bool := bad1 c || c == 46
theorem fol23 {u : List UInt8} (h : fol bad2 u) : fol bad3 u := fun c hc => by have := h c hc; unfold bad2 at this; rw [Bool.or_eq_false_iff] at this; exact this.1
theorem fol12 {u : List UInt8} (h : fol bad1 u) : fol bad2 u := fun c hc => by have := h c hc; unfold bad1 at this; rw [Bool.or_eq_false_iff] at this; exact this.1
theorem fol01 {u : List UInt8} (h : fol bad0 u) : fol bad1 u := fun c hc => by have := h c hc; unfold bad0 at this; rw [Bool.or_eq_false_iff] at this; exact this.1
theorem fol2m {u : List UInt8} (h : fol bad2 u) : ∀ c, u.head? = some c → mul1 c = false := fun c hc => by have := h c hc; unfold bad2 at this; rw [Bool.or_eq_false_iff] at this; exact this.2
theorem fol1a {u : List UInt8} (h : fol bad1 u) : ∀ c, u.head? = some c → add1 c = false := fun c hc => by have := h c hc; unfold bad1 at this; rw [Bool.or_eq_false_iff] at this; exact this.2
theorem fol0d {u : List UInt8} (h : fol bad0 u) : ∀ c, u.head? = some c → c ≠ 46 := fun c hc => by have := h c hc; unfold bad0 at this; rw [Bool.or_eq_false_iff] at this; simpa using this.2
theorem fol_nil (bad : UInt8 → Bool) : fol bad [] := fun c h => by cases h
theorem fol_cons {bad : UInt8 → Bool} {c : UInt8} {r : List UInt8} (h : bad c = false) : fol bad (c :: r) := fun d hd => by cases hd; exact h

theorem take_app {q : UInt8 → Bool} : ∀ {d u : List UInt8}, d.all q = true → fol q u → (d ++ u).takeWhile q = d ∧ (d ++ u).dropWhile q = u
  | [], u, _, hu => by
    cases u with
    | nil => exact ⟨rfl, rfl⟩
    | cons c r =>
      have := hu c rfl
      simp [List.takeWhile_cons, List.dropWhile_cons, this]
  | c :: d, u, hd, hu => by
    rw [List.all_cons, Bool.and_eq_true] at hd
    have h := take_app hd.2 hu
    simp only [List.cons_append, List.takeWhile_cons, List.dropWhile_cons, hd.1, if_true, h.1, h.2, and_self]
theorem dig_ne {c : UInt8} (h : isDig c = true) : c ≠ 40 ∧ c ≠ 45 := by
  constructor
  · intro e; rw [e] at h; revert h; decide
  · intro e; rw [e] at h; revert h; decide
theorem start_ne {c : UInt8} (h : (isLet c || isUnd c) = true) : c ≠ 40 ∧ c ≠ 45 ∧ isDig c = false := by
  refine ⟨fun e => ?_, fun e => ?_, ?_⟩
  · rw [e] at h; revert h; decide
  · rw [e] at h; revert h; decide
  · cases hd : isDig c with
    | false => rfl
    | true => have := dig_not hd; rw [this.1, this.2] at h; cases h
theorem nm_dig {u : List UInt8} (h : fol bad3 u) : fol isDig u := fun c hc => by
  have := h c hc
  unfold bad3 isName at this
  cases hd : isDig c with
  | false => rfl
  | true => rw [hd] at this; simp at this
theorem nm_nm {u : List UInt8} (h : fol bad3 u) : fol isName u := fun c hc => by
  have := h c hc
  unfold bad3 at this
  rw [Bool.or_eq_false_iff] at this
  exact this.1
theorem nm_40 {u : List UInt8} (h : fol bad3 u) : ∀ c, u.head? = some c → c ≠ 40 := fun c hc => by
  have := h c hc
  unfold bad3 at this
  rw [Bool.or_eq_false_iff] at this
  simpa using this.2

theorem r_num {d u : List UInt8} (hd : d.all isDig = true) (hne : d ≠ []) (hu : fol bad3 u) : PX .A (d ++ u) ([.mk 1 (valN 0 d) [] []], u) := by
  obtain ⟨c, d', rfl⟩ : ∃ c d', d = c :: d' := by cases d with | nil => exact absurd rfl hne | cons c d' => exact ⟨c, d', rfl⟩
  have h := take_app hd (nm_dig hu)
  have hc : isDig c = true := by rw [List.all_cons, Bool.and_eq_true] at hd; exact hd.1
  have hn := dig_ne hc
  refine ⟨1, ?_⟩
  rw [List.cons_append] at h ⊢
  simp only [p, step]
  rw [if_neg hn.1, if_neg hn.2, if_pos hc, h.1, h.2]
theorem r_numneg {d u : List UInt8} (hd : d.all isDig = true) (hne : d ≠ []) (hu : fol bad3 u) : PX .A (45 :: (d ++ u)) ([.mk 1 (-(valN 0 d : Int)) [] []], u) := by
  obtain ⟨c, d', rfl⟩ : ∃ c d', d = c :: d' := by cases d with | nil => exact absurd rfl hne | cons c d' => exact ⟨c, d', rfl⟩
  have h := take_app hd (nm_dig hu)
  have hc : isDig c = true := by rw [List.all_cons, Bool.and_eq_true] at hd; exact hd.1
  refine ⟨1, ?_⟩
  simp only [p, step]
  rw [if_neg (by decide), if_pos trivial, if_pos (by rw [List.cons_append]; exact hc), h.1, h.2]
theorem r_name {w u : List UInt8} (hw : w.all isName = true) (hs : ∃ c w', w = c :: w' ∧ (isLet c || isUnd c) = true) (hu : fol bad3 u) : PX .A (w ++ u) ([.mk (if symbolB w = true then 2 else 3) 0 w []], u) := by
  obtain ⟨c, w', rfl, hc⟩ := hs
  have h := take_app hw (nm_nm hu)
  have hn := start_ne hc
  have h40 := nm_40 hu
  refine ⟨1, ?_⟩
  rw [List.cons_append] at h ⊢
  simp only [p, step]
  rw [if_neg hn.1, if_neg hn.2.1, if_neg (by rw [hn.2.2]; simp), h.1, h.2]
  cases u with
  | nil => rfl
  | cons d r => simp only; rw [if_neg (h40 d rfl)]
theorem r_fun {w r u : List UInt8} {l : List Tm} (hw : w.all isName = true) (hs : ∃ c w', w = c :: w' ∧ (isLet c || isUnd c) = true) (hl : PX .L r (l, u)) : PX .A (w ++ 40 :: r) ([.mk 4 0 w l], u) := by
  obtain ⟨c, w', rfl, hc⟩ := hs
  have h := take_app (u := 40 :: r) hw (fol_cons (by decide))
  have hn := start_ne hc
  obtain ⟨n, hl⟩ := hl
  refine ⟨n + 1, ?_⟩
  rw [List.cons_append] at h ⊢
  simp only [p, step]
  rw [if_neg hn.1, if_neg hn.2.1, if_neg (by rw [hn.2.2]; simp), h.1, h.2]
  simp only [if_true]
  rw [hl]

/-- How tightly a term holds together. -/
def cls (t : Tm) : Nat := if t.kd = 6 then 0 else if t.kd = 5 ∧ t.as'.length ≠ 1 then (if bindsB t.nm = 1 then 1 else 2) else 3
/-- A term's text is read as the term. -/
structure Rd (t : Tm) : Prop where
  a : cls t = 3 → ∀ u, fol bad3 u → PX .A (t.text ++ u) ([t], u)
  p : 2 ≤ cls t → ∀ u q, fol bad3 u → PX (.LP t) u q → PX .P (t.text ++ u) q
  s : 1 ≤ cls t → ∀ u q, fol bad2 u → PX (.LS t) u q → PX .S (t.text ++ u) q
  r : ∀ u, fol bad0 u → PX .R (t.text ++ u) ([t], u)
theorem Rd.of1 {t : Tm} (hc : 1 = cls t) (h : ∀ u q, fol bad2 u → PX (.LS t) u q → PX .S (t.text ++ u) q) : Rd t :=
  ⟨fun h3 => by omega, fun h2 => by omega, fun _ => h, fun u hu => r_R (h u _ (fol12 (fol01 hu)) (e_LS (fol1a (fol01 hu)))) (fol0d hu)⟩
theorem sOfP {t : Tm} (h : ∀ u q, fol bad3 u → PX (.LP t) u q → PX .P (t.text ++ u) q) : ∀ u q, fol bad2 u → PX (.LS t) u q → PX .S (t.text ++ u) q :=
  fun u q hu hq => r_S (h u _ (fol23 hu) (e_LP (fol2m hu))) hq
theorem Rd.of2 {t : Tm} (hc : 2 = cls t) (h : ∀ u q, fol bad3 u → PX (.LP t) u q → PX .P (t.text ++ u) q) : Rd t :=
  ⟨fun h3 => by omega, fun _ => h, fun _ => sOfP h, fun u hu => r_R (sOfP h u _ (fol12 (fol01 hu)) (e_LS (fol1a (fol01 hu)))) (fol0d hu)⟩
theorem Rd.of3 {t : Tm} (h : ∀ u, fol bad3 u → PX .A (t.text ++ u) ([t], u)) : Rd t :=
  have hp : ∀ u q, fol bad3 u → PX (.LP t) u q → PX .P (t.text ++ u) q := fun u q hu hq => r_P (h u hu) hq
  ⟨fun _ => h, fun _ => hp, fun _ => sOfP hp, fun u hu => r_R (sOfP hp u _ (fol12 (fol01 hu)) (e_LS (fol1a (fol01 hu)))) (fol0d hu)⟩

section
variable {k : Nat} {s : List UInt8} {len : Nat} {x : Tm} {rt : Bool}
theorem op_par (hx : Rd x) (hc : closedB k s len x.kd x.nm x.as'.length rt = true) (u : List UInt8) : PX .A (opdT k s len x x.text rt ++ u) ([x], u) := by
  unfold opdT
  rw [hc]
  have := r_par (hx.r (41 :: u) (fol_cons (by decide)))
  simpa using this
theorem op_bare (hc : closedB k s len x.kd x.nm x.as'.length rt = false) : opdT k s len x x.text rt = x.text := by unfold opdT; rw [hc]
theorem opA (hx : Rd x) (h : closedB k s len x.kd x.nm x.as'.length rt = false → cls x = 3) (u : List UInt8) (hu : fol bad3 u) : PX .A (opdT k s len x x.text rt ++ u) ([x], u) := by
  cases hc : closedB k s len x.kd x.nm x.as'.length rt with
  | true => exact op_par hx hc u
  | false => rw [op_bare hc]; exact hx.a (h hc) u hu
theorem opP (hx : Rd x) (h : closedB k s len x.kd x.nm x.as'.length rt = false → 2 ≤ cls x) (u : List UInt8) (q : List Tm × List UInt8) (hu : fol bad3 u) (hq : PX (.LP x) u q) : PX .P (opdT k s len x x.text rt ++ u) q := by
  cases hc : closedB k s len x.kd x.nm x.as'.length rt with
  | true => exact r_P (op_par hx hc u) hq
  | false => rw [op_bare hc]; exact hx.p (h hc) u q hu hq
theorem opS (hx : Rd x) (h : closedB k s len x.kd x.nm x.as'.length rt = false → 1 ≤ cls x) (u : List UInt8) (q : List Tm × List UInt8) (hu : fol bad2 u) (hq : PX (.LS x) u q) : PX .S (opdT k s len x x.text rt ++ u) q := by
  cases hc : closedB k s len x.kd x.nm x.as'.length rt with
  | true => exact r_S (r_P (op_par hx hc u) (e_LP (fol2m hu))) hq
  | false => rw [op_bare hc]; exact hx.s (h hc) u q hu hq
end
theorem binds_cases (s : List UInt8) : bindsB s = 1 ∨ bindsB s = 2 := by
  unfold bindsB
  split
  · exact .inl rfl
  · split
    · exact .inl rfl
    · exact .inr rfl
theorem cls_ge1 {x : Tm} (h : x.kd ≠ 6) : 1 ≤ cls x := by
  unfold cls
  rw [if_neg h]
  split
  · split <;> omega
  · omega
theorem cl6 {s : List UInt8} {len kx lenx : Nat} {sx : List UInt8} {r : Bool} (h : closedB 6 s len kx sx lenx r = false) : kx ≠ 6 := by
  intro e
  unfold closedB at h
  rw [if_pos e] at h
  cases h
theorem cl5u {s : List UInt8} {x : Tm} {r : Bool} (h : closedB 5 s 1 x.kd x.nm x.as'.length r = false) : x.kd ≠ 1 ∧ cls x = 3 := by
  unfold closedB at h
  split at h
  · cases h
  · rename_i h6
    split at h
    · simp at h
    · rename_i h1
      refine ⟨h1, ?_⟩
      unfold cls
      rw [if_neg h6]
      split at h
      · simp only [if_true] at h
        split at h
        · rename_i hl; rw [if_neg (fun hh => hh.2 hl)]
        · simp at h
      · rename_i h5; rw [if_neg (fun hh => h5 hh.1)]
theorem cl5b {s : List UInt8} {x : Tm} {r : Bool} (h : closedB 5 s 2 x.kd x.nm x.as'.length r = false) : 1 ≤ cls x ∧ (bindsB s = 2 → 2 ≤ cls x) ∧ (bindsB s = 1 → r = true → 2 ≤ cls x) ∧ (bindsB s = 2 → r = true → cls x = 3) := by
  have hb := binds_cases x.nm
  unfold closedB at h
  split at h
  · cases h
  · rename_i h6
    unfold cls
    rw [if_neg h6]
    split at h
    · rename_i h1
      rw [if_neg (fun hh => by omega)]
      exact ⟨by omega, fun _ => by omega, fun _ _ => by omega, fun _ _ => rfl⟩
    · split at h
      · simp only [if_true] at h
        split at h
        · rename_i hl
          rw [if_neg (fun hh => hh.2 hl)]
          exact ⟨by omega, fun _ => by omega, fun _ _ => by omega, fun _ _ => rfl⟩
        · rename_i h5 hl
          rw [if_pos ⟨h5, hl⟩]
          simp only [show ¬ (2 : Nat) = 1 by omega, decide_false, Bool.false_or, Bool.or_eq_false_iff, decide_eq_false_iff_not, Bool.and_eq_false_iff] at h
          obtain ⟨h7, h8⟩ := h
          rcases hb with hb | hb
          · rw [if_pos hb]
            rw [hb] at h7 h8
            refine ⟨by omega, fun h => by omega, fun h hr => ?_, fun h => by omega⟩
            rcases h8 with h8 | h8
            · exact absurd h h8
            · rw [hr] at h8; cases h8
          · rw [if_neg (by omega)]
            rw [hb] at h7 h8
            refine ⟨by omega, fun _ => by omega, fun _ _ => by omega, fun h hr => ?_⟩
            rcases h8 with h8 | h8
            · exact absurd h h8
            · rw [hr] at h8; cases h8
      · rename_i h5
        rw [if_neg (fun hh => h5 hh.1)]
        exact ⟨by omega, fun _ => by omega, fun _ _ => by omega, fun _ _ => rfl⟩
end Go.Sx.Pa

/- A VALID TERM'S TEXT IS READ AS THE TERM. -/
namespace Go.Sx.Pa
open Go.Sx.Lx

theorem rdL : ∀ (l : List Tm), l ≠ [] → (∀ y ∈ l, Rd y) → ∀ u, PX .L (Lib.join (Tm.texts l) [44] ++ 41 :: u) (l, u)
  | [], h, _, _ => absurd rfl h
  | [a], _, H, u => by
    rw [texts_map, List.map_cons, List.map_nil, Lib.join_one]
    exact r_L1 ((H a (List.mem_cons_self ..)).r (41 :: u) (fol_cons (by decide)))
  | a :: b :: r, _, H, u => by
    have ih := rdL (b :: r) (by simp) (fun y hy => H y (List.mem_cons_of_mem _ hy)) u
    have e : Lib.join (Tm.texts (a :: b :: r)) [44] = a.text ++ 44 :: Lib.join (Tm.texts (b :: r)) [44] := by
      rw [texts_map, texts_map, List.map_cons, List.map_cons, Lib.join_cons, Lib.join_cons]
      simp [Lib.joinTail]
    rw [e, List.append_assoc]
    exact r_L2 ((H a (List.mem_cons_self ..)).r (44 :: (Lib.join (Tm.texts (b :: r)) [44] ++ 41 :: u)) (fol_cons (by decide))) ih
theorem cls_mk (k : Nat) (n : Int) (s : List UInt8) (l : List Tm) : cls (.mk k n s l) = if k = 6 then 0 else if k = 5 ∧ l.length ≠ 1 then (if bindsB s = 1 then 1 else 2) else 3 := rfl
theorem text_start {x : Tm} (h : x.all Tm.shape = true) (hc : cls x = 3) (h1 : x.kd ≠ 1) (u : List UInt8) : digStart (x.text ++ u) = false := by
  obtain ⟨k, n, s, l⟩ := x
  simp only [Tm.all, Bool.and_eq_true, Tm.shape] at h
  obtain ⟨hs, _⟩ := h
  simp only [Tm.kd] at h1
  have st : ∀ {w r : List UInt8}, (∃ b r, w = b :: r ∧ (isLet b || isUnd b) = true) → digStart (w ++ r) = false := by
    rintro w r ⟨b, w', rfl, hb⟩
    exact (start_ne hb).2.2
  rw [cls_mk] at hc
  unfold shapeB at hs
  simp only [Tm.text]
  rw [if_neg h1]
  by_cases e4 : k = 4
  · subst e4
    simp at hs
    rw [if_pos rfl, List.append_assoc, List.append_assoc, List.append_assoc]
    exact st (sym_start hs.1.1.2).2
  · rw [if_neg e4]
    by_cases e6 : k = 6
    · rw [if_pos e6] at hc; cases hc
    · rw [if_neg e6]
      by_cases e5 : k = 5
      · subst e5
        simp at hs
        by_cases hl : l.length = 1
        · have h45 : s = [45] := by
            rcases hs.2 with h | h
            · omega
            · exact h.1
          rw [if_pos rfl, if_pos hl, h45]; rfl
        · rw [if_neg e6, if_pos ⟨rfl, hl⟩] at hc
          split at hc <;> cases hc
      · rw [if_neg e5]
        by_cases e2 : k = 2
        · subst e2
          simp at hs
          exact st (sym_start hs.1.2).2
        · by_cases e3 : k = 3
          · subst e3
            simp at hs
            exact st (var_start hs.1.2).2
          · exfalso
            have c1 : ¬ (k : Int) = 1 := by omega
            have c2 : ¬ (k : Int) = 2 := by omega
            have c3 : ¬ (k : Int) = 3 := by omega
            have c4 : ¬ (k : Int) = 4 := by omega
            have c5 : ¬ (k : Int) = 5 := by omega
            have c6 : ¬ (k : Int) = 6 := by omega
            simp [c1, c2, c3, c4, c5, c6] at hs
theorem two_of {l : List Tm} (h : l.length = 2) : ∃ a b, l = [a, b] := by
  match l, h with
  | [a, b], _ => exact ⟨a, b, rfl⟩
theorem one_of' {l : List Tm} (h : l.length = 1) : ∃ a, l = [a] := by
  match l, h with
  | [a], _ => exact ⟨a, rfl⟩
theorem rd : ∀ t : Tm, t.all Tm.shape = true → Rd t
  | .mk k n s l, h => by
    simp only [Tm.all, Bool.and_eq_true, Tm.shape] at h
    obtain ⟨hs, h2⟩ := h
    have IH : ∀ y ∈ l, Rd y := fun y hy => rd y (allL_mem h2 hy)
    have AL : ∀ y ∈ l, y.all Tm.shape = true := fun y hy => allL_mem h2 hy
    clear h2
    unfold shapeB at hs
    by_cases e1 : k = 1
    · subst e1
      simp at hs
      obtain ⟨⟨hn, rfl⟩, rfl⟩ := hs
      refine Rd.of3 fun u hu => ?_
      simp only [Tm.text, if_true, Lib.itoa]
      by_cases hneg : n < 0
      · rw [if_pos hneg]
        have hd := dec_props 9 n.natAbs (by omega)
        have := r_numneg hd.1 hd.2.2.2 hu
        rw [hd.2.1, show (-((n.natAbs : Nat) : Int)) = n by omega] at this
        exact this
      · rw [if_neg hneg]
        have hd := dec_props 9 n.toNat (by omega)
        have := r_num hd.1 hd.2.2.2 hu
        rw [hd.2.1, show (((n.toNat : Nat) : Int)) = n by omega] at this
        exact this
    by_cases e2 : k = 2
    · subst e2
      simp at hs
      obtain ⟨⟨rfl, hy⟩, rfl⟩ := hs
      refine Rd.of3 fun u hu => ?_
      have h := sym_start hy
      have := r_name h.1 h.2 hu
      rw [if_pos hy] at this
      exact this
    by_cases e3 : k = 3
    · subst e3
      simp at hs
      obtain ⟨⟨rfl, hy⟩, rfl⟩ := hs
      refine Rd.of3 fun u hu => ?_
      have h := var_start hy
      have := r_name h.1 h.2 hu
      rw [if_neg (by rw [(var_sym hy).1]; simp)] at this
      exact this
    by_cases e4 : k = 4
    · subst e4
      simp at hs
      obtain ⟨⟨⟨rfl, hy⟩, hl1⟩, hl8⟩ := hs
      refine Rd.of3 fun u hu => ?_
      have h := sym_start hy
      have hl := rdL l (by intro e; rw [e] at hl1; simp at hl1) IH u
      have := r_fun h.1 h.2 hl
      simp only [Tm.text]
      rw [if_neg (by decide), if_pos trivial]
      simpa using this
    by_cases e5 : k = 5
    · subst e5
      simp at hs
      obtain ⟨⟨rfl, hop⟩, hl⟩ := hs
      by_cases hl1 : l.length = 1
      · have h45 : s = [45] := by
          rcases hl with h | h
          · omega
          · exact h.1
        subst h45
        obtain ⟨a, rfl⟩ := one_of' hl1
        have ha := IH a (List.mem_cons_self ..)
        have aa := AL a (List.mem_cons_self ..)
        refine Rd.of3 fun u hu => ?_
        have e : Tm.text (.mk 5 0 [45] [a]) = 45 :: opdT 5 [45] 1 a a.text false := by simp [Tm.text, Tm.texts]
        rw [e, List.cons_append]
        refine r_neg ?_ (opA ha (fun hc => (cl5u hc).2) u hu)
        unfold opdT
        cases hc : closedB 5 [45] 1 a.kd a.nm a.as'.length false with
        | true => rfl
        | false => exact text_start aa (cl5u hc).2 (cl5u hc).1 u
      · obtain ⟨a, b, rfl⟩ := two_of (l := l) (by
          rcases hl with h | h
          · exact h
          · exact absurd h.2 hl1)
        have ha := IH a (by simp)
        have hb := IH b (by simp)
        have e : Tm.text (.mk 5 0 s [a, b]) = opdT 5 s 2 a a.text false ++ (s ++ opdT 5 s 2 b b.text true) := by simp [Tm.text, Tm.texts]
        have hcl : cls (.mk 5 0 s [a, b]) = if bindsB s = 1 then 1 else 2 := by rw [cls_mk]; simp
        rcases hop with (((rfl | rfl) | rfl) | rfl) | rfl
        · refine Rd.of1 (by rw [hcl]; rfl) fun u q hu hq => ?_
          rw [e, List.append_assoc]
          exact opS ha (fun hc => (cl5b hc).1) _ q (fol_cons (by decide)) (r_LS (by decide) (opP hb (fun hc => (cl5b hc).2.2.1 rfl rfl) u _ (fol23 hu) (e_LP (fol2m hu))) hq)
        · refine Rd.of1 (by rw [hcl]; rfl) fun u q hu hq => ?_
          rw [e, List.append_assoc]
          exact opS ha (fun hc => (cl5b hc).1) _ q (fol_cons (by decide)) (r_LS (by decide) (opP hb (fun hc => (cl5b hc).2.2.1 rfl rfl) u _ (fol23 hu) (e_LP (fol2m hu))) hq)
        · refine Rd.of2 (by rw [hcl]; rfl) fun u q hu hq => ?_
          rw [e, List.append_assoc]
          exact opP ha (fun hc => (cl5b hc).2.1 rfl) _ q (fol_cons (by decide)) (r_LP (by decide) (opA hb (fun hc => (cl5b hc).2.2.2 rfl rfl) u hu) hq)
        · refine Rd.of2 (by rw [hcl]; rfl) fun u q hu hq => ?_
          rw [e, List.append_assoc]
          exact opP ha (fun hc => (cl5b hc).2.1 rfl) _ q (fol_cons (by decide)) (r_LP (by decide) (opA hb (fun hc => (cl5b hc).2.2.2 rfl rfl) u hu) hq)
        · refine Rd.of2 (by rw [hcl]; rfl) fun u q hu hq => ?_
          rw [e, List.append_assoc]
          exact opP ha (fun hc => (cl5b hc).2.1 rfl) _ q (fol_cons (by decide)) (r_LP (by decide) (opA hb (fun hc => (cl5b hc).2.2.2 rfl rfl) u hu) hq)
    by_cases e6 : k = 6
    · subst e6
      simp at hs
      obtain ⟨⟨rfl, rfl⟩, hl⟩ := hs
      obtain ⟨a, b, rfl⟩ := two_of hl
      have ha := IH a (by simp)
      have hb := IH b (by simp)
      have e : Tm.text (.mk 6 0 [] [a, b]) = opdT 6 [] 2 a a.text false ++ (46 :: 46 :: opdT 6 [] 2 b b.text true) := by simp [Tm.text, Tm.texts]
      have hcl : cls (.mk 6 0 [] [a, b]) = 0 := rfl
      refine ⟨fun h => (by rw [hcl] at h; cases h), fun h => (by rw [hcl] at h; omega), fun h => (by rw [hcl] at h; omega), fun u hu => ?_⟩
      rw [e, List.append_assoc]
      exact r_Rr (opS ha (fun hc => cls_ge1 (cl6 hc)) _ _ (fol_cons (by decide)) (e_LS fun c hc => by cases hc; decide)) (opS hb (fun hc => cls_ge1 (cl6 hc)) u _ (fol12 (fol01 hu)) (e_LS (fol1a (fol01 hu))))
    · exfalso
      have c1 : ¬ (k : Int) = 1 := by omega
      have c2 : ¬ (k : Int) = 2 := by omega
      have c3 : ¬ (k : Int) = 3 := by omega
      have c4 : ¬ (k : Int) = 4 := by omega
      have c5 : ¬ (k : Int) = 5 := by omega
      have c6 : ¬ (k : Int) = 6 := by omega
      simp [c1, c2, c3, c4, c5, c6] at hs
termination_by t => SizeOf.sizeOf t
decreasing_by
  have := List.sizeOf_lt_of_mem hy
  simp only [Tm.mk.sizeOf_spec]
  omega
/-- Texts tell terms apart. -/
theorem text_inj {a b : Tm} (ha : a.all Tm.shape = true) (hb : b.all Tm.shape = true) (h : a.text = b.text) : a = b := by
  have h1 := (rd a ha).r [] (fol_nil _)
  have h2 := (rd b hb).r [] (fol_nil _)
  rw [h] at h1
  have := h1.det h2
  simpa using this
theorem text_ne {a : Tm} (ha : a.all Tm.shape = true) : a.text ≠ [] := by
  intro e
  have h1 := (rd a ha).r [] (fol_nil _)
  rw [e] at h1
  obtain ⟨n, h1⟩ := h1
  have key : ∀ n m, (∀ x, m ≠ .LS x) → (∀ x, m ≠ .LP x) → p n m [] = none := by
    intro n
    induction n with
    | zero => intro m _ _; rfl
    | succ n ih =>
      intro m h1 h2
      cases m with
      | R => simp only [p, step]; rw [ih _ (by simp) (by simp)]; rfl
      | S => simp only [p, step]; rw [ih _ (by simp) (by simp)]; rfl
      | P => simp only [p, step]; rw [ih _ (by simp) (by simp)]; rfl
      | A => simp only [p, step]
      | L => simp only [p, step]; rw [ih _ (by simp) (by simp)]; rfl
      | LS x => exact absurd rfl (h1 x)
      | LP x => exact absurd rfl (h2 x)
  rw [List.append_nil, key n .R (by simp) (by simp)] at h1
  cases h1
end Go.Sx.Pa
