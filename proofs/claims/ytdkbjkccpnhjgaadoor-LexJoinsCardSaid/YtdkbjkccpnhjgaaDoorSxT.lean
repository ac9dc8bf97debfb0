/- Own work: a layer over the kit: plain data, a walk over it, its soundness. -/
import Derived.Test.YtdkbjkccpnhjgaaDoorSxZ
set_option linter.unusedSectionVars false
set_option linter.unusedVariables false
set_option linter.unusedSimpArgs false
set_option linter.deprecated false
namespace Go.Sx
open Go.RowKit
variable [Globs] [Codes]

/- THE WALK OVER DATA THAT IS NOT KNOWN: a script of answers; what they owe is gathered. -/

/-- Answers: a value (a truth, a call's result), the cells of an element, what a loop leaves, what a call with objects leaves. -/
inductive An where
  | d (d : D)
  | c (cs : List D)
  | s (e : Exit) (s : St)
  | k (r : D) (ob : Obs)

/-- What is owed. -/
def AllP : List Prop → Prop
  | [] => True
  | p :: r => p ∧ AllP r

theorem AllP_append {a b : List Prop} (h : AllP (a ++ b)) : AllP a ∧ AllP b := by
  induction a with
  | nil => exact ⟨trivial, h⟩
  | cons p a ih => exact ⟨⟨h.1, (ih h.2).1⟩, (ih h.2).2⟩

def iaS (sz : Nat) (es : List (List D)) (n : Int) (r : List An) : Option (List Prop × (D × Option Ob) × List An) := match r with
  | .c cs :: r => if cs.length = sz then some ([0 ≤ n, es[n.toNat]? = some cs], (.fptr cs, none), r) else none
  | _ => none

def evS (P : Program) (dst : Nat) (o : AOp) (xs : List D) (obs : Nat → Option Ob) (r : List An) : Option (List Prop × (D × Option Ob) × List An) :=
  match o, xs with
  | .pick, [c, a, b] => match r with
    | .d (.bool true) :: r => some ([c = .bool true], (a, none), r)
    | .d (.bool false) :: r => some ([c = .bool false], (b, none), r)
    | _ => none
  | .bin .add, [.str a, .str b] => some ([a.length + b.length ≤ 4611686018427387904], (.str (a ++ b), none), r)
  | .iaddr sz, [.slice es _, .int _ n] => iaS sz es n r
  | .iaddr sz, [.vec id, .int _ n] => match obs id with
    | some (.arr true _ _ es) => iaS sz es n r
    | _ => none
  | .index, [.str s, .int _ n] => some ([0 ≤ n, n < s.length], (.int .u8 (s.getD n.toNat 0).toNat, none), r)
  | .sliceS lo hi, .str s :: bs => match bounds lo hi s.length bs with
    | some (a, b) => some ([0 ≤ a, a ≤ b, b ≤ s.length], (.str ((s.take b.toNat).drop a.toNat), none), r)
    | none => none
  | .slice sz lo hi, d :: bs => match sliceOf obs d with
    | some (es, ext) => match bounds lo hi es.length bs with
      | some (a, b) => some ([((es ++ ext).all fun q => q.length == sz) = true, 0 ≤ a, a ≤ b, b ≤ (es ++ ext).length], (.slice (((es ++ ext).take b.toNat).drop a.toNat) ((es ++ ext).drop b.toNat), none), r)
      | none => none
    | none => none
  | .call f, ds => match r with
    | .d res :: r => some ([FnOK P f (ds.map (dv obs)) res], callR dst res, r)
    | _ => none
  | o, xs => match evE (fun _ _ => none) dst o xs obs with
    | some x => some ([], x, r)
    | none => none

section
variable {P : Program} {dst : Nat} {obs : Nat → Option Ob} {K : D → Option Ob → Prop}

theorem iaS_sound {sz : Nat} {es : List (List D)} {n : Int} {r r' : List An} {C : List Prop} {d : D} {nb : Option Ob} (h : iaS sz es n r = some (C, (d, nb), r')) (hC : AllP C) (hk : K d nb) :
    0 ≤ n ∧ n < es.length ∧ (es.getD n.toNat []).length = sz ∧ K (.fptr (es.getD n.toNat [])) none := by
  unfold iaS at h
  split at h
  · split at h
    · rename_i cs r0 hl
      simp only [Option.some.injEq, Prod.mk.injEq] at h
      obtain ⟨rfl, ⟨rfl, rfl⟩, rfl⟩ := h
      obtain ⟨h1, h2, _⟩ := hC
      have h3 : n.toNat < es.length := by
        rcases Nat.lt_or_ge n.toNat es.length with h | h
        · exact h
        · rw [List.getElem?_eq_none h] at h2; cases h2
      have h4 : es.getD n.toNat [] = cs := by simp [h2]
      rw [h4]
      exact ⟨h1, by omega, hl, hk⟩
    · cases h
  · cases h

theorem evS_sound {op : AOp} {xs : List D} {r r' : List An} {C : List Prop} {d : D} {nb : Option Ob} (h : evS P dst op xs obs r = some (C, (d, nb), r')) (hC : AllP C) (hk : K d nb) : evl P dst op xs obs K := by
  unfold evS at h
  split at h
  · split at h
    · simp only [Option.some.injEq, Prod.mk.injEq] at h; obtain ⟨rfl, ⟨rfl, rfl⟩, rfl⟩ := h; rw [hC.1]; exact hk
    · simp only [Option.some.injEq, Prod.mk.injEq] at h; obtain ⟨rfl, ⟨rfl, rfl⟩, rfl⟩ := h; rw [hC.1]; exact hk
    · cases h
  · simp only [Option.some.injEq, Prod.mk.injEq] at h; obtain ⟨rfl, ⟨rfl, rfl⟩, rfl⟩ := h; exact ⟨hC.1, hk⟩
  · exact iaS_sound h hC hk
  · split at h
    · rename_i hl
      simp only [evl, hl]
      exact iaS_sound h hC hk
    · cases h
  · simp only [Option.some.injEq, Prod.mk.injEq] at h; obtain ⟨rfl, ⟨rfl, rfl⟩, rfl⟩ := h; exact ⟨hC.1, hC.2.1, hk⟩
  · split at h
    · rename_i hb
      simp only [Option.some.injEq, Prod.mk.injEq] at h; obtain ⟨rfl, ⟨rfl, rfl⟩, rfl⟩ := h
      simp only [evl, hb]
      exact ⟨hC.1, hC.2.1, hC.2.2.1, hk⟩
    · cases h
  · split at h
    · rename_i hs
      split at h
      · rename_i hb
        simp only [Option.some.injEq, Prod.mk.injEq] at h; obtain ⟨rfl, ⟨rfl, rfl⟩, rfl⟩ := h
        simp only [evl, hs, hb]
        exact ⟨by have := hC.1; simp only [List.all_eq_true, beq_iff_eq] at this; exact this, hC.2.1, hC.2.2.1, hC.2.2.2.1, hk⟩
      · cases h
    · cases h
  · split at h
    · rename_i res r0
      simp only [Option.some.injEq, Prod.mk.injEq] at h
      obtain ⟨rfl, h2, rfl⟩ := h
      refine ⟨res, hC.1, ?_⟩
      cases res <;> (simp only [callR, Prod.mk.injEq] at h2; obtain ⟨rfl, rfl⟩ := h2; exact hk)
    · cases h
  · split at h
    · rename_i x hx
      simp only [Option.some.injEq, Prod.mk.injEq] at h
      obtain ⟨rfl, rfl, rfl⟩ := h
      exact evE_sound (fun _ _ _ h => by cases h) hx hk
    · cases h
end

/-- The guard, by its answer. -/
def gudS {α : Type} (g : Option (Nat × Bool)) (s : St) (r : List An) (body skip : List An → Option (List Prop × α × List An)) : Option (List Prop × α × List An) :=
  match g with
  | none => body r
  | some (t, want) => match lk s.tm t with
    | some (.bool b) => match r with
      | .d (.bool q) :: r => match (if q = want then body r else skip r) with
        | some (C, x, r) => some ((b = q) :: C, x, r)
        | none => none
      | _ => none
    | some (.tuple []) => skip r
    | _ => none

theorem gudS_sound {α : Type} {g : Option (Nat × Bool)} {s : St} {r r' : List An} {body skip : List An → Option (List Prop × α × List An)} {C : List Prop} {x : α} (h : gudS g s r body skip = some (C, x, r')) (hC : AllP C) {p q : Prop}
    (hp : ∀ r C', body r = some (C', x, r') → AllP C' → p) (hq : ∀ r C', skip r = some (C', x, r') → AllP C' → q) : gud g s p q := by
  cases g with
  | none => exact hp _ _ h hC
  | some gw =>
    obtain ⟨t, w⟩ := gw
    simp only [gudS] at h
    simp only [gud]
    split at h
    · rename_i b0 heq
      rw [heq]
      simp only
      split at h
      · rename_i qq r0
        split at h
        · rename_i C' x' r1 hif
          simp only [Option.some.injEq, Prod.mk.injEq] at h
          obtain ⟨rfl, rfl, rfl⟩ := h
          obtain ⟨rfl, hC'⟩ := hC
          split at hif
          · rename_i hb; rw [if_pos hb]; exact hp _ _ hif hC'
          · rename_i hb; rw [if_neg hb]; exact hq _ _ hif hC'
        · cases h
      · cases h
    · rename_i heq; rw [heq]; exact hq _ _ h hC
    · cases h

/-- An operation: what it owes, the state behind it. -/
def opS (P : Program) (b : Nat) (o : SOp) (s : St) (r : List An) : Option (List Prop × St × List An) :=
  match o with
  | .a dst g op xs => gudS g s r (fun r => match evS P (b + dst.getD 0) op (xs.map s.get) (lk s.ob) r with
      | some (C, (d, none), r) => some (C, s.put dst d, r)
      | some (C, (d, some ob), r) => match dst with
        | some t => if s.clean (b + t) = true then some (C, s.put2 t (b + t) d ob, r) else none
        | none => none
      | none => none) (fun r => some ([], s.put dst .nov, r))
  | .st g sz x y => gudS g s r (fun r => match s.get x with
      | .ptr id off => match lk s.ob id with
        | some (.cells cs) => if D.flat (s.get y) = true ∧ (s.get y).cells.length = sz ∧ off + sz ≤ cs.length then some ([], { s with ob := (id, .cells (setAt cs off (s.get y).cells)) :: eraseId id s.ob }, r) else none
        | _ => none
      | _ => none) (fun r => some ([], s, r))
  | .app dst g fz sz et x y => gudS g s r (fun r => match sliceOf (lk s.ob) (s.get y) with
      | some (ys, _) => (match s.get x with
        | .nils => if s.clean (b + dst) = true then some ([(ys.all fun q => q.length == sz) = true, ys.length ≤ 1073741824], s.put2 dst (b + dst) (.vec (b + dst)) (.arr fz sz et ys), r) else none
        | .vec id => match lk s.ob id with
          | some (.arr fz' sz' e' es) => if sz' = sz ∧ e' = et ∧ s.clean (b + dst) = true then some ([(ys.all fun q => q.length == sz) = true, es.length + ys.length ≤ 1073741824], St.put2 ⟨s.tm, eraseId id s.ob⟩ dst (b + dst) (.vec (b + dst)) (.arr fz' sz et (es ++ ys)), r) else none
          | _ => none
        | _ => none)
      | none => none) (fun r => some ([], s.put (some dst) .nov, r))
  | .cd dst g x xs => gudS g s r
      (fun r => match r with
        | .k res ob' :: r =>
          let as := xs.map fun x => dva (lk s.ob) (s.get x)
          let nm := handN s (s.get x :: as)
          if nodupB nm = true then some ([CallL P ((s.get x).ren (idx · nm)) (as.map (D.ren (idx · nm))) (handO s.ob (idx · nm) 0 nm) (fun r0 ob0 => r0 = res ∧ ob0 = ob')],
            (s.back (s.base b) nm ob').put dst (res.ren (bkN (s.base b) nm)), r) else none
        | _ => none)
      (fun r => some ([], s.put dst .nov, r))

theorem opS_sound {P : Program} {b : Nat} {o : SOp} {s s' : St} {r r' : List An} {C : List Prop} {K : St → Prop}
    (h : opS P b o s r = some (C, s', r')) (hC : AllP C) (hk : K s') : stp P b o s K := by
  cases o with
  | a dst g op xs =>
    simp only [opS] at h
    refine gudS_sound h hC (fun r0 C0 hb hC0 => ?_) (fun r0 C0 hs _ => by cases hs; exact hk)
    split at hb
    · rename_i d r1 hev
      simp only [Option.some.injEq, Prod.mk.injEq] at hb; obtain ⟨rfl, rfl, rfl⟩ := hb
      exact evS_sound hev hC0 hk
    · rename_i d ob r1 hev
      split at hb
      · split at hb
        · rename_i hcl'
          simp only [Option.some.injEq, Prod.mk.injEq] at hb; obtain ⟨rfl, rfl, rfl⟩ := hb
          exact evS_sound hev hC0 ⟨hcl', hk⟩
        · cases hb
      · cases hb
    · cases hb
  | st g sz x y =>
    simp only [opS] at h
    refine gudS_sound h hC (fun r0 C0 hb hC0 => ?_) (fun r0 C0 hs _ => by cases hs; exact hk)
    split at hb
    · rename_i id off hx
      split at hb
      · rename_i cs hl
        split at hb
        · rename_i hc
          simp only [Option.some.injEq, Prod.mk.injEq] at hb; obtain ⟨rfl, rfl, rfl⟩ := hb
          simp only [hx, hl]
          exact ⟨hc.1, hc.2.1, hc.2.2, hk⟩
        · cases hb
      · cases hb
    · cases hb
  | app dst g fz sz et x y =>
    simp only [opS] at h
    refine gudS_sound h hC (fun r0 C0 hb hC0 => ?_) (fun r0 C0 hs _ => by cases hs; exact hk)
    split at hb
    · rename_i ys ext hso
      simp only [hso]
      split at hb
      · rename_i hx
        split at hb
        · rename_i hc
          simp only [Option.some.injEq, Prod.mk.injEq] at hb; obtain ⟨rfl, rfl, rfl⟩ := hb
          simp only [hx]
          exact ⟨by simpa using hC0.1, hC0.2.1, hc, hk⟩
        · cases hb
      · rename_i id hx
        split at hb
        · rename_i fz' sz' e' es hl
          split at hb
          · rename_i hc
            simp only [Option.some.injEq, Prod.mk.injEq] at hb; obtain ⟨rfl, rfl, rfl⟩ := hb
            simp only [hx, hl]
            exact ⟨by simpa using hC0.1, hc.1, hc.2.1, hC0.2.1, hc.2.2, hk⟩
          · cases hb
        · cases hb
      · cases hb
    · cases hb
  | cd dst g x xs =>
    simp only [opS] at h
    refine gudS_sound h hC (fun r0 C0 hb hC0 => ?_) (fun r0 C0 hs _ => by cases hs; exact hk)
    split at hb
    · rename_i res ob' r1
      split at hb
      · rename_i hnd
        simp only [Option.some.injEq, Prod.mk.injEq] at hb; obtain ⟨rfl, rfl, rfl⟩ := hb
        exact ⟨_, _, _, nodupB_sound hnd, handN_some, Nat.le_max_left _ _, Nat.le_max_right _ _, hC0.1, by rintro r0 ob0 ⟨rfl, rfl⟩; exact hk⟩
      · cases hb
    · cases hb

/-- The effect of an operation. -/
def hasS (P : Program) (b : Nat) (o : SOp) (s : St) (r : List An) : Option (List Prop × Eff × List An) :=
  match o with
  | .a dst g op xs => gudS g s r (fun r => match evS P (b + dst.getD 0) op (xs.map s.get) (lk s.ob) r with
      | some (C, (d, none), r) => some (C, ⟨rdA (lk s.ob) op (xs.map s.get), dst.map (·, d), [], none⟩, r)
      | some (C, (d, some ob), r) => if dst.isSome then some (C, ⟨rdA (lk s.ob) op (xs.map s.get), dst.map (·, d), [(b + dst.getD 0, some ob)], none⟩, r) else none
      | none => none) (fun r => some ([], ⟨[], dst.map (·, .nov), [], none⟩, r))
  | .st g sz x y => gudS g s r (fun r => match s.get x with
      | .ptr id off => match lk s.ob id with
        | some (.cells cs) => if D.flat (s.get y) = true ∧ (s.get y).cells.length = sz ∧ off + sz ≤ cs.length then some ([], ⟨[id], none, [(id, some (.cells (setAt cs off (s.get y).cells)))], none⟩, r) else none
        | _ => none
      | _ => none) (fun r => some ([], ⟨[], none, [], none⟩, r))
  | .app dst g fz sz et x y => gudS g s r (fun r => match sliceOf (lk s.ob) (s.get y) with
      | some (ys, _) => (match s.get x with
        | .nils => some ([(ys.all fun q => q.length == sz) = true, ys.length ≤ 1073741824], ⟨vids [s.get y], some (dst, .vec (b + dst)), [(b + dst, some (.arr fz sz et ys))], none⟩, r)
        | .vec id => match lk s.ob id with
          | some (.arr fz' sz' e' es) => if sz' = sz ∧ e' = et then some ([(ys.all fun q => q.length == sz) = true, es.length + ys.length ≤ 1073741824], ⟨id :: vids [s.get y], some (dst, .vec (b + dst)), [(b + dst, some (.arr fz' sz et (es ++ ys))), (id, none)], none⟩, r) else none
          | _ => none
        | _ => none)
      | none => none) (fun r => some ([], ⟨[], some (dst, .nov), [], none⟩, r))
  | .cd .. => none

theorem hasS_sound {P : Program} {b : Nat} {o : SOp} {s : St} {r r' : List An} {C : List Prop} {e : Eff} (h : hasS P b o s r = some (C, e, r')) (hC : AllP C) : Has P b o s e := by
  cases o with
  | a dst g op xs =>
    simp only [hasS] at h
    refine gudS_sound h hC (fun r0 C0 hb hC0 => ?_) (fun r0 C0 hs _ => by cases hs; rfl)
    split at hb
    · rename_i d r1 hev
      simp only [Option.some.injEq, Prod.mk.injEq] at hb; obtain ⟨rfl, rfl, rfl⟩ := hb
      exact ⟨rfl, rfl, evS_sound hev hC0 ⟨rfl, rfl⟩⟩
    · rename_i d ob r1 hev
      split at hb
      · rename_i hds
        simp only [Option.some.injEq, Prod.mk.injEq] at hb; obtain ⟨rfl, rfl, rfl⟩ := hb
        exact ⟨rfl, rfl, evS_sound hev hC0 ⟨rfl, hds, rfl⟩⟩
      · cases hb
    · cases hb
  | st g sz x y =>
    simp only [hasS] at h
    refine gudS_sound h hC (fun r0 C0 hb hC0 => ?_) (fun r0 C0 hs _ => by cases hs; rfl)
    simp only [HasB]
    split at hb
    · rename_i id off hx
      split at hb
      · rename_i cs hl
        split at hb
        · rename_i hc
          simp only [Option.some.injEq, Prod.mk.injEq] at hb; obtain ⟨rfl, rfl, rfl⟩ := hb
          simp only [hx, hl]
          exact ⟨hc.1, hc.2.1, hc.2.2, trivial⟩
        · cases hb
      · cases hb
    · cases hb
  | app dst g fz sz et x y =>
    simp only [hasS] at h
    refine gudS_sound h hC (fun r0 C0 hb hC0 => ?_) (fun r0 C0 hs _ => by cases hs; rfl)
    simp only [HasB]
    split at hb
    · rename_i ys ext hso
      simp only [hso]
      split at hb
      · rename_i hx
        simp only [Option.some.injEq, Prod.mk.injEq] at hb; obtain ⟨rfl, rfl, rfl⟩ := hb
        simp only [hx]
        exact ⟨by simpa using hC0.1, hC0.2.1, trivial⟩
      · rename_i id hx
        split at hb
        · rename_i fz' sz' e' es hl
          split at hb
          · rename_i hc
            simp only [Option.some.injEq, Prod.mk.injEq] at hb; obtain ⟨rfl, rfl, rfl⟩ := hb
            simp only [hx, hl]
            exact ⟨by simpa using hC0.1, hc.1, hc.2, hC0.2.1, trivial⟩
          · cases hb
        · cases hb
      · cases hb
    · cases hb
  | cd dst g x xs => simp only [hasS] at h; cases h

def opsS (P : Program) (b : Nat) : List SOp → St → List An → Option (List Prop × St × List An)
  | [], s, r => some ([], s, r)
  | o :: l, s, r => match opS P b o s r with
    | some (C, s, r) => match opsS P b l s r with
      | some (C', s, r) => some (C ++ C', s, r)
      | none => none
    | none => none

theorem opsS_sound {P : Program} {b : Nat} : ∀ {ops : List SOp} {s s' : St} {r r' : List An} {C : List Prop} {K : St → Prop}, opsS P b ops s r = some (C, s', r') → AllP C → K s' → stps P b ops s K
  | [], s, s', r, r', C, K, h, hC, hk => by simp only [opsS, Option.some.injEq, Prod.mk.injEq] at h; obtain ⟨rfl, rfl, rfl⟩ := h; exact hk
  | o :: l, s, s', r, r', C, K, h, hC, hk => by
    simp only [opsS] at h
    split at h
    · rename_i C1 s1 r1 h1
      split at h
      · rename_i C2 s2 r2 h2
        simp only [Option.some.injEq, Prod.mk.injEq] at h
        obtain ⟨rfl, rfl, rfl⟩ := h
        exact opS_sound h1 (AllP_append hC).1 (opsS_sound h2 (AllP_append hC).2 hk)
      · cases h
    · cases h

def caS (P : Program) (b : Nat) : List SOp → St → List An → Option (List Prop × (List Eff × St) × List An)
  | [], s, r => some ([], ([], s), r)
  | o :: l, s, r => match hasS P b o s r with
    | some (C, e, r) => match caS P b l (s.app e) r with
      | some (C', (es, s), r) => some (C ++ C', (e :: es, s), r)
      | none => none
    | none => none

theorem caS_sound {P : Program} {b : Nat} : ∀ {ops : List SOp} {s s' : St} {es : List Eff} {r r' : List An} {C : List Prop}, caS P b ops s r = some (C, (es, s'), r') → AllP C → Canon P b ops s es s'
  | [], s, s', es, r, r', C, h, hC => by simp only [caS, Option.some.injEq, Prod.mk.injEq] at h; obtain ⟨rfl, ⟨rfl, rfl⟩, rfl⟩ := h; rfl
  | o :: l, s, s', es, r, r', C, h, hC => by
    simp only [caS] at h
    split at h
    · rename_i C1 e r1 he
      split at h
      · rename_i C2 es' s'' r2 hc
        simp only [Option.some.injEq, Prod.mk.injEq] at h
        obtain ⟨rfl, ⟨rfl, rfl⟩, rfl⟩ := h
        exact ⟨hasS_sound he (AllP_append hC).1, caS_sound hc (AllP_append hC).2⟩
      · cases h
    · cases h

/-- A text walked: what it owes, how it ends, the state behind it. -/
def runS (P : Program) (bs : Nat) : SC → St → List An → Option (List Prop × (Exit × St) × List An)
  | .skip, s, r => some ([], (.normal, s), r)
  | .ret, s, r => some ([], (.ret, s), r)
  | .exit id, s, r => some ([], (.exit id, s), r)
  | .reg ops, s, r => match opsS P (s.nx bs) ops s r with
    | some (C, s, r) => some (C, (.normal, s), r)
    | none => none
  | .drw pre ops, s, r => match caS P (s.nx bs) ops s r with
    | some (C, (es, s'), r) => if dchk (s.nx bs) pre ops es s = true then some (C, (.normal, s'), r) else none
    | none => none
  | .seq a b, s, r => match runS P bs a s r with
    | some (C, (.normal, s), r) => match runS P bs b s r with
      | some (C', x, r) => some (C ++ C', x, r)
      | none => none
    | some (C, (e, s), r) => some (C, (e, s), r)
    | none => none
  | .cond x a b, s, r => match r with
    | .d (.bool true) :: r => match runS P bs a s r with
      | some (C, y, r) => some ((s.get x = .bool true) :: C, y, r)
      | none => none
    | .d (.bool false) :: r => match runS P bs b s r with
      | some (C, y, r) => some ((s.get x = .bool false) :: C, y, r)
      | none => none
    | _ => none
  | .block id c, s, r => match runS P bs c s r with
    | some (C, (.exit i, s), r) => if i = id then some (C, (.normal, s), r) else some (C, (.exit i, s), r)
    | x => x
  | .loop ts c, s, r => match r with
    | .s e s1 :: r => some ([sw P bs (.loop ts c) (fun e' s' => e' = e ∧ s' = s1) s], (e, s1), r)
    | _ => none
  | .rangeF N g ps a b, s, r => match r with
    | .s e s1 :: r => some ([sw P bs (.rangeF N g ps a b) (fun e' s' => e' = e ∧ s' = s1) s], (e, s1), r)
    | _ => none

theorem runS_sound {P : Program} {bs : Nat} : ∀ {c : SC} {s s' : St} {e : Exit} {r r' : List An} {C : List Prop} {Q : Exit → St → Prop}, runS P bs c s r = some (C, (e, s'), r') → AllP C → Q e s' → sw P bs c Q s := by
  intro c
  induction c with
  | skip => intro s s' e r r' C Q h hC hQ; simp only [runS, Option.some.injEq, Prod.mk.injEq] at h; obtain ⟨rfl, ⟨rfl, rfl⟩, rfl⟩ := h; exact hQ
  | ret => intro s s' e r r' C Q h hC hQ; simp only [runS, Option.some.injEq, Prod.mk.injEq] at h; obtain ⟨rfl, ⟨rfl, rfl⟩, rfl⟩ := h; exact hQ
  | exit id => intro s s' e r r' C Q h hC hQ; simp only [runS, Option.some.injEq, Prod.mk.injEq] at h; obtain ⟨rfl, ⟨rfl, rfl⟩, rfl⟩ := h; exact hQ
  | reg ops =>
    intro s s' e r r' C Q h hC hQ
    simp only [runS] at h
    split at h
    · rename_i C1 s1 r1 h1
      simp only [Option.some.injEq, Prod.mk.injEq] at h; obtain ⟨rfl, ⟨rfl, rfl⟩, rfl⟩ := h
      exact opsS_sound h1 hC hQ
    · cases h
  | drw pre ops =>
    intro s s' e r r' C Q h hC hQ
    simp only [runS] at h
    split at h
    · rename_i C1 es s1 r1 h1
      split at h
      · rename_i hd
        simp only [Option.some.injEq, Prod.mk.injEq] at h; obtain ⟨rfl, ⟨rfl, rfl⟩, rfl⟩ := h
        exact ⟨es, _, caS_sound h1 hC, hd, hQ⟩
      · cases h
    · cases h
  | seq a b iha ihb =>
    intro s s' e r r' C Q h hC hQ
    simp only [runS] at h
    split at h
    · rename_i C1 s1 r1 h1
      split at h
      · rename_i C2 x r2 h2
        obtain ⟨x1, x2⟩ := x
        simp only [Option.some.injEq, Prod.mk.injEq] at h; obtain ⟨rfl, ⟨rfl, rfl⟩, rfl⟩ := h
        exact iha h1 (AllP_append hC).1 (ihb h2 (AllP_append hC).2 hQ)
      · cases h
    · rename_i C1 e1 s1 r1 hne h1
      simp only [Option.some.injEq, Prod.mk.injEq] at h; obtain ⟨rfl, ⟨rfl, rfl⟩, rfl⟩ := h
      refine iha h1 hC ?_
      cases e1 <;> first | exact hQ | exact (hne rfl).elim | exact absurd rfl (hne _ _ _) | (exfalso; apply hne; rfl)
    · cases h
  | cond x a b iha ihb =>
    intro s s' e r r' C Q h hC hQ
    simp only [runS] at h
    split at h
    · split at h
      · rename_i C1 y r1 h1
        obtain ⟨x1, x2⟩ := y
        simp only [Option.some.injEq, Prod.mk.injEq] at h; obtain ⟨rfl, ⟨rfl, rfl⟩, rfl⟩ := h
        simp only [sw, hC.1]
        exact iha h1 hC.2 hQ
      · cases h
    · split at h
      · rename_i C1 y r1 h1
        obtain ⟨x1, x2⟩ := y
        simp only [Option.some.injEq, Prod.mk.injEq] at h; obtain ⟨rfl, ⟨rfl, rfl⟩, rfl⟩ := h
        simp only [sw, hC.1]
        exact ihb h1 hC.2 hQ
      · cases h
    · cases h
  | block id c ih =>
    intro s s' e r r' C Q h hC hQ
    simp only [runS] at h
    simp only [sw]
    split at h
    · rename_i C1 i s1 r1 h1
      split at h
      · rename_i hi
        simp only [Option.some.injEq, Prod.mk.injEq] at h; obtain ⟨rfl, ⟨rfl, rfl⟩, rfl⟩ := h
        refine ih h1 hC ?_
        simp only [inBlockS, hi, if_true]; exact hQ
      · rename_i hi
        simp only [Option.some.injEq, Prod.mk.injEq] at h; obtain ⟨rfl, ⟨rfl, rfl⟩, rfl⟩ := h
        refine ih h1 hC ?_
        simp only [inBlockS, if_neg hi]; exact hQ
    · rename_i x hx
      refine ih h hC ?_
      cases e with
      | exit i => exact absurd h (hx _ _ _ _)
      | _ => exact hQ
  | loop ts c ih =>
    intro s s' e r r' C Q h hC hQ
    simp only [runS] at h
    split at h
    · simp only [Option.some.injEq, Prod.mk.injEq] at h; obtain ⟨rfl, ⟨rfl, rfl⟩, rfl⟩ := h
      exact sw_mono hC.1 fun e s he => by obtain ⟨rfl, rfl⟩ := he; exact hQ
    · cases h
  | rangeF N g ps a b iha ihb =>
    intro s s' e r r' C Q h hC hQ
    simp only [runS] at h
    split at h
    · simp only [Option.some.injEq, Prod.mk.injEq] at h; obtain ⟨rfl, ⟨rfl, rfl⟩, rfl⟩ := h
      exact sw_mono hC.1 fun e s he => by obtain ⟨rfl, rfl⟩ := he; exact hQ
    · cases h

end Go.Sx
