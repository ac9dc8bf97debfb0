/- Own work: a layer over the kit: plain data, a walk over it, its soundness. -/
import Derived.Lib.Join
import Derived.Lib.Fields
import Derived.Lib.Atoi
import Derived.Lib.ConvBytes
import Derived.Lib.AtoiErrMem
import Derived.Lib.Bytealg
import Derived.Lib.ItoaNum
import Derived.Lib.LaidTab
import Derived.Shelf.Strconv.Itoa3
import Derived.Sort.Grow
import Derived.Test.YtbcgpkgdbepfbaaGreatDoorSx4
set_option linter.unusedSectionVars false
set_option linter.unusedVariables false
set_option linter.unusedSimpArgs false
set_option linter.deprecated false
namespace Go.Sx
open Go.RowKit
variable [Globs] [Codes]

theorem mapM_get {α β : Type} {f : α → Option β} : ∀ {l : List α} {l' : List β}, l.mapM f = some l' → ∀ (k : Nat) (a : α), l[k]? = some a → ∃ b, f a = some b ∧ l'[k]? = some b
  | [], _, _, k, a, hk => by simp at hk
  | x :: l, l', h, k, a, hk => by
    simp only [List.mapM_cons, Option.bind_eq_bind, Option.bind_eq_some_iff, Option.pure_def, Option.some.injEq] at h
    obtain ⟨b, h1, r, h2, rfl⟩ := h
    cases k with
    | zero => simp at hk; subst hk; exact ⟨b, h1, rfl⟩
    | succ k => obtain ⟨b', q1, q2⟩ := mapM_get h2 k a (by simpa using hk); exact ⟨b', q1, by simpa using q2⟩

theorem mapM_len {α β : Type} {f : α → Option β} : ∀ {l : List α} {l' : List β}, l.mapM f = some l' → l'.length = l.length
  | [], _, h => by simp at h; subst h; rfl
  | x :: l, l', h => by
    simp only [List.mapM_cons, Option.bind_eq_bind, Option.bind_eq_some_iff, Option.pure_def, Option.some.injEq] at h
    obtain ⟨b, h1, r, h2, rfl⟩ := h
    simp [mapM_len h2]

def un (ops : Array Oper) (listed : Array Bool) : List Nat := (List.range ops.size).filter fun i => !listed.getD i true

theorem un_set {ops : Array Oper} {listed : Array Bool} {i : Nat} (hs : listed.size = ops.size) (hi : i ∈ un ops listed) : (un ops (listed.setIfInBounds i true)).length < (un ops listed).length := by
  have e : un ops (listed.setIfInBounds i true) = (un ops listed).filter fun j => decide (j ≠ i) := by
    unfold un
    rw [List.filter_filter]
    refine List.filter_congr fun j hj => ?_
    have hj' : j < listed.size := by rw [hs]; exact List.mem_range.1 hj
    by_cases h : j = i
    · subst h; simp [hj']
    · simp [Array.getD_eq_getD_getElem?, Array.getElem?_setIfInBounds_ne (Ne.symm h), h]
  rw [e]
  exact List.length_filter_lt_length_iff_exists.2 ⟨i, hi, by simp⟩

theorem ready_un {ops : Array Oper} {listed : Array Bool} {i : Nat} (h : i ∈ Region.ready .any ops listed) : i ∈ un ops listed := by
  obtain ⟨h1, o, h2, _⟩ := mem_ready.1 h
  exact List.mem_filter.2 ⟨List.mem_range.2 (Array.getElem?_eq_some_iff.1 h2).1, by simpa using h1⟩

def Closed (ops : Array Oper) (listed : Array Bool) : Prop := ∀ i o, ops[i]? = some o → listed.getD i false = true → ∀ e ∈ o.after, Region.binds .any e = true → listed.getD e.on false = true

theorem reachM_mem {pre : List Nat} {i : Nat} : ∀ {l : List Edge} {m : Nat}, (reachM pre l m).testBit i = true → m.testBit i = true ∨ ∃ e ∈ l, Region.binds .any e = true ∧ (i = e.on ∨ befor pre i e.on = true)
  | [], m, h => .inl h
  | e :: r, m, h => by
    simp only [reachM] at h
    rcases reachM_mem h with h | ⟨e', he, h⟩
    · split at h
      · rename_i hb
        simp only [Nat.testBit_or, Bool.or_eq_true] at h
        rcases h with (h | h) | h
        · exact .inl h
        · refine .inr ⟨e, by simp, hb, .inl ?_⟩
          have := Nat.testBit_two_pow (n := e.on) (m := i)
          rw [this] at h
          exact (of_decide_eq_true h).symm
        · exact .inr ⟨e, by simp, hb, .inr h⟩
      · exact .inl h
    · exact .inr ⟨e', List.mem_cons_of_mem _ he, h⟩

def PreOK (pre : List Nat) (ops : Array Oper) : Prop := ∀ i j, befor pre i j = true → ∃ o, ops[j]? = some o ∧ ∃ e ∈ o.after, Region.binds .any e = true ∧ e.on < j ∧ (i = e.on ∨ befor pre i e.on = true)

theorem befor_listed {ops : Array Oper} {listed : Array Bool} {pre : List Nat} (hp : PreOK pre ops) (hcl : Closed ops listed) : ∀ (j i : Nat), (∀ o, ops[j]? = some o → ∀ e ∈ o.after, Region.binds .any e = true → listed.getD e.on false = true) → befor pre i j = true → listed.getD i false = true := by
  intro j
  induction j using Nat.strongRecOn with
  | _ j ih =>
    intro i hd hb
    obtain ⟨o, ho, e, he, hbi, hlt, h⟩ := hp i j hb
    have hl := hd o ho e he hbi
    rcases h with rfl | h
    · exact hl
    · exact ih e.on hlt i (fun o' ho' => hcl e.on o' ho' hl) h

theorem getD_set {listed : Array Bool} {i j : Nat} (hi : i < listed.size) : (listed.setIfInBounds i true).getD j false = true ↔ listed.getD j false = true ∨ j = i := by
  by_cases h : j = i
  · subst h; simp [hi]
  · simp [Array.getD_eq_getD_getElem?, Array.getElem?_setIfInBounds_ne (Ne.symm h), h]

theorem getD_tf {listed : Array Bool} {i : Nat} (hi : i < listed.size) : listed.getD i true = listed.getD i false := by simp [Array.getD, hi]

theorem Closed.set {ops : Array Oper} {listed : Array Bool} (hcl : Closed ops listed) {i : Nat} (hi : i < listed.size) (hr : ∀ o, ops[i]? = some o → ∀ e ∈ o.after, Region.binds .any e = true → listed.getD e.on false = true) : Closed ops (listed.setIfInBounds i true) := by
  intro j o ho hj e he hb
  rw [getD_set hi] at hj ⊢
  rcases hj with hj | rfl
  · exact .inl (hcl j o ho hj e he hb)
  · exact .inl (hr o ho e he hb)


section latest
variable {V : Type} {L L' : Nat → Prop} {wr : Nat → Option V} {v0 v v' : V}

/-- The last of the writers in L has written this. -/
def Latest (L : Nat → Prop) (wr : Nat → Option V) (v0 v : V) : Prop :=
  (∃ k x, L k ∧ wr k = some x ∧ v = x ∧ ∀ k', L k' → (wr k').isSome → k' ≤ k) ∨ ((∀ k, L k → wr k = none) ∧ v = v0)

theorem Latest.none (h : ∀ k, ¬ L k) : Latest L wr v0 v0 := .inr ⟨fun k hk => absurd hk (h k), rfl⟩

theorem Latest.skip {j : Nat} (h : Latest L wr v0 v) (hj : wr j = Option.none) : Latest (fun k => L k ∨ k = j) wr v0 v := by
  rcases h with ⟨k, x, h1, h2, h3, h4⟩ | ⟨h1, h2⟩
  · refine .inl ⟨k, x, .inl h1, h2, h3, fun k' hk' hw => ?_⟩
    rcases hk' with hk' | rfl
    · exact h4 k' hk' hw
    · rw [hj] at hw; cases hw
  · exact .inr ⟨fun k hk => hk.elim (h1 k) fun e => by rw [e]; exact hj, h2⟩

theorem Latest.put {j : Nat} {x : V} (hj : wr j = some x) (hl : ∀ k, L k → (wr k).isSome → k ≤ j) : Latest (fun k => L k ∨ k = j) wr v0 x :=
  .inl ⟨j, x, .inr rfl, hj, rfl, fun k' hk' hw => hk'.elim (fun h => hl k' h hw) fun e => by omega⟩

theorem Latest.uniq (h : Latest L wr v0 v) (h' : Latest L' wr v0 v') (he : ∀ k, (wr k).isSome → (L k ↔ L' k)) : v = v' := by
  rcases h with ⟨k, x, h1, h2, h3, h4⟩ | ⟨h1, h2⟩ <;> rcases h' with ⟨k', x', q1, q2, q3, q4⟩ | ⟨q1, q2⟩
  · have e1 : k ≤ k' := q4 k ((he k (by rw [h2]; rfl)).1 h1) (by rw [h2]; rfl)
    have e2 : k' ≤ k := h4 k' ((he k' (by rw [q2]; rfl)).2 q1) (by rw [q2]; rfl)
    have : k = k' := by omega
    subst this
    rw [h2] at q2
    rw [h3, q3]; exact Option.some.inj q2
  · have := q1 k ((he k (by rw [h2]; rfl)).1 h1)
    rw [h2] at this; cases this
  · have := h1 k' ((he k' (by rw [q2]; rfl)).2 q1)
    rw [q2] at this; cases this
  · rw [h2, q2]

theorem Latest.congr (h : Latest L wr v0 v) (he : ∀ k, L k ↔ L' k) : Latest L' wr v0 v := by
  rcases h with ⟨k, x, h1, h2, h3, h4⟩ | ⟨h1, h2⟩
  · exact .inl ⟨k, x, (he k).1 h1, h2, h3, fun k' hk' => h4 k' ((he k').2 hk')⟩
  · exact .inr ⟨fun k hk => h1 k ((he k).2 hk), h2⟩
end latest

def twr (e : Eff) (t : Nat) : Option (Option D) := match e.tm with
  | some (t', d) => if t = t' then some (some d) else none
  | none => none

theorem app_tm (s : St) (e : Eff) (t : Nat) : lk (s.app e).tm t = (twr e t).getD (lk s.tm t) := by
  simp only [St.app, twr]
  cases e.tm with
  | none => rfl
  | some p =>
    obtain ⟨t', d⟩ := p
    simp only [lk]
    split
    · rfl
    · rename_i hi; rw [look_erase, if_neg hi]; rfl

theorem app_ob (s : St) (e : Eff) (i : Nat) : lk (s.app e).ob i = (lk e.ob i).getD (lk s.ob i) := by
  simp only [St.app]
  rw [setO_lk]
  cases lk e.ob i <;> rfl

theorem all_erase {α : Type} {p : Nat × α → Bool} (id : Nat) : ∀ {l : List (Nat × α)}, l.all p = true → (eraseId id l).all p = true
  | [], _ => rfl
  | (j, x) :: r, h => by
    simp only [List.all_cons, Bool.and_eq_true] at h
    simp only [eraseId]
    split
    · exact all_erase id h.2
    · simp only [List.all_cons, Bool.and_eq_true]; exact ⟨h.1, all_erase id h.2⟩

theorem setO_all {i : Nat} : ∀ {l : List (Nat × Option Ob)} {ob : Obs}, (l.any fun p => match p.2 with | some o => Ob.men i o | none => false) = false → (ob.all fun p => !(Ob.men i p.2)) = true → ((setO l ob).all fun p => !(Ob.men i p.2)) = true
  | [], ob, _, h => h
  | (j, none) :: r, ob, h1, h2 => by
    simp only [List.any_cons, Bool.false_or] at h1
    exact all_erase j (setO_all h1 h2)
  | (j, some o) :: r, ob, h1, h2 => by
    simp only [List.any_cons, Bool.or_eq_false_iff] at h1
    simp only [setO, List.all_cons, Bool.and_eq_true, Bool.not_eq_true']
    exact ⟨h1.1, all_erase j (setO_all h1.2 h2)⟩

theorem app_clean {s : St} {e : Eff} {i : Nat} (h : s.clean i = true) (he : e.men i = false) : (s.app e).clean i = true := by
  simp only [St.clean, Bool.and_eq_true] at h ⊢
  simp only [Eff.men, Bool.or_eq_false_iff] at he
  refine ⟨?_, setO_all he.2 h.2⟩
  simp only [St.app]
  cases hq : e.tm with
  | none => exact h.1
  | some p =>
    obtain ⟨t, d⟩ := p
    have := he.1
    rw [hq] at this
    simp only [List.all_cons, Bool.and_eq_true, Bool.not_eq_true']
    exact ⟨this, all_erase t h.1⟩

theorem Env.top_erase (id : Nat) : ∀ (l : Env), Env.top (eraseId id l) ≤ Env.top l
  | [] => Nat.le_refl _
  | (j, d) :: r => by
    have := Env.top_erase id r
    simp only [eraseId]
    split <;> simp only [Env.top] <;> omega

theorem Obs.top_erase (id : Nat) : ∀ (l : Obs), Obs.top (eraseId id l) ≤ Obs.top l
  | [] => Nat.le_refl _
  | (j, d) :: r => by
    have := Obs.top_erase id r
    simp only [eraseId]
    split <;> simp only [Obs.top] <;> omega

theorem setO_top : ∀ (l : List (Nat × Option Ob)) (ob : Obs), Obs.top (setO l ob) ≤ max (otop l) (Obs.top ob)
  | [], ob => by simp only [setO, otop]; omega
  | (j, none) :: r, ob => by
    have h1 := setO_top r ob
    have h2 := Obs.top_erase j (setO r ob)
    simp only [setO, otop]; omega
  | (j, some o) :: r, ob => by
    have h1 := setO_top r ob
    have h2 := Obs.top_erase j (setO r ob)
    simp only [setO, otop, Obs.top]; omega

theorem app_top {s : St} {e : Eff} {q : Nat} (h : s.top ≤ q) (he : e.top ≤ q) : (s.app e).top ≤ q := by
  have h1 : Env.top s.tm ≤ q := Nat.le_trans (Nat.le_max_left _ _) h
  have h2 : Obs.top s.ob ≤ q := Nat.le_trans (Nat.le_max_right _ _) h
  have h3 := setO_top e.ob s.ob
  have h4 : otop e.ob ≤ q := Nat.le_trans (Nat.le_max_right _ _) he
  have h5 : (match e.tm with | some (_, d) => D.top d | none => 0) ≤ q := Nat.le_trans (Nat.le_max_left _ _) he
  simp only [St.top, St.app]
  refine Nat.max_le.2 ⟨?_, by omega⟩
  cases hq : e.tm with
  | none => exact h1
  | some p =>
    obtain ⟨t, d⟩ := p
    rw [hq] at h5
    have := Env.top_erase t s.tm
    simp only [Env.top]
    simp only at h5
    omega

def stAt : List Eff → St → Nat → St
  | _, s, 0 => s
  | [], s, _ => s
  | e :: es, s, k + 1 => stAt es (s.app e) k

theorem stAt_succ : ∀ {es : List Eff} {s : St} {k : Nat} {e : Eff}, es[k]? = some e → stAt es s (k + 1) = (stAt es s k).app e
  | [], _, k, _, h => by simp at h
  | x :: es, s, 0, e, h => by
    simp at h; subst h
    cases es <;> rfl
  | x :: es, s, k + 1, e, h => by
    have := stAt_succ (es := es) (s := s.app x) (k := k) (e := e) (by simpa using h)
    simpa [stAt] using this

theorem canon_spec {P : Program} {b : Nat} : ∀ {sops : List SOp} {s : St} {es : List Eff} {s' : St}, Canon P b sops s es s' → sops.length = es.length ∧ s' = stAt es s es.length ∧ ∀ k o, sops[k]? = some o → ∃ e, es[k]? = some e ∧ Has P b o (stAt es s k) e
  | [], s, [], s', h => ⟨rfl, (show s' = s from h), fun k o hk => by simp at hk⟩
  | o :: r, s, e :: es, s', h => by
    obtain ⟨h1, h2⟩ := h
    obtain ⟨q1, q2, q3⟩ := canon_spec h2
    refine ⟨by simp [q1], by simpa [stAt] using q2, fun k o' hk => ?_⟩
    cases k with
    | zero => simp at hk; subst hk; exact ⟨e, rfl, by simpa [stAt] using h1⟩
    | succ k => obtain ⟨e', r1, r2⟩ := q3 k o' (by simpa using hk); exact ⟨e', by simpa using r1, by simpa [stAt] using r2⟩
  | [], _, _ :: _, _, h => h.elim
  | _ :: _, _, [], _, h => h.elim

theorem statJ_get {pre : List Nat} {j : Nat} {o2 : SOp} : ∀ {l : List SOp} {i0 : Nat}, statJ pre j o2 i0 l = true → ∀ (k : Nat) (o1 : SOp), l[k]? = some o1 → befor pre (i0 + k) j = true ∨ tmpApart o1 o2 = true
  | [], _, _, k, _, h => by simp at h
  | o :: l, i0, h, k, o1, h1 => by
    simp only [statJ, Bool.and_eq_true, Bool.or_eq_true] at h
    cases k with
    | zero => simp at h1; subst h1; simpa using h.1
    | succ k =>
      have := statJ_get h.2 k o1 (by simpa using h1)
      rwa [show i0 + 1 + k = i0 + (k + 1) by omega] at this

theorem statGo_get {pre : List Nat} {ops0 : List SOp} : ∀ {l : List SOp} {j0 : Nat}, statGo pre ops0 j0 l = true → ∀ (k : Nat) (o2 : SOp), l[k]? = some o2 → statJ pre (j0 + k) o2 0 (ops0.take (j0 + k)) = true
  | [], _, _, k, _, h => by simp at h
  | o :: l, j0, h, k, o2, h1 => by
    simp only [statGo, Bool.and_eq_true] at h
    cases k with
    | zero => simp at h1; subst h1; simpa using h.1
    | succ k =>
      have := statGo_get h.2 k o2 (by simpa using h1)
      rwa [show j0 + 1 + k = j0 + (k + 1) by omega] at this

theorem loudL_mem : ∀ {es : List Eff} {i0 k : Nat} {e : Eff}, es[k]? = some e → (e.ob = [] ∧ e.rd = []) ∨ (i0 + k, e) ∈ loudL i0 es
  | [], _, _, _, h => by simp at h
  | x :: es, i0, k, e, h => by
    cases k with
    | zero =>
      simp at h
      subst h
      simp only [loudL]
      split
      · rename_i h1 h2; exact .inl ⟨h1, h2⟩
      · exact .inr (by simp)
    | succ k =>
      have := loudL_mem (es := es) (i0 := i0 + 1) (k := k) (e := e) (by simpa using h)
      rw [show i0 + 1 + k = i0 + (k + 1) by omega] at this
      rcases this with this | this
      · exact .inl this
      · refine .inr ?_
        simp only [loudL]
        split
        · exact this
        · exact List.mem_cons_of_mem _ this

theorem allI_get {p : Nat → Eff → Bool} : ∀ {es : List Eff} {i0 : Nat}, allI p i0 es = true → ∀ (k : Nat) (e : Eff), es[k]? = some e → p (i0 + k) e = true
  | [], _, _, k, _, h => by simp at h
  | x :: es, i0, h, k, e, h1 => by
    simp only [allI, Bool.and_eq_true] at h
    cases k with
    | zero => simp at h1; subst h1; simpa using h.1
    | succ k =>
      have := allI_get h.2 k e (by simpa using h1)
      rwa [show i0 + 1 + k = i0 + (k + 1) by omega] at this

theorem namesGo_get {b : Nat} {pre : List Nat} {es0 : List Eff} : ∀ {l : List SOp} {es : List Eff} {j0 : Nat}, namesGo b pre es0 j0 l es = true → ∀ (k : Nat) (o : SOp) (e : Eff), l[k]? = some o → es[k]? = some e →
    (e.ob ≠ [] → ∀ t, o.dst = some t → ∀ (i : Nat) (x : Eff), es0[i]? = some x → i = j0 + k ∨ befor pre (j0 + k) i = true ∨ x.men (b + t) = false) ∧ (∀ q, e.cd = some q → ∀ (i : Nat) (x : Eff), es0[i]? = some x → i = j0 + k ∨ befor pre (j0 + k) i = true ∨ x.top ≤ q)
  | [], _, _, _, k, _, _, h, _ => by simp at h
  | _ :: _, [], _, _, k, _, _, _, h => by simp at h
  | o' :: l, e' :: es, j0, h, k, o, e, h1, h2 => by
    simp only [namesGo, Bool.and_eq_true] at h
    cases k with
    | zero =>
      simp at h1 h2
      subst h1
      subst h2
      refine ⟨fun hne t ht i x hx => ?_, fun q hq i x hx => ?_⟩
      · have := h.1.1
        split at this
        · rename_i hnil; exact absurd hnil hne
        · rw [ht] at this
          have := allI_get this i x hx
          simp only [Nat.zero_add, Bool.or_eq_true, beq_iff_eq, Bool.not_eq_true'] at this
          rcases this with (this | this) | this
          · exact .inl this
          · exact .inr (.inl this)
          · exact .inr (.inr this)
      · have := h.1.2
        rw [hq] at this
        have := allI_get this i x hx
        simp only [Nat.zero_add, Bool.or_eq_true, beq_iff_eq, decide_eq_true_eq] at this
        rcases this with (this | this) | this
        · exact .inl this
        · exact .inr (.inl this)
        · exact .inr (.inr this)
    | succ k =>
      have := namesGo_get h.2 k o e (by simpa using h1) (by simpa using h2)
      rwa [show j0 + 1 + k = j0 + (k + 1) by omega] at this

section
variable {b : Nat} {pre : List Nat} {ops : List SOp} {es : List Eff} {s : St}

theorem dchk_tmp (h : dchk b pre ops es s = true) {i j : Nat} {o1 o2 : SOp} (hij : i < j) (h1 : ops[i]? = some o1) (h2 : ops[j]? = some o2) (hb : ¬ befor pre i j = true) : tmpApart o1 o2 = true := by
  simp only [dchk, Bool.and_eq_true] at h
  have := statGo_get h.1.1.1 j o2 h2
  rw [Nat.zero_add] at this
  have := statJ_get this i o1 (by rw [List.getElem?_take, if_pos hij]; exact h1)
  rw [Nat.zero_add] at this
  exact this.resolve_left hb

theorem dchk_mem (h : dchk b pre ops es s = true) {i j : Nat} {e1 e2 : Eff} (hij : i < j) (q1 : es[i]? = some e1) (q2 : es[j]? = some e2) (hb : ¬ befor pre i j = true) :
    (∀ p ∈ e1.ob, p.1 ∉ e2.rd ∧ ∀ q ∈ e2.ob, q.1 ≠ p.1) ∧ ∀ p ∈ e2.ob, p.1 ∉ e1.rd := by
  simp only [dchk, Bool.and_eq_true, List.all_eq_true, Bool.or_eq_true, decide_eq_true_eq] at h
  have hm := h.1.1.2
  rcases loudL_mem (i0 := 0) q1 with ⟨h1, h2⟩ | h1
  · rw [h1, h2]; simp
  · rcases loudL_mem (i0 := 0) q2 with ⟨h3, h4⟩ | h3
    · rw [h3, h4]; simp
    · have := hm _ h3 _ h1
      simp only [Nat.zero_add] at this
      rcases this with (this | this) | this
      · omega
      · exact absurd this hb
      · unfold memApart at this
        split at this
        · rename_i h5 h6; rw [h5, h6]; simp
        · simp only [Bool.and_eq_true, List.all_eq_true, Bool.not_eq_true', List.any_eq_false, beq_iff_eq] at this
          refine ⟨fun p hp => ⟨fun hc => ?_, fun q hq => (this.1 p hp).2 q hq⟩, fun p hp hc => ?_⟩
          · have := (this.1 p hp).1
            rw [List.contains_iff_mem.2 hc] at this; cases this
          · have := this.2 p hp
            rw [List.contains_iff_mem.2 hc] at this; cases this

theorem dchk_names (h : dchk b pre ops es s = true) {j : Nat} {o : SOp} {e : Eff} (h1 : ops[j]? = some o) (h2 : es[j]? = some e) :
    (e.ob ≠ [] → ∀ t, o.dst = some t → ∀ (i : Nat) (x : Eff), es[i]? = some x → i = j ∨ befor pre j i = true ∨ x.men (b + t) = false) ∧ (∀ q, e.cd = some q → ∀ (i : Nat) (x : Eff), es[i]? = some x → i = j ∨ befor pre j i = true ∨ x.top ≤ q) := by
  simp only [dchk, Bool.and_eq_true] at h
  have := namesGo_get h.1.2 j o e h1 h2
  simpa using this

theorem dchk_top (h : dchk b pre ops es s = true) {e : Eff} (he : e ∈ es) {q : Nat} (hq : e.cd = some q) : s.top ≤ q := by
  simp only [dchk, Bool.and_eq_true, List.all_eq_true] at h
  have := h.2 e he
  rw [hq] at this
  simpa using this

end
end Go.Sx

namespace Go.Sx
open Go.RowKit
variable [Globs] [Codes]

section
variable {P : Program} {F : Fence} {N : Nat} {cx : Cx} {bs : Nat} {ops : Array Oper} {sops : List SOp} {ds : List Deferred} {Q : Exit → St → Prop} {bt fz : Nat → Bool} {pre : List Nat} {es : List Eff} {s0 : St}

/-- What stands, when the operations in L are done. -/
structure Inv (es : List Eff) (s0 : St) (L : Nat → Prop) (s : St) : Prop where
  tm : ∀ t, Latest L (fun k => (es[k]?).bind (twr · t)) (lk s0.tm t) (lk s.tm t)
  ob : ∀ i, Latest L (fun k => (es[k]?).bind (fun e => lk e.ob i)) (lk s0.ob i) (lk s.ob i)
  clean : ∀ i, s0.clean i = true → (∀ k e, L k → es[k]? = some e → e.men i = false) → s.clean i = true
  top : ∀ q, s0.top ≤ q → (∀ k e, L k → es[k]? = some e → e.top ≤ q) → s.top ≤ q

theorem Inv.congr {L L' : Nat → Prop} {s : St} (h : Inv es s0 L s) (he : ∀ k, L k ↔ L' k) : Inv es s0 L' s :=
  ⟨fun t => (h.tm t).congr he, fun i => (h.ob i).congr he, fun i h1 h2 => h.clean i h1 fun k e hk => h2 k e ((he k).1 hk), fun q h1 h2 => h.top q h1 fun k e hk => h2 k e ((he k).1 hk)⟩

theorem Inv.zero : Inv es s0 (fun _ => False) s0 := ⟨fun _ => Latest.none fun _ h => h, fun _ => Latest.none fun _ h => h, fun _ h _ => h, fun _ h _ => h⟩

theorem Inv.step {L : Nat → Prop} {s : St} (h : Inv es s0 L s) {k : Nat} {e : Eff} (hk : es[k]? = some e) (ht : ∀ t j e', L j → es[j]? = some e' → (twr e t).isSome → (twr e' t).isSome → j ≤ k) (ho : ∀ i j e', L j → es[j]? = some e' → (lk e.ob i).isSome → (lk e'.ob i).isSome → j ≤ k) :
    Inv es s0 (fun j => L j ∨ j = k) (s.app e) := by
  refine ⟨fun t => ?_, fun i => ?_, fun i h1 h2 => ?_, fun q h1 h2 => ?_⟩
  · rw [app_tm]
    cases hq : twr e t with
    | none => exact (h.tm t).skip (by simp [hk, hq])
    | some x =>
      refine Latest.put (by simp [hk, hq]) fun j hj hw => ?_
      cases he : es[j]? with
      | none => rw [he] at hw; cases hw
      | some e' => rw [he] at hw; exact ht t j e' hj he (by rw [hq]; rfl) hw
  · rw [app_ob]
    cases hq : lk e.ob i with
    | none => exact (h.ob i).skip (by simp [hk, hq])
    | some x =>
      refine Latest.put (by simp [hk, hq]) fun j hj hw => ?_
      cases he : es[j]? with
      | none => rw [he] at hw; cases hw
      | some e' => rw [he] at hw; exact ho i j e' hj he (by rw [hq]; rfl) hw
  · exact app_clean (h.clean i h1 fun j e' hj he => h2 j e' (.inl hj) he) (h2 k e (.inr rfl) hk)
  · exact app_top (h.top q h1 fun j e' hj he => h2 j e' (.inl hj) he) (h2 k e (.inr rfl) hk)

theorem Inv.at (n : Nat) (hn : n ≤ es.length) : Inv es s0 (· < n) (stAt es s0 n) := by
  induction n with
  | zero =>
    have : stAt es s0 0 = s0 := by cases es <;> rfl
    rw [this]
    exact Inv.zero.congr fun k => by simp
  | succ n ih =>
    have he : es[n]? = some es[n] := List.getElem?_eq_getElem (by omega)
    rw [stAt_succ he]
    exact ((ih (by omega)).step he (fun t j e' hj _ _ _ => Nat.le_of_lt hj) (fun i j e' hj _ _ _ => Nat.le_of_lt hj)).congr fun k => by show (k < n ∨ k = n) ↔ k < n + 1; omega

theorem has_dst {b : Nat} {o : SOp} {s : St} {e : Eff} (h : Has P b o s e) {t : Nat} (ht : (twr e t).isSome) : o.dst = some t := by
  have key : ∀ d : Option Nat, (∃ x, e.tm = d.map (·, x)) → d = some t := fun d ⟨x, hx⟩ => by
    simp only [twr, hx] at ht
    cases d with
    | none => cases ht
    | some t' =>
      simp only [Option.map_some] at ht
      split at ht
      · rename_i e; rw [e]
      · cases ht
  have body : HasB P b o s e → o.dst = some t := fun hb => by
    cases o with
    | a dst g op xs =>
      obtain ⟨_, _, h3⟩ := hb
      by_cases hx : ∃ x, e.tm = dst.map (·, x)
      · exact key dst hx
      · exact (let ⟨d, nb, hk⟩ := evl_ex h3; hx ⟨d, hk.1⟩).elim
    | st g sz x y =>
      simp only [HasB] at hb
      split at hb
      · rw [hb.2] at ht; simp [twr] at ht
      · exact hb.elim
    | app dst g fz sz et x y =>
      simp only [HasB] at hb
      split at hb
      · obtain ⟨_, hb⟩ := hb
        split at hb
        · exact key (some dst) ⟨_, by rw [hb.2]; rfl⟩
        · split at hb
          · exact key (some dst) ⟨_, by rw [hb.2.2.2]; rfl⟩
          · exact hb.elim
        · exact hb.elim
      · exact hb.elim
    | cd dst g x xs =>
      obtain ⟨nm, r, ob', base, _, _, _, _, he⟩ := hb
      exact key dst ⟨_, by rw [he]⟩
  have skip : e = ⟨[], o.dst.map (·, .nov), [], none⟩ → o.dst = some t := fun he => key o.dst ⟨_, by rw [he]⟩
  unfold Has at h
  cases hg : o.gd with
  | none => rw [hg] at h; exact body h
  | some gw =>
    obtain ⟨q, w⟩ := gw
    rw [hg] at h
    simp only [gud] at h
    split at h
    · split at h
      · exact body h
      · exact skip h
    · exact skip h
    · exact h.elim

theorem tmps_gd {o : SOp} {t : Nat} (h : t ∈ tmpsG o.gd) : t ∈ o.tmps := by
  cases o <;> simp only [SOp.gd] at h <;> simp only [SOp.tmps, List.mem_append] <;> exact .inr h

theorem Has.congr {b : Nat} {o : SOp} {s s' : St} {e : Eff} (h : Has P b o s e) (ht : ∀ t ∈ o.tmps, lk s.tm t = lk s'.tm t) (ho : ∀ i ∈ e.rd, lk s.ob i = lk s'.ob i) : Has P b o s' e :=
  gud_congr (fun t h => ht t (tmps_gd h)) (gud_mono (fun hb => hb.congr ht ho) id h)

/-- ONE OF THE OPERATIONS, what it waits for being done. -/
theorem one_has (hcan : ∀ k o, sops[k]? = some o → ∃ e, es[k]? = some e ∧ Has P bs o (stAt es s0 k) e) (hlen : sops.length = es.length) (hchk : dchk bs pre sops es s0 = true) {L : Nat → Prop} {s : St} (hI : Inv es s0 L s) (htop : s0.top ≤ bs)
    {k : Nat} {o : SOp} (hk : sops[k]? = some o) (hL : ¬ L k) (hlt : ∀ j, L j → j < es.length) (hpre : ∀ i, befor pre i k = true → L i) (hcl : ∀ j i, L j → befor pre i j = true → L i) :
    ∃ e, es[k]? = some e ∧ Has P bs o s e ∧ (e.ob ≠ [] → ∀ t, o.dst = some t → s.clean (bs + t) = true) ∧ (∀ q, e.cd = some q → s.top ≤ q) ∧ Inv es s0 (fun j => L j ∨ j = k) (s.app e) := by
  obtain ⟨e, he, hh⟩ := hcan k o hk
  have hkl : k < es.length := (List.getElem?_eq_some_iff.1 he).1
  have hsop : ∀ j e', es[j]? = some e' → ∃ o', sops[j]? = some o' ∧ Has P bs o' (stAt es s0 j) e' := fun j e' hj => by
    have hjl := (List.getElem?_eq_some_iff.1 hj).1
    have : sops[j]? = some sops[j] := List.getElem?_eq_getElem (by omega)
    obtain ⟨e'', q1, q2⟩ := hcan j _ this
    rw [hj] at q1
    cases q1
    exact ⟨_, this, q2⟩
  -- an operation ahead in the text that is not in L, and one behind that is
  have nbe : ∀ j, j < k → ¬ L j → ¬ befor pre j k = true := fun j _ hnl hb => hnl (hpre j hb)
  have naf : ∀ j, k < j → L j → ¬ befor pre k j = true := fun j _ hl hb => hL (hcl j k hl hb)
  have hcat := Inv.at (es := es) (s0 := s0) k (by omega)
  have hmem : ∀ {l : List Nat} {t : Nat}, l.contains t = false → t ∉ l := fun h hm => by rw [List.contains_iff_mem.2 hm] at h; cases h
  have hag : ∀ t ∈ o.tmps, lk (stAt es s0 k).tm t = lk s.tm t := fun t ht => (hcat.tm t).uniq (hI.tm t) fun j hw => by
    cases hj : es[j]? with
    | none => rw [hj] at hw; cases hw
    | some e' =>
      rw [hj] at hw
      obtain ⟨o', ho', hh'⟩ := hsop j e' hj
      have hd := has_dst hh' (t := t) hw
      refine ⟨fun hjk => ?_, fun hl => ?_⟩
      · apply Classical.byContradiction
        intro hnl
        have := dchk_tmp hchk hjk ho' hk (nbe j hjk hnl)
        simp only [tmpApart, hd, Bool.and_eq_true, Bool.not_eq_true'] at this
        exact hmem this.1.1 ht
      · rcases Nat.lt_trichotomy j k with h | h | h
        · exact h
        · subst h; exact absurd hl hL
        · have := dchk_tmp hchk h hk ho' (naf j h hl)
          simp only [tmpApart, hd, Bool.and_eq_true, Bool.not_eq_true'] at this
          exact absurd ht (hmem this.2)
  have hao : ∀ i ∈ e.rd, lk (stAt es s0 k).ob i = lk s.ob i := fun i hi => (hcat.ob i).uniq (hI.ob i) fun j hw => by
    cases hj : es[j]? with
    | none => rw [hj] at hw; cases hw
    | some e' =>
      rw [hj] at hw
      obtain ⟨x, hx⟩ := Option.isSome_iff_exists.1 hw
      obtain ⟨p, hp, hpi⟩ := lk_mem hx
      refine ⟨fun hjk => ?_, fun hl => ?_⟩
      · apply Classical.byContradiction
        intro hnl
        have := ((dchk_mem hchk hjk hj he (nbe j hjk hnl)).1 p hp).1
        rw [hpi] at this
        exact this hi
      · rcases Nat.lt_trichotomy j k with h | h | h
        · exact h
        · subst h; exact absurd hl hL
        · have := (dchk_mem hchk h he hj (naf j h hl)).2 p hp
          rw [hpi] at this
          exact absurd hi this
  refine ⟨e, he, hh.congr hag hao, fun hne t ht => ?_, fun q hq => ?_, hI.step he (fun t j e' hj hej hw hw' => ?_) (fun i j e' hj hej hw hw' => ?_)⟩
  · refine hI.clean _ ?_ fun j e' hj hej => ?_
    · simp only [St.clean, Bool.and_eq_true, List.all_eq_true, Bool.not_eq_true']
      refine ⟨fun p hp => D.top_men _ _ ?_, fun p hp => D.topL_men _ _ ?_⟩
      · have h1 : Env.top s0.tm ≤ bs + t := Nat.le_trans (Nat.le_max_left _ _) (Nat.le_trans htop (Nat.le_add_right _ _))
        exact env_mem h1 hp
      · have h1 : Obs.top s0.ob ≤ bs + t := Nat.le_trans (Nat.le_max_right _ _) (Nat.le_trans htop (Nat.le_add_right _ _))
        exact obs_mem h1 hp
    · rcases (dchk_names hchk hk he).1 hne t ht j e' hej with h | h | h
      · subst h; exact absurd hj hL
      · exact absurd (hcl j k hj h) hL
      · exact h
  · refine hI.top q (dchk_top hchk (List.mem_of_getElem? he) hq) fun j e' hj hej => ?_
    rcases (dchk_names hchk hk he).2 q hq j e' hej with h | h | h
    · subst h; exact absurd hj hL
    · exact absurd (hcl j k hj h) hL
    · exact h
  · obtain ⟨o', ho', hh'⟩ := hsop j e' hej
    apply Classical.byContradiction
    intro hlt'
    have := dchk_tmp hchk (by omega) hk ho' (naf j (by omega) hj)
    have d1 := has_dst hh hw
    have d2 := has_dst hh' hw'
    simp [tmpApart, d1, d2] at this
  · apply Classical.byContradiction
    intro hlt'
    obtain ⟨x, hx⟩ := Option.isSome_iff_exists.1 hw
    obtain ⟨y, hy⟩ := Option.isSome_iff_exists.1 hw'
    obtain ⟨p, hp, hpi⟩ := lk_mem hx
    obtain ⟨p', hp', hpi'⟩ := lk_mem hy
    exact ((dchk_mem hchk (by omega) he hej (naf j (by omega) hj)).1 p hp).2 p' hp' (by rw [hpi, hpi'])

/-- A REGION THAT DRAWS ITS ORDER. -/
theorem drawn_go (hF : Fence.Open F) (hbs : cx.bs ≤ bs) (hgl : GlobC cx.φ0 cx.w0 cx.Z) (hl : ops.toList.mapM (fun o => compO P bt (fz (o.dst.getD 0)) ops o) = some sops) (hd : dstsOK cx.N ops = true)
    (hlow : ∀ i o, ops[i]? = some o → ∀ e ∈ o.after, Region.binds .any e = true → e.on < i) (hwt : PreOK pre ops)
    (hcan : ∀ k o, sops[k]? = some o → ∃ e, es[k]? = some e ∧ Has P bs o (stAt es s0 k) e) (hlen : sops.length = es.length) (hchk : dchk bs pre sops es s0 = true) (htop : s0.top ≤ bs) (hK : Q .normal (stAt es s0 es.length)) :
    ∀ (fuel : Nat) (listed : Array Bool) (s : St) (φ : Mem) (h : Nat → Value) (tmps : Array Value) (w : World), listed.size = ops.size → Closed ops listed →
      Inv es s0 (fun k => listed.getD k false = true) s → (un ops listed).length ≤ fuel → Mod cx s φ h tmps w → wpAnyIn F N P .any ops (PostM cx ds Q) fuel listed ⟨tmps, ds⟩ w := by
  have hlo : sops.length = ops.size := by have := mapM_len hl; simpa using this
  -- all are done
  have last : ∀ (listed : Array Bool) (s : St) (φ : Mem) (h : Nat → Value) (tmps : Array Value) (w : World), listed.size = ops.size → (∀ k, k < ops.size → listed.getD k false = true) → Inv es s0 (fun k => listed.getD k false = true) s → Mod cx s φ h tmps w → PostM cx ds Q .normal ⟨tmps, ds⟩ w := by
    intro listed s φ h tmps w hsz hall hI hm
    have hat := Inv.at (es := es) (s0 := s0) es.length (Nat.le_refl _)
    have hiff : ∀ k, k < es.length ↔ listed.getD k false = true := fun k => by
      refine ⟨fun hk => hall k (by omega), fun hk => ?_⟩
      apply Classical.byContradiction
      intro hn
      have : listed.getD k false = false := by simp [Array.getD, show ¬ k < listed.size by omega]
      rw [this] at hk; cases hk
    refine PostM.of hK (hm.weaken (fun t d hd => ?_) fun i o ho => ?_)
    · rw [← hd]; exact (hI.tm t).uniq (hat.tm t) fun k _ => (hiff k).symm
    · rw [← ho]; exact (hI.ob i).uniq (hat.ob i) fun k _ => (hiff k).symm
  have hnone : ∀ listed : Array Bool, listed.size = ops.size → un ops listed = [] → ∀ k, k < ops.size → listed.getD k false = true := fun listed hsz hun k hk => by
    cases hq : listed.getD k false with
    | true => rfl
    | false =>
      have : k ∈ un ops listed := List.mem_filter.2 ⟨List.mem_range.2 hk, by rw [getD_tf (by omega), hq]; rfl⟩
      rw [hun] at this; cases this
  intro fuel
  induction fuel with
  | zero =>
    intro listed s φ h tmps w hsz hcl hI hun hm
    have hunil : un ops listed = [] := List.eq_nil_of_length_eq_zero (by omega)
    refine ⟨?_, last listed s φ h tmps w hsz (hnone listed hsz hunil) hI hm⟩
    cases hq : Region.ready .any ops listed with
    | nil => rfl
    | cons x xs =>
      have := ready_un (ops := ops) (listed := listed) (i := x) (by rw [hq]; simp)
      rw [hunil] at this; cases this
  | succ fuel ih =>
    intro listed s φ h tmps w hsz hcl hI hun hm
    refine ⟨fun hrn => ?_, fun i hi => ?_⟩
    · -- nothing is ready: all are done
      refine last listed s φ h tmps w hsz (fun k hk => ?_) hI hm
      cases hq : listed.getD k false with
      | true => rfl
      | false =>
        exfalso
        have : ∃ k, k < ops.size ∧ listed.getD k false = false ∧ ∀ j, j < k → listed.getD j false = true := by
          induction k using Nat.strongRecOn with
          | _ k ihk =>
            by_cases hj : ∃ j, j < k ∧ listed.getD j false = false
            · obtain ⟨j, hjk, hjq⟩ := hj
              exact ihk j hjk (by omega) hjq
            · refine ⟨k, hk, hq, fun j hjk => ?_⟩
              cases hq' : listed.getD j false with
              | true => rfl
              | false => exact absurd ⟨j, hjk, hq'⟩ hj
        obtain ⟨k0, h1, h2, h3⟩ := this
        have hr : k0 ∈ Region.ready .any ops listed := mem_ready.2 ⟨by rw [getD_tf (by omega)]; exact h2, ops[k0], Array.getElem?_eq_getElem h1, fun e he hb => h3 _ (hlow k0 ops[k0] (Array.getElem?_eq_getElem h1) e he hb)⟩
        rw [hrn] at hr; cases hr
    · obtain ⟨h1, o, ho, hrd⟩ := mem_ready.1 hi
      have hilt := (Array.getElem?_eq_some_iff.1 ho).1
      rw [getD_tf (by omega)] at h1
      obtain ⟨so, hcs, hso⟩ := mapM_get hl i o (by simpa using ho)
      obtain ⟨e, he, hh, hclean, hcd, hI'⟩ := one_has hcan hlen hchk hI htop hso (by simp only [h1]; simp)
        (fun j hj => by
          apply Classical.byContradiction
          intro hn
          have : listed.getD j false = false := by simp [Array.getD, show ¬ j < listed.size by omega]
          rw [this] at hj; cases hj)
        (fun j hb => befor_listed hwt hcl i j (fun o' ho' => by rw [ho] at ho'; cases ho'; exact hrd) hb)
        (fun j q hj hb => befor_listed hwt hcl j q (fun o' ho' => hcl j o' ho' hj) hb)
      have hst := stp_of_has hh hclean hcd
      have hs := step_sound (ds := ds) (n := N) (Q := PostM cx ds Q) hF hbs hgl hcs (dstsOK_spec hd o (by simpa using Array.mem_of_getElem? ho)) hm hst
      have hnext : ∀ a w', NextM cx ds (fun s1 => Alike s1 (s.app e)) a w' → wpAnyIn F N P .any ops (PostM cx ds Q) fuel (listed.setIfInBounds i true) a w' := by
        rintro ⟨tm, df⟩ w' ⟨hdf, s1, φ', h', hal, hm'⟩
        cases hdf
        refine ih _ (s.app e) φ' h' tm w' (by simpa using hsz) (hcl.set (by omega) fun o' ho' => by rw [ho] at ho'; cases ho'; exact hrd) (hI'.congr fun k => (getD_set (by omega)).symm) (by have := un_set hsz (ready_un hi); omega) (hm'.weaken (fun t d hd => by rw [hal.1 t]; exact hd) fun i o ho => by rw [hal.2 i]; exact ho)
      unfold wpOpIn
      simp only [ho]
      split at hs
      · rename_i hw
        rw [if_pos hw]
        exact Oper.wpIn_mono hnext hs
      · rename_i hw
        rw [if_neg hw]
        exact ⟨hs.1, hnext _ _ hs.2⟩

end

theorem drawSound {P : Program} (hmix : P.follows .mixedOrders = true) : DrawSound P := by
  intro cx F N ds hF bt fz ops Q sops pre id bs hbs hgl hl hd hN hok s φ h tmps w htop hm es s' hcan hchk hK
  simp only [drawOK, Bool.and_eq_true, decide_eq_true_eq, List.all_eq_true, List.mem_range, beq_iff_eq] at hok
  obtain ⟨hplen, h2⟩ := hok
  obtain ⟨hlen, rfl, hc⟩ := canon_spec hcan
  have hlow : ∀ i o, ops[i]? = some o → ∀ e ∈ o.after, Region.binds .any e = true → e.on < i := fun i o ho e he hb => by
    have := h2 i (Array.getElem?_eq_some_iff.1 ho).1
    simp only [ho, List.all_eq_true, Bool.and_eq_true, Bool.or_eq_true, Bool.not_eq_true', decide_eq_true_eq] at this
    rcases this.1 e (by simpa using he) with h | h
    · rw [hb] at h; cases h
    · exact h
  have hwt : PreOK pre ops := fun i j hb => by
    have hj : j < ops.size := by
      apply Classical.byContradiction
      intro hn
      simp only [befor, List.getD, List.getElem?_eq_none (show pre.length ≤ j by omega)] at hb
      simp at hb
    have ho : ops[j]? = some ops[j] := Array.getElem?_eq_getElem hj
    have := h2 j hj
    simp only [ho, Bool.and_eq_true, beq_iff_eq] at this
    have hbit : (pre.getD j 0 &&& reachM pre (ops[j]).after.toList 0).testBit i = true := by rw [this.2]; exact hb
    rw [Nat.testBit_and, Bool.and_eq_true] at hbit
    rcases reachM_mem hbit.2 with h | ⟨e, he, hbi, h⟩
    · simp at h
    · exact ⟨_, ho, e, by simpa using he, hbi, hlow j _ ho e (by simpa using he) hbi, h⟩
  refine wpIn_region_any hmix ?_
  have hnl : ∀ i, (Array.replicate ops.size false).getD i false = false := fun i => by
    by_cases hi : i < ops.size <;> simp [Array.getD, hi]
  refine drawn_go hF hbs hgl hl hd hlow hwt hc hlen hchk htop hK ops.size (Array.replicate ops.size false) s φ h tmps _ (by simp) (fun i o ho hi => by rw [hnl i] at hi; cases hi) (Inv.zero.congr fun k => by rw [hnl k]; simp) ?_ hm.drew
  unfold un
  exact Nat.le_trans (List.length_filter_le _ _) (by simp)

end Go.Sx

namespace Go.Sx
open Go.RowKit
variable [Globs] [Codes]

def binIE (op : BinOp) (k : IntKind) (a b : Int) : Option D :=
  match op with
  | .add => some (.int k (k.wrap (a + b)))
  | .sub => some (.int k (k.wrap (a - b)))
  | .mul => some (.int k (k.wrap (a * b)))
  | .quo => if b = 0 then none else some (.int k (k.wrap (a.tdiv b)))
  | .rem => if b = 0 then none else some (.int k (a.tmod b))
  | .eql => some (.bool (decide (a = b)))
  | .neq => some (.bool (!decide (a = b)))
  | .lss => some (.bool (decide (a < b)))
  | .leq => some (.bool (decide (a ≤ b)))
  | .gtr => some (.bool (decide (b < a)))
  | .geq => some (.bool (decide (b ≤ a)))
  | .and => some (.int k (bitI .and k a b))
  | .or => some (.int k (bitI .or k a b))
  | .xor => some (.int k (bitI .xor k a b))
  | .andNot => some (.int k (bitI .andNot k a b))
  | _ => none

def binSE (op : BinOp) (a b : List UInt8) : Option D :=
  match op with
  | .add => if a.length + b.length ≤ 4611686018427387904 then some (.str (a ++ b)) else none
  | .eql => some (.bool (decide (a = b)))
  | .neq => some (.bool (!decide (a = b)))
  | .lss => some (.bool (Op.bytesLess a b))
  | .leq => some (.bool (Op.bytesLess a b || decide (a = b)))
  | .gtr => some (.bool (!(Op.bytesLess a b || decide (a = b))))
  | .geq => some (.bool (!Op.bytesLess a b))
  | _ => none

/-- Are these bytes? -/
def isBy : List (List D) → Bool
  | [] => true
  | [.int .u8 n] :: r => decide (0 ≤ n) && decide (n < 256) && isBy r
  | _ => false
theorem isBy_sound : ∀ {es : List (List D)}, isBy es = true → es = byC (bytesD es)
  | [], _ => rfl
  | e :: r, h => by
    unfold isBy at h
    split at h
    · rename_i heq; cases heq
    · rename_i n r' heq
      cases heq
      simp only [Bool.and_eq_true, decide_eq_true_eq] at h
      have ih := isBy_sound h.2
      have e1 : ((UInt8.ofNat n.toNat).toNat : Int) = n := by
        rw [UInt8.toNat_ofNat_of_lt' (by show _ < 256; omega)]; omega
      simp only [bytesD, byC, List.map_cons] at ih ⊢
      rw [e1, ← ih]
    · cases h
def one1 (d : Option D) : Option (D × Option Ob) := match d with
  | some d => some (d, none)
  | none => none

def callR (dst : Nat) : D → D × Option Ob
  | .own sz e es => (.vec dst, some (.arr true sz e es))
  | r => (r, none)

/-- An operation, worked out. -/
def evE (fn : FuncId → List D → Option D) (dst : Nat) (o : AOp) (xs : List D) (obs : Nat → Option Ob) : Option (D × Option Ob) :=
  match o, xs with
  | .mv, [d] => some (d, none)
  | .pick, [.bool c, a, b] => some (if c then a else b, none)
  | .bin op, [.int k a, .int k' b] => if k = k' then one1 (binIE op k a b) else none
  | .bin op, [.str a, .str b] => one1 (binSE op a b)
  | .binb .eql, [.bool a, .bool b] => some (.bool (a == b), none)
  | .binb .neq, [.bool a, .bool b] => some (.bool (!(a == b)), none)
  | .un .not, [.bool a] => some (.bool (!a), none)
  | .un .neg, [.int k a] => some (.int k (k.wrap (0 - a)), none)
  | .conv k, [.int _ n] => some (.int k (k.wrap n), none)
  | .len true, [.str s] => some (.int .i64 s.length, none)
  | .len false, [.slice es _] => some (.int .i64 es.length, none)
  | .len false, [.nils] => some (.int .i64 0, none)
  | .len false, [.vec id] => match obs id with
    | some (.arr _ _ _ es) => some (.int .i64 es.length, none)
    | _ => none
  | .box, [d] => if D.okc d = true then some (.ptr dst 0, some (.cells d.cells)) else none
  | .alloc z, [] => some (.ptr dst 0, some (.cells z))
  | .build z ps, ds => match buildD obs z ps ds with
    | some cs => some (.agg cs, none)
    | none => none
  | .bslice fz sz n e z ps, ds => match buildD obs z ps ds with
    | some cs => if cs.all D.pur = true then some (.vec dst, some (.arr fz sz e (chunk sz n cs))) else none
    | none => none
  | .load agg sz, [.ptr id off] => match obs id with
    | some (.cells cs) => match agg with
      | true => if off + sz ≤ cs.length then some (.agg (((cs.drop off).take sz).map (dv obs)), none) else none
      | false => match cs[off]? with
        | some d => some (d, none)
        | none => none
    | _ => none
  | .load agg sz, [.fptr cs] => match agg with
    | true => if sz ≤ cs.length then some (.agg (cs.take sz), none) else none
    | false => match cs with
      | d :: _ => some (d, none)
      | [] => none
  | .load agg sz, [.vptr id i j sz'] => match obs id with
    | some (.arr false sz2 _ es) => if sz2 = sz' ∧ j + sz ≤ sz' then (match es[i]? with
      | some cs => (match agg with
        | true => some (.agg ((cs.drop j).take sz), none)
        | false => match cs[j]? with
          | some d => some (d, none)
          | none => none)
      | none => none) else none
    | _ => none
  | .faddr off, [.ptr id o] => some (.ptr id (o + off), none)
  | .faddr off, [.fptr cs] => some (.fptr (cs.drop off), none)
  | .faddr off, [.vptr id i j sz] => some (.vptr id i (j + off) sz, none)
  | .field off agg sz, [.agg cs] => match agg with
    | true => if off + sz ≤ cs.length then some (.agg ((cs.drop off).take sz), none) else none
    | false => match cs[off]? with
      | some d => some (d, none)
      | none => none
  | .iaddr sz, [.slice es _, .int _ n] => if 0 ≤ n ∧ n < es.length ∧ (es.getD n.toNat []).length = sz then some (.fptr (es.getD n.toNat []), none) else none
  | .iaddr sz, [.vec id, .int _ n] => match obs id with
    | some (.arr true _ _ es) => if 0 ≤ n ∧ n < es.length ∧ (es.getD n.toNat []).length = sz then some (.fptr (es.getD n.toNat []), none) else none
    | some (.arr false sz' _ es) => if sz' = sz ∧ 0 ≤ n ∧ n < es.length then some (.vptr id n.toNat 0 sz, none) else none
    | _ => none
  | .index, [.str s, .int _ n] => if 0 ≤ n ∧ n < s.length then some (.int .u8 (s.getD n.toNat 0).toNat, none) else none
  | .sliceS lo hi, .str s :: bs => match bounds lo hi s.length bs with
    | some (a, b) => if 0 ≤ a ∧ a ≤ b ∧ b ≤ s.length then some (.str ((s.take b.toNat).drop a.toNat), none) else none
    | none => none
  | .slice sz lo hi, d :: bs => match sliceOf obs d with
    | some (es, ext) => match bounds lo hi es.length bs with
      | some (a, b) => if ((es ++ ext).all fun q => q.length == sz) = true ∧ 0 ≤ a ∧ a ≤ b ∧ b ≤ (es ++ ext).length then some (.slice (((es ++ ext).take b.toNat).drop a.toNat) ((es ++ ext).drop b.toNat), none) else none
      | none => none
    | none => none
  | .extract i, [.tuple ds] => match ds[i]? with
    | some d => some (d, none)
    | none => none
  | .call f, ds => match fn f (ds.map (dv obs)) with
    | some r => some (callR dst r)
    | none => none
  | .nilck, [d] => if D.nn d = true then some (d, none) else none
  | .eqs neg ks, [.agg a, .agg b] => match eqCells ks a b with
    | some r => some (.bool (match neg with | true => !r | false => r), none)
    | none => none
  | .mks fz sz e z bt, [.int _ n] => if z.all D.pur = true ∧ 0 ≤ n ∧ n * bt ≤ 281474976710656 ∧ n ≤ 1073741824 then some (.vec dst, some (.arr fz sz e (List.replicate n.toNat z))) else none
  | .mke fz sz e bt, [.int _ n] => if 0 ≤ n ∧ n * bt ≤ 281474976710656 ∧ n ≤ 1073741824 then some (.vec dst, some (.arr fz sz e [])) else none
  | .b2s, [d] => match rowOf obs d with
    | some es => if isBy es = true then some (.str (bytesD es), none) else none
    | none => none
  | .nilv fz sz e, [.nils] => if 0 < sz then some (.vec dst, some (.arr fz sz e [])) else none
  | .mkfn f n, ds => if n ≤ ds.length then some (.func f (ds.take n) (ds.drop n), none) else none
  | .eqn op kd, [a, b] => match eqD kd a b with
    | some r => match op with
      | .eql => some (.bool r, none)
      | .neq => some (.bool (!r), none)
      | _ => none
    | none => none
  | .iaddrA len sz, [.fptr cs, .int _ n] => if 0 ≤ n ∧ n < len then some (.fptr (cs.drop (n.toNat * sz)), none) else none
  | .iaddrA len sz, [.ptr id off, .int _ n] => if 0 ≤ n ∧ n < len then some (.ptr id (off + n.toNat * sz), none) else none
  | .mm big, .int k a :: ds => match mmI big k a ds with
    | some r => some (.int k r, none)
    | none => none
  | .sh left, [.int k a, .int _ b] => if 0 ≤ b then some (.int k (shI left k a b), none) else none
  | .mkmap, [] => some (.map dst, some (.gen (.map []) []))
  | .mlook kd z, [.map id, key] => match obs id with
    | some (.gen (.map ks) ds) => if isKD kd key = true then (match mfind key ks ds with
      | some r => some (r.getD z, none)
      | none => none) else none
    | _ => none
  | _, _ => none

section
variable {P : Program} {fn : FuncId → List D → Option D} {dst : Nat} {obs : Nat → Option Ob} {K : D → Option Ob → Prop}

theorem binIE_sound {op : BinOp} {k : IntKind} {a b : Int} {d : D} {K : D → Prop} (h : binIE op k a b = some d) (hk : K d) : binI op k a b K := by
  cases op <;> simp only [binIE, Option.some.injEq, reduceCtorEq] at h <;> simp only [binI] <;> first | (subst h; exact hk) | (split at h; cases h; simp only [Option.some.injEq] at h; subst h; exact ⟨by assumption, hk⟩)
theorem binSE_sound {op : BinOp} {a b : List UInt8} {d : D} {K : D → Prop} (h : binSE op a b = some d) (hk : K d) : binS op a b K := by
  cases op <;> simp only [binSE, Option.some.injEq, reduceCtorEq] at h <;> simp only [binS] <;> first | (subst h; exact hk) | (split at h; simp only [Option.some.injEq] at h; subst h; exact ⟨by assumption, hk⟩; cases h)

theorem one1_some {x : Option D} {d : D} {nb : Option Ob} (h : one1 x = some (d, nb)) : x = some d ∧ nb = none := by
  unfold one1 at h
  split at h
  · simp only [Option.some.injEq, Prod.mk.injEq] at h; exact ⟨by rw [h.1], h.2.symm⟩
  · cases h

theorem evE_b2s {d d' : D} {nb : Option Ob} (h : evE fn dst .b2s [d'] obs = some (d, nb)) (hk : K d nb) : evl P dst .b2s [d'] obs K := by
  simp only [evE] at h
  simp only [evl]
  cases hq : rowOf obs d' with
  | none => rw [hq] at h; cases h
  | some es =>
    rw [hq] at h
    simp only at h ⊢
    split at h
    · rename_i hb
      simp only [Option.some.injEq, Prod.mk.injEq] at h
      obtain ⟨rfl, rfl⟩ := h
      exact ⟨isBy_sound hb, hk⟩
    · cases h
theorem evE_vld {agg : Bool} {sz id i j sz' : Nat} {d : D} {nb : Option Ob} (h : evE fn dst (.load agg sz) [.vptr id i j sz'] obs = some (d, nb)) (hk : K d nb) : evl P dst (.load agg sz) [.vptr id i j sz'] obs K := by
  simp only [evE] at h
  simp only [evl]
  cases hq : obs id with
  | none => rw [hq] at h; cases h
  | some o =>
    rw [hq] at h
    cases o with
    | cells _ => cases h
    | gen _ _ => cases h
    | arr fz sz2 e es =>
      cases fz with
      | true => cases h
      | false =>
        simp only at h ⊢
        split at h
        · rename_i hc
          refine ⟨hc.1, hc.2, ?_⟩
          cases hi : es[i]? with
          | none => rw [hi] at h; cases h
          | some cs =>
            rw [hi] at h
            cases agg with
            | true => simp only [Option.some.injEq, Prod.mk.injEq] at h; obtain ⟨rfl, rfl⟩ := h; exact hk
            | false =>
              simp only [Bool.false_eq_true, if_false] at h ⊢
              cases hj : cs[j]? with
              | none => rw [hj] at h; cases h
              | some d => rw [hj] at h; simp only [Option.some.injEq, Prod.mk.injEq] at h; obtain ⟨rfl, rfl⟩ := h; exact hk
        · cases h

theorem evE_mlook {kd : Option IntKind} {z key : D} {id : Nat} {d : D} {nb : Option Ob} (h : evE fn dst (.mlook kd z) [.map id, key] obs = some (d, nb)) (hk : K d nb) : evl P dst (.mlook kd z) [.map id, key] obs K := by
  simp only [evE] at h
  simp only [evl]
  cases hq : obs id with
  | none => rw [hq] at h; cases h
  | some o =>
    rw [hq] at h
    cases o with
    | cells _ => cases h
    | arr _ _ _ _ => cases h
    | gen g ds =>
      cases g with
      | loop => cases h
      | map ks =>
        simp only at h ⊢
        split at h
        · rename_i hc
          refine ⟨hc, ?_⟩
          cases hf : mfind key ks ds with
          | none => rw [hf] at h; cases h
          | some r => rw [hf] at h; simp only [Option.some.injEq, Prod.mk.injEq] at h; obtain ⟨rfl, rfl⟩ := h; exact hk
        · cases h

theorem evE_sound (hfn : ∀ f az r, fn f az = some r → FnOK P f az r) {op : AOp} {xs : List D} {d : D} {nb : Option Ob} (h : evE fn dst op xs obs = some (d, nb)) (hk : K d nb) : evl P dst op xs obs K := by
  by_cases hb : op = .b2s ∧ ∃ d, xs = [d]
  · obtain ⟨rfl, d, rfl⟩ := hb; exact evE_b2s h hk
  by_cases hl : (∃ a s, op = .load a s) ∧ ∃ a b c d, xs = [.vptr a b c d]
  · obtain ⟨⟨_, _, rfl⟩, _, _, _, _, rfl⟩ := hl; exact evE_vld h hk
  by_cases hlm : (∃ a s, op = .mlook a s) ∧ ∃ a b, xs = [.map a, b]
  · obtain ⟨⟨_, _, rfl⟩, _, _, rfl⟩ := hlm; exact evE_mlook h hk
  unfold evE at h
  split at h
  all_goals try exact absurd ⟨rfl, _, rfl⟩ hb
  all_goals try exact absurd ⟨⟨_, _, rfl⟩, _, _, _, _, rfl⟩ hl
  all_goals try exact absurd ⟨⟨_, _, rfl⟩, _, _, rfl⟩ hlm
  all_goals clear hb hl hlm
  all_goals try simp only [evl]
  all_goals first
    | (simp only [Option.some.injEq, Prod.mk.injEq] at h; obtain ⟨rfl, rfl⟩ := h; exact hk)
    | (cases h; done)
    | (obtain ⟨h1, rfl⟩ := one1_some h; exact binSE_sound h1 hk)
    | (split at h
       · rename_i hc; obtain ⟨h1, rfl⟩ := one1_some h; exact ⟨hc, binIE_sound h1 hk⟩
       · cases h)
    | (split at h
       · rename_i r hr
         refine ⟨r, hfn _ _ _ hr, ?_⟩
         simp only [Option.some.injEq] at h
         cases r <;> (simp only [callR, Prod.mk.injEq] at h; obtain ⟨rfl, rfl⟩ := h; exact hk)
       · cases h)
    | skip
  all_goals
    repeat' split at h
  all_goals first
    | (cases h; done)
    | skip
  all_goals try (simp only [Option.some.injEq, Prod.mk.injEq] at h; obtain ⟨rfl, rfl⟩ := h)
  all_goals first
    | exact hk
    | exact ⟨by assumption, hk⟩
    | (simp [*]; done)
    | (rename_i hc; exact ⟨hc.1, hc.2, hk⟩)
    | (rename_i hc; exact ⟨hc.1, hc.2.1, hc.2.2, hk⟩)
    | (simp only [*]; exact hk)
    | (simp only [*]; exact ⟨by assumption, hk⟩)
    | (rename_i hc; simp only [*]; exact ⟨hc.1, hc.2.1, hc.2.2, hk⟩)
    | skip
  all_goals first
    | (rename_i cs heq agg hle; rw [heq]; exact ⟨hle, hk⟩)
    | (rename_i sz e es heq hc; rw [heq]; exact ⟨hc.1, hc.2.1, hc.2.2, hk⟩)
    | (rename_i hc; exact ⟨hc.1, hc.2.1, hc.2.2.1, hc.2.2.2, hk⟩)
    | (rename_i r heq; rw [heq]; cases ‹Bool› <;> exact hk)
    | (rename_i es ext heq1 x2 a b heq hc
       rw [heq1]
       simp only [heq]
       refine ⟨?_, hc.2.1, hc.2.2.1, hc.2.2.2, hk⟩
       have := hc.1
       simp only [List.all_eq_true, beq_iff_eq] at this
       exact this)

end

/-- The guard, worked out. -/
def gudE {α : Type} (g : Option (Nat × Bool)) (s : St) (body skip : Option α) : Option α :=
  match g with
  | none => body
  | some (t, want) => match lk s.tm t with
    | some (.bool b) => if b = want then body else skip
    | some (.tuple []) => skip
    | _ => none

theorem gudE_sound {α : Type} {g : Option (Nat × Bool)} {s : St} {body skip : Option α} {x : α} (h : gudE g s body skip = some x) {p q : Prop} (hp : body = some x → p) (hq : skip = some x → q) : gud g s p q := by
  cases g with
  | none => exact hp h
  | some gw =>
    obtain ⟨t, w⟩ := gw
    simp only [gudE] at h
    simp only [gud]
    split at h
    · rename_i b0 heq
      rw [heq]
      simp only
      split at h
      · rename_i hb; rw [if_pos hb]; exact hp h
      · rename_i hb; rw [if_neg hb]; exact hq h
    · rename_i heq; rw [heq]; exact hq h
    · cases h

/-- The names that are handed over. -/
def handN (s : St) (ds : List D) : List Nat := (reach s.ob (D.collL ds [])).filter fun i => (lk s.ob i).isSome

def nodupB : List Nat → Bool
  | [] => true
  | i :: r => !(r.contains i) && nodupB r

theorem nodupB_sound : ∀ {l : List Nat}, nodupB l = true → l.Nodup
  | [], _ => List.nodup_nil
  | i :: r, h => by
    simp only [nodupB, Bool.and_eq_true, Bool.not_eq_true'] at h
    refine List.nodup_cons.2 ⟨fun hm => ?_, nodupB_sound h.2⟩
    rw [List.contains_iff_mem.2 hm] at h; exact absurd h.1 (by simp)

theorem handN_some {s : St} {ds : List D} : ∀ i ∈ handN s ds, (lk s.ob i).isSome := fun i hi => by
  have := (List.mem_filter.1 hi).2
  simpa using this

abbrev CallF := D → List D → Obs → Option (D × Obs)

/-- The effect of an operation, worked out. -/
def hasE (cl : CallF) (fn : FuncId → List D → Option D) (b : Nat) (o : SOp) (s : St) : Option Eff :=
  match o with
  | .a dst g op xs => gudE g s (match evE fn (b + dst.getD 0) op (xs.map s.get) (lk s.ob) with
      | some (d, none) => some ⟨rdA (lk s.ob) op (xs.map s.get), dst.map (·, d), [], none⟩
      | some (d, some ob) => if dst.isSome then some ⟨rdA (lk s.ob) op (xs.map s.get), dst.map (·, d), [(b + dst.getD 0, some ob)], none⟩ else none
      | none => none) (some ⟨[], dst.map (·, .nov), [], none⟩)
  | .st g sz x y => gudE g s (match stO sz (s.get x) (s.get y) (lk s.ob) with
      | some (a, b, id, o) => if a < b then some ⟨[id], none, [(id, some o)], none⟩ else none
      | none => none) (some ⟨[], none, [], none⟩)
  | .app dst g fz sz et x y => gudE g s (match sliceOf (lk s.ob) (s.get y) with
      | some (ys, _) => if (ys.all fun q => q.length == sz) = true then (match s.get x with
        | .nils => if ys.length ≤ 1073741824 then some ⟨vids [s.get y], some (dst, .vec (b + dst)), [(b + dst, some (.arr fz sz et ys))], none⟩ else none
        | .vec id => match lk s.ob id with
          | some (.arr fz' sz' e' es) => if sz' = sz ∧ e' = et ∧ es.length + ys.length ≤ 1073741824 then some ⟨id :: vids [s.get y], some (dst, .vec (b + dst)), [(b + dst, some (.arr fz' sz et (es ++ ys))), (id, none)], none⟩ else none
          | _ => none
        | _ => none) else none
      | none => none) (some ⟨[], some (dst, .nov), [], none⟩)
  | .cd dst g x xs => gudE g s
      (let az := xs.map fun x => dva (lk s.ob) (s.get x)
       let nm := handN s (s.get x :: az)
       if nodupB nm = true then (match cl ((s.get x).ren (idx · nm)) (az.map (D.ren (idx · nm))) (handO s.ob (idx · nm) 0 nm) with
         | some (r, ob') => some ⟨nm ++ vids (xs.map s.get), dst.map (·, r.ren (bkN (s.base b) nm)), (renO (fun j => match nm[j]? with | some i => i | none => s.base b + j) (bkN (s.base b) nm) ob').map (fun p => (p.1, some p.2)) ++ nm.map (·, none), some (s.base b)⟩
         | none => none) else none)
      (some ⟨[], dst.map (·, .nov), [], none⟩)

theorem hasE_sound {P : Program} {cl : CallF} {fn : FuncId → List D → Option D} (hfn : ∀ f az r, fn f az = some r → FnOK P f az r) (hcl : ∀ d az ob r ob', cl d az ob = some (r, ob') → CallL P d az ob fun r0 ob0 => r0 = r ∧ ob0 = ob') {b : Nat} {o : SOp} {s : St} {e : Eff}
    (h : hasE cl fn b o s = some e) : Has P b o s e ∧ (∀ q, e.cd = some q → s.top ≤ q) := by
  have hcd : ∀ q, e.cd = some q → s.top ≤ q := by
    have key : ∀ {g : Option (Nat × Bool)} {body skip : Option Eff}, gudE g s body skip = some e → (body = some e → ∀ q, e.cd = some q → s.top ≤ q) → (skip = some e → e.cd = none) → ∀ q, e.cd = some q → s.top ≤ q := fun {g body skip} h h1 h2 => by
      have := gudE_sound h (p := ∀ q, e.cd = some q → s.top ≤ q) (q := e.cd = none) h1 h2
      cases g with
      | none => exact this
      | some gw =>
        obtain ⟨t, w⟩ := gw
        simp only [gud] at this
        split at this
        · split at this
          · exact this
          · intro q hq; rw [this] at hq; cases hq
        · intro q hq; rw [this] at hq; cases hq
        · exact this.elim
    cases o with
    | a dst g op xs =>
      refine key h (fun hb q hq => ?_) (fun hs => by cases hs; rfl)
      split at hb
      · cases hb; cases hq
      · split at hb
        · cases hb; cases hq
        · cases hb
      · cases hb
    | st g sz x y =>
      refine key h (fun hb q hq => ?_) (fun hs => by cases hs; rfl)
      split at hb
      · split at hb
        · cases hb; cases hq
        · cases hb
      · cases hb
    | app dst g fz sz et x y =>
      refine key h (fun hb q hq => ?_) (fun hs => by cases hs; rfl)
      split at hb
      · split at hb
        · split at hb
          · split at hb
            · cases hb; cases hq
            · cases hb
          · split at hb
            · split at hb
              · cases hb; cases hq
              · cases hb
            · cases hb
          · cases hb
        · cases hb
      · cases hb
    | cd dst g x xs =>
      refine key h (fun hb q hq => ?_) (fun hs => by cases hs; rfl)
      simp only at hb
      split at hb
      · split at hb
        · cases hb; cases hq; exact Nat.le_max_right _ _
        · cases hb
      · cases hb
  refine ⟨?_, hcd⟩
  cases o with
  | a dst g op xs =>
    refine gudE_sound h (fun hb => ?_) (fun hs => by cases hs; rfl)
    split at hb
    · rename_i d hev
      cases hb
      exact ⟨rfl, rfl, evE_sound hfn hev ⟨rfl, rfl⟩⟩
    · rename_i d ob hev
      split at hb
      · rename_i hds
        cases hb
        exact ⟨rfl, rfl, evE_sound hfn hev ⟨rfl, hds, rfl⟩⟩
      · cases hb
    · cases hb
  | st g sz x y =>
    refine gudE_sound h (fun hb => ?_) (fun hs => by cases hs; rfl)
    simp only [HasB]
    split at hb
    · rename_i a1 b1 id ob hst
      split at hb
      · rename_i hc
        cases hb
        simp only [hst]
        exact ⟨hc, trivial⟩
      · cases hb
    · cases hb
  | app dst g fz sz et x y =>
    refine gudE_sound h (fun hb => ?_) (fun hs => by cases hs; rfl)
    simp only [HasB]
    split at hb
    · rename_i ys ext hso
      split at hb
      · rename_i hall
        simp only [hso]
        refine ⟨by simpa using hall, ?_⟩
        split at hb
        · rename_i hx
          split at hb
          · cases hb; simp only [hx]; exact ⟨by assumption, trivial⟩
          · cases hb
        · rename_i id hx
          split at hb
          · rename_i fz' sz' e' es hl
            split at hb
            · rename_i hc; cases hb; simp only [hx, hl]; exact ⟨hc.1, hc.2.1, hc.2.2, trivial⟩
            · cases hb
          · cases hb
        · cases hb
      · cases hb
    · cases hb
  | cd dst g x xs =>
    refine gudE_sound h (fun hb => ?_) (fun hs => by cases hs; rfl)
    simp only at hb
    split at hb
    · rename_i hnd
      split at hb
      · rename_i r ob' hc
        cases hb
        exact ⟨_, r, ob', _, nodupB_sound hnd, handN_some, Nat.le_max_left _ _, hcl _ _ _ _ _ hc, rfl⟩
      · cases hb
    · cases hb

/-- An operation, worked out: the state behind it. -/
def opE (cl : CallF) (fn : FuncId → List D → Option D) (b : Nat) (o : SOp) (s : St) : Option St :=
  match o with
  | .a dst g op xs => gudE g s (match evE fn (b + dst.getD 0) op (xs.map s.get) (lk s.ob) with
      | some (d, none) => some (s.put dst d)
      | some (d, some ob) => match dst with
        | some t => if s.clean (b + t) = true then some (s.put2 t (b + t) d ob) else none
        | none => none
      | none => none) (some (s.put dst .nov))
  | .st g sz x y => gudE g s (match stO sz (s.get x) (s.get y) (lk s.ob) with
      | some (a, b, id, o) => if a < b then some { s with ob := (id, o) :: eraseId id s.ob } else none
      | none => none) (some s)
  | .app dst g fz sz et x y => gudE g s (match sliceOf (lk s.ob) (s.get y) with
      | some (ys, _) => if (ys.all fun q => q.length == sz) = true then (match s.get x with
        | .nils => if ys.length ≤ 1073741824 ∧ s.clean (b + dst) = true then some (s.put2 dst (b + dst) (.vec (b + dst)) (.arr fz sz et ys)) else none
        | .vec id => match lk s.ob id with
          | some (.arr fz' sz' e' es) => if sz' = sz ∧ e' = et ∧ es.length + ys.length ≤ 1073741824 ∧ s.clean (b + dst) = true then some (St.put2 ⟨s.tm, eraseId id s.ob⟩ dst (b + dst) (.vec (b + dst)) (.arr fz' sz et (es ++ ys))) else none
          | _ => none
        | _ => none) else none
      | none => none) (some (s.put (some dst) .nov))
  | .cd dst g x xs => gudE g s
      (let az := xs.map fun x => dva (lk s.ob) (s.get x)
       let nm := handN s (s.get x :: az)
       if nodupB nm = true then (match cl ((s.get x).ren (idx · nm)) (az.map (D.ren (idx · nm))) (handO s.ob (idx · nm) 0 nm) with
         | some (r, ob') => some ((s.back (s.base b) nm ob').put dst (r.ren (bkN (s.base b) nm)))
         | none => none) else none)
      (some (s.put dst .nov))

theorem opE_sound {P : Program} {cl : CallF} {fn : FuncId → List D → Option D} (hfn : ∀ f az r, fn f az = some r → FnOK P f az r) (hcl : ∀ d az ob r ob', cl d az ob = some (r, ob') → CallL P d az ob fun r0 ob0 => r0 = r ∧ ob0 = ob') {b : Nat} {o : SOp} {s s' : St} {K : St → Prop}
    (h : opE cl fn b o s = some s') (hk : K s') : stp P b o s K := by
  cases o with
  | a dst g op xs =>
    refine gudE_sound h (fun hb => ?_) (fun hs => by cases hs; exact hk)
    split at hb
    · rename_i d hev
      cases hb
      exact evE_sound hfn hev hk
    · rename_i d ob hev
      split at hb
      · split at hb
        · rename_i hcl'
          cases hb
          exact evE_sound hfn hev ⟨hcl', hk⟩
        · cases hb
      · cases hb
    · cases hb
  | st g sz x y =>
    refine gudE_sound h (fun hb => ?_) (fun hs => by cases hs; exact hk)
    split at hb
    · rename_i a1 b1 id ob hst
      split at hb
      · rename_i hc
        cases hb
        simp only [hst]
        exact ⟨hc, hk⟩
      · cases hb
    · cases hb
  | app dst g fz sz et x y =>
    refine gudE_sound h (fun hb => ?_) (fun hs => by cases hs; exact hk)
    split at hb
    · rename_i ys ext hso
      split at hb
      · rename_i hall
        simp only [hso]
        refine ⟨by simpa using hall, ?_⟩
        split at hb
        · rename_i hx
          split at hb
          · rename_i hc; cases hb; simp only [hx]; exact ⟨hc.1, hc.2, hk⟩
          · cases hb
        · rename_i id hx
          split at hb
          · rename_i fz' sz' e' es hl
            split at hb
            · rename_i hc; cases hb; simp only [hx, hl]; exact ⟨hc.1, hc.2.1, hc.2.2.1, hc.2.2.2, hk⟩
            · cases hb
          · cases hb
        · cases hb
      · cases hb
    · cases hb
  | cd dst g x xs =>
    refine gudE_sound h (fun hb => ?_) (fun hs => by cases hs; exact hk)
    simp only at hb
    split at hb
    · rename_i hnd
      split at hb
      · rename_i r ob' hc
        cases hb
        exact ⟨_, _, _, nodupB_sound hnd, handN_some, Nat.le_max_left _ _, Nat.le_max_right _ _, hcl _ _ _ _ _ hc, by rintro r0 ob0 ⟨rfl, rfl⟩; exact hk⟩
      · cases hb
    · cases hb

/-- Operations in their order, worked out. -/
def opsE (cl : CallF) (fn : FuncId → List D → Option D) (b : Nat) : List SOp → St → Option St
  | [], s => some s
  | o :: r, s => match opE cl fn b o s with
    | some s' => opsE cl fn b r s'
    | none => none

theorem opsE_sound {P : Program} {cl : CallF} {fn : FuncId → List D → Option D} (hfn : ∀ f az r, fn f az = some r → FnOK P f az r) (hcl : ∀ d az ob r ob', cl d az ob = some (r, ob') → CallL P d az ob fun r0 ob0 => r0 = r ∧ ob0 = ob') {b : Nat} :
    ∀ {ops : List SOp} {s s' : St} {K : St → Prop}, opsE cl fn b ops s = some s' → K s' → stps P b ops s K
  | [], s, s', K, h, hk => by cases h; exact hk
  | o :: r, s, s', K, h, hk => by
    simp only [opsE] at h
    split at h
    · rename_i s1 h1
      exact opE_sound hfn hcl h1 (opsE_sound hfn hcl h hk)
    · cases h

theorem stp_mono {P : Program} {b : Nat} {o : SOp} {s : St} {K K' : St → Prop} (h : stp P b o s K) (hk : ∀ s, K s → K' s) : stp P b o s K' := by
  cases o with
  | a dst g op xs =>
    refine gud_mono (fun hb => evl_mono hb fun d nb hq => ?_) (hk _) h
    cases nb with
    | none => exact hk _ hq
    | some ob => cases dst with
      | none => exact hq
      | some t => exact ⟨hq.1, hk _ hq.2⟩
  | st g sz x y =>
    refine gud_mono (fun hb => ?_) (hk _) h
    split at hb
    · exact ⟨hb.1, hk _ hb.2⟩
    · exact hb.elim
  | app dst g fz sz e x y =>
    refine gud_mono (fun hb => ?_) (hk _) h
    split at hb
    · rename_i ys ext hso
      refine ⟨hb.1, ?_⟩
      have h2 := hb.2
      split at h2
      · exact ⟨h2.1, h2.2.1, hk _ h2.2.2⟩
      · rename_i id hx
        split at h2
        · exact ⟨h2.1, h2.2.1, h2.2.2.1, h2.2.2.2.1, hk _ h2.2.2.2.2⟩
        · exact h2.elim
      · exact h2.elim
    · exact hb.elim
  | cd dst g x xs =>
    refine gud_mono (fun hb => ?_) (hk _) h
    obtain ⟨nm, R, base, h1, h2, h3, h4, h5, h6⟩ := hb
    exact ⟨nm, R, base, h1, h2, h3, h4, h5, fun r ob' hr => hk _ (h6 r ob' hr)⟩

theorem stps_mono {P : Program} {b : Nat} : ∀ {ops : List SOp} {s : St} {K K' : St → Prop}, stps P b ops s K → (∀ s, K s → K' s) → stps P b ops s K'
  | [], _, _, _, h, hk => hk _ h
  | o :: r, _, _, _, h, hk => stp_mono (o := o) h fun _ hs => stps_mono (ops := r) hs hk

/-- The same, with the effects. -/
def canE (cl : CallF) (fn : FuncId → List D → Option D) (b : Nat) : List SOp → St → Option (List Eff × St)
  | [], s => some ([], s)
  | o :: r, s => match hasE cl fn b o s with
    | some e => match canE cl fn b r (s.app e) with
      | some (es, s') => some (e :: es, s')
      | none => none
    | none => none

theorem canE_sound {P : Program} {cl : CallF} {fn : FuncId → List D → Option D} (hfn : ∀ f az r, fn f az = some r → FnOK P f az r) (hcl : ∀ d az ob r ob', cl d az ob = some (r, ob') → CallL P d az ob fun r0 ob0 => r0 = r ∧ ob0 = ob') {b : Nat} :
    ∀ {ops : List SOp} {s s' : St} {es : List Eff}, canE cl fn b ops s = some (es, s') → Canon P b ops s es s'
  | [], s, s', es, h => by simp only [canE, Option.some.injEq, Prod.mk.injEq] at h; obtain ⟨rfl, rfl⟩ := h; rfl
  | o :: r, s, s', es, h => by
    simp only [canE] at h
    split at h
    · rename_i e he
      split at h
      · rename_i es' s'' hc
        simp only [Option.some.injEq, Prod.mk.injEq] at h
        obtain ⟨rfl, rfl⟩ := h
        exact ⟨(hasE_sound hfn hcl he).1, canE_sound hfn hcl hc⟩
      · cases h
    · cases h

end Go.Sx

namespace Go.Sx
open Go.RowKit
variable [Globs] [Codes]

theorem sw_mono {P : Program} {bs : Nat} : ∀ {c : SC} {s : St} {Q Q' : Exit → St → Prop}, sw P bs c Q s → (∀ e s, Q e s → Q' e s) → sw P bs c Q' s := by
  intro c
  induction c with
  | skip => intro s Q Q' h hq; exact hq _ _ h
  | ret => intro s Q Q' h hq; exact hq _ _ h
  | exit id => intro s Q Q' h hq; exact hq _ _ h
  | reg ops => intro s Q Q' h hq; exact stps_mono h fun s => hq _ s
  | drw pre ops => intro s Q Q' h hq; obtain ⟨es, s', h1, h2, h3⟩ := h; exact ⟨es, s', h1, h2, hq _ _ h3⟩
  | seq a b iha ihb =>
    intro s Q Q' h hq
    refine iha h fun e s he => ?_
    cases e <;> first | exact ihb he hq | exact hq _ _ he
  | cond x a b iha ihb =>
    intro s Q Q' h hq
    simp only [sw] at h ⊢
    split at h
    · split at h
      · rename_i ht; rw [if_pos ht]; exact iha h hq
      · rename_i ht; rw [if_neg ht]; exact ihb h hq
    · exact h.elim
  | block id c ih =>
    intro s Q Q' h hq
    refine ih h fun e s he => ?_
    cases e <;> try exact hq _ _ he
    rename_i i
    simp only [inBlockS] at he ⊢
    split at he
    · rename_i hi; rw [if_pos hi]; exact hq _ _ he
    · rename_i hi; rw [if_neg hi]; exact hq _ _ he
  | loop ts c ih =>
    intro s Q Q' h hq
    obtain ⟨ts', Inv, h1, h2⟩ := h
    refine ⟨ts', Inv, h1, fun k s' hi => ih (h2 k s' hi) fun e s he => ?_⟩
    cases e <;> first | exact he | exact hq _ _ he
  | rangeF N g ps a b _ _ =>
    intro s Q Q' h hq
    obtain ⟨nm, R, h1, h2, h3, h4, h5⟩ := h
    refine ⟨nm, R, h1, h2, h3, h4, fun r ob' hr => ?_⟩
    obtain ⟨st, pend, ps', asg, body, N', keys, ds, q1, q2, q3⟩ := h5 r ob' hr
    refine ⟨st, pend, ps', asg, body, N', keys, ds, q1, q2, ?_⟩
    split at q3
    · exact hq _ _ q3
    · exact hq _ _ q3
    · exact hq _ _ q3
    · exact q3.elim

inductive Fr where
  | sc (c : SC)
  | blk (id : Nat)

/-- What the program's functions are, what is known of some of them. -/
structure Tab where
  T : FuncId → Option (Nat × SC × List SR)
  C : FuncId → List D → Obs → Option (D × Obs)
  F : FuncId → List D → Option D := fun _ _ => none

structure Tab.OK (tab : Tab) (P : Program) : Prop where
  T : ∀ f N sc rs, tab.T f = some (N, sc, rs) → FnC P f N sc rs ∧ pureF P f = true
  C : ∀ f az ob r ob', tab.C f az ob = some (r, ob') → pureF P f = true ∧ CallL P (.func (.func f) [] []) az ob fun r0 ob0 => r0 = r ∧ ob0 = ob'
  F : ∀ f az r, tab.F f az = some r → FnOK P f az r

abbrev GoF := Nat → List Fr → St → Option (Exit × St)

def finB : Exit → Bool
  | .normal => true
  | .ret => true
  | _ => false

def pendE : Exit → Option (Option Code)
  | .normal => some none
  | .ret => some (some .ret)
  | .exit i => some (some (.exit i))
  | _ => none

def callE (tab : Tab) (g : GoF) : CallF := fun d args ob => match d with
  | .func (.func f) first caps => match tab.C f (first ++ args ++ caps) ob with
    | some x => some x
    | none => match tab.T f with
      | some (N, sc, rs) => if (first ++ args ++ caps).length ≤ N then
          (match g (Obs.top ob) [.sc sc] ⟨envOf 0 (first ++ args ++ caps), ob⟩ with
          | some (e, s) => if finB e = true then (match rs.mapM (resD s) with
            | some ds => some ((s.fin (Obs.top ob) (packD ds)).get (.t 0), (s.fin (Obs.top ob) (packD ds)).ob)
            | none => none) else none
          | none => none) else none
      | none => none
  | .yld rid => match lk ob rid with
    | some (.gen (.loop .ready none ps a b N keys) ds) => if ps.size = args.length ∧ (ps.toList.all fun t => decide (t < N)) = true then
        (match g (Obs.top ob) [.sc a] ⟨putP (ps.toList.zip args) (keys.zip ds), eraseId rid ob⟩ with
        | some (.normal, s1) => match g (Obs.top ob) [.sc b] s1 with
          | some (e, s2) => match pendE e with
            | some pend => if (lk s2.ob rid).isNone = true then some (.bool pend.isNone, (rid, .gen (.loop (if pend.isNone then .ready else .done) pend ps a b N keys) ds) :: (s2.canon (Obs.top ob) []).ob) else none
            | none => none
          | none => none
        | _ => none) else none
    | _ => none
  | _ => none

def retE (r : D) (ob : Obs) : Option D := match r with
  | .vec id => match lk ob id with
    | some (.arr true sz e es) => some (.own sz e es)
    | _ => none
  | r => if D.clo (dvt (lk ob) r) = true then some (dvt (lk ob) r) else none

def fnE (tab : Tab) (g : GoF) : FuncId → List D → Option D := fun f args => match tab.F f args with
  | some r => some r
  | none => match callE tab g (.func (.func f) [] []) args [] with
    | some (r, ob) => retE r ob
    | none => none

def popTo (i : Nat) : List Fr → Option (List Fr)
  | [] => none
  | .blk j :: K => if i = j then some K else popTo i K
  | .sc _ :: K => popTo i K

/-- The record of a loop, laid. -/
def rngS (P : Program) (s : St) (rid N : Nat) (ps : Array Tmp) (a b : SC) : Obs := (rid, recd P .ready none N ps a b s.tm) :: s.ob

def goStep (P : Program) (tab : Tab) (ih : GoF) : GoF := fun bs K s => match K with
  | [] => some (.normal, s)
  | .blk _ :: K => ih bs K s
  | .sc c :: K => match c with
    | .skip => ih bs K s
    | .ret => some (.ret, s)
    | .exit i => match popTo i K with
      | some K' => ih bs K' s
      | none => some (.exit i, s)
    | .reg ops => match opsE (callE tab ih) (fnE tab ih) (s.nx bs) ops s with
      | some s' => ih bs K s'
      | none => none
    | .drw pre ops => match canE (callE tab ih) (fnE tab ih) (s.nx bs) ops s with
      | some (es, s') => if dchk (s.nx bs) pre ops es s = true then ih bs K s' else none
      | none => none
    | .seq a b => ih bs (.sc a :: .sc b :: K) s
    | .cond x a b => match s.get x with
      | .bool t => ih bs (.sc (if t then a else b) :: K) s
      | _ => none
    | .block id c => ih bs (.sc c :: .blk id :: K) s
    | .loop ts c => ih bs (.sc c :: .sc (.loop ts c) :: K) (s.canon bs ts)
    | .rangeF N g ps a b =>
      let ob1 := rngS P s (s.nx bs) N ps a b
      let nm := handN ⟨s.tm, ob1⟩ [s.get g, .yld (s.nx bs)]
      match s.get g with
      | .func (.func f) fa fc => if nodupB nm = true ∧ ((tab.T f).isSome = true) then
          (match callE tab ih ((s.get g).ren (idx · nm)) [(D.yld (s.nx bs)).ren (idx · nm)] (handO ob1 (idx · nm) 0 nm) with
          | some (r, ob') =>
            let S := St.back ⟨s.tm, ob1⟩ (s.nx bs + 1) nm ob'
            match lk S.ob (s.nx bs) with
            | some (.gen (.loop st pend _ _ _ _ _) _) => if st = .busy then none else (match pend with
              | none => ih bs K ⟨s.tm, eraseId (s.nx bs) S.ob⟩
              | some .ret => some (.ret, ⟨s.tm, eraseId (s.nx bs) S.ob⟩)
              | some (.exit i) => match popTo i K with
                | some K' => ih bs K' ⟨s.tm, eraseId (s.nx bs) S.ob⟩
                | none => some (.exit i, ⟨s.tm, eraseId (s.nx bs) S.ob⟩)
              | _ => none)
            | _ => none
          | none => none) else none
      | _ => none

def go (P : Program) (tab : Tab) (n : Nat) : GoF := Nat.rec (fun _ _ _ => none) (fun _ ih => goStep P tab ih) n

theorem go_succ (P : Program) (tab : Tab) (n : Nat) : go P tab (n + 1) = goStep P tab (go P tab n) := rfl
theorem go_zero (P : Program) (tab : Tab) (bs : Nat) (K : List Fr) (s : St) : go P tab 0 bs K s = none := rfl

section
variable {P : Program} {tab : Tab}

def resume (P : Program) (tab : Tab) (m bs : Nat) (K : List Fr) (ex : Exit) (s : St) (out : Exit × St) : Prop := match ex with
  | .normal => go P tab m bs K s = some out
  | .ret => out = (.ret, s)
  | .exit i => match popTo i K with
    | some K' => go P tab m bs K' s = some out
    | none => out = (.exit i, s)
  | _ => False

theorem CallL.split {f : FuncId} (hp : pureF P f = true) {first args caps : List D} {ob : Obs} {R : D → Obs → Prop} (h : CallL P (.func (.func f) [] []) (first ++ args ++ caps) ob R) : CallL P (.func (.func f) first caps) args ob R := by
  intro F hF n φ hh w v vs hl hv hvs
  obtain ⟨va, vc, rfl, ha, hc, ha', hc'⟩ := Sx.func_inv hv
  rw [run_callv_func hp]
  have hall : RVL φ hh (va ++ vs ++ vc).toList (first ++ args ++ caps) := by
    rw [Array.toList_append, Array.toList_append]
    exact RVL_append (RVL_append (RVL_of_get _ _ (by simpa using ha) fun j d hd => by have := ha' j d hd; simpa [Array.getD_eq_getD_getElem?, List.getD] using this) hvs)
      (RVL_of_get _ _ (by simpa using hc) fun j d hd => by have := hc' j d hd; simpa [Array.getD_eq_getD_getElem?, List.getD] using this)
  have := h F hF n φ hh w (.func (.func f) #[] #[]) (va ++ vs ++ vc) hl (.func _ _ _ _ _ rfl rfl (by simp) (by simp)) hall
  rw [run_callv_func hp] at this
  simpa using this

/-- What is worked out holds of the calls. -/
theorem callE_sound [CodesOf P] (hdraw : DrawSound P) (htab : tab.OK P) {n : Nat}
    (hgo : ∀ bs c s out, go P tab n bs [.sc c] s = some out → sw P bs c (fun ex s1 => ∃ m, m < n ∧ resume P tab m bs [] ex s1 out) s) :
    ∀ d az ob r ob', callE tab (go P tab n) d az ob = some (r, ob') → CallL P d az ob fun r0 ob0 => r0 = r ∧ ob0 = ob' := by
  have hnil : ∀ {m bs : Nat} {s : St} {out : Exit × St}, go P tab m bs [] s = some out → out = (.normal, s) := fun {m bs s out} h => by
    cases m with
    | zero => cases h
    | succ m => rw [go_succ] at h; simp only [goStep, Option.some.injEq] at h; exact h.symm
  have hres : ∀ {m bs : Nat} {ex : Exit} {s : St} {out : Exit × St}, resume P tab m bs [] ex s out → out = (ex, s) := fun {m bs ex s out} h => by
    cases ex <;> simp only [resume, popTo] at h
    · exact hnil h
    · exact h
    · exact h
  intro d az ob r ob' h
  unfold callE at h
  split at h
  · rename_i f first caps
    split at h
    · rename_i x hC
      cases h
      obtain ⟨hp, hc⟩ := htab.C f _ ob r ob' hC
      exact hc.split hp
    · split at h
      · rename_i N sc rs hT
        obtain ⟨hf, hp⟩ := htab.T f N sc rs hT
        split at h
        · rename_i hlen
          split at h
          · rename_i e s hg
            split at h
            · rename_i hfin
              split at h
              · rename_i ds hds
                simp only [Option.some.injEq, Prod.mk.injEq] at h
                obtain ⟨rfl, rfl⟩ := h
                refine CallL.fn hdraw hf hp (Obs.top ob) (Nat.le_refl _) hlen (sw_mono (hgo _ _ _ _ hg) fun ex s1 ⟨m, _, hr⟩ => ?_)
                have := hres hr
                simp only [Prod.mk.injEq] at this
                obtain ⟨rfl, rfl⟩ := this
                cases e <;> first | exact ⟨ds, hds, rfl, rfl⟩ | cases hfin
              · cases h
            · cases h
          · cases h
        · cases h
      · cases h
  · rename_i rid
    split at h
    · rename_i ps a b N keys ds hrec
      split at h
      · rename_i hc
        split at h
        · rename_i s1 hg1
          split at h
          · rename_i e s2 hg2
            split at h
            · rename_i pend hpe
              split at h
              · rename_i hn
                simp only [Option.some.injEq, Prod.mk.injEq] at h
                obtain ⟨rfl, rfl⟩ := h
                refine CallL.yld hdraw (Obs.top ob) (Nat.le_refl _) hrec hc.1 (fun t ht => by simpa using List.all_eq_true.1 hc.2 t ht) (sw_mono (hgo _ _ _ _ hg1) fun ex s ⟨m, _, hr⟩ => ?_)
                have := hres hr
                simp only [Prod.mk.injEq] at this
                obtain ⟨rfl, rfl⟩ := this
                refine sw_mono (hgo _ _ _ _ hg2) fun ex s ⟨m, _, hr⟩ => ?_
                have := hres hr
                simp only [Prod.mk.injEq] at this
                obtain ⟨rfl, rfl⟩ := this
                refine ⟨by simpa using hn, ?_⟩
                cases e <;> simp only [pendE, Option.some.injEq, reduceCtorEq] at hpe <;> (subst hpe; exact ⟨rfl, rfl⟩)
              · cases h
            · cases h
          · cases h
        · cases h
      · cases h
    · cases h
  · cases h

theorem fnE_sound {g : GoF} (htab : tab.OK P) (hpf : ∀ f, (tab.T f).isSome = true → pureF P f = true) (hcl : ∀ d az ob r ob', callE tab g d az ob = some (r, ob') → CallL P d az ob fun r0 ob0 => r0 = r ∧ ob0 = ob') :
    ∀ f az r, fnE tab g f az = some r → FnOK P f az r := by
  intro f az r h
  unfold fnE at h
  split at h
  · rename_i r0 hF
    cases h
    exact htab.F _ _ _ hF
  split at h
  · rename_i r0 ob hc
    have hp : pureF P f = true := by
      unfold callE at hc
      simp only at hc
      split at hc
      · rename_i x hC; exact (htab.C f _ _ x.1 x.2 hC).1
      · split at hc
        · rename_i N sc rs hT; exact (htab.T f N sc rs hT).2
        · cases hc
    refine FnOK.of_call hp ((hcl _ _ _ _ _ hc).mono ?_)
    rintro r1 ob1 ⟨rfl, rfl⟩
    unfold retE at h
    split at h
    · rename_i id
      split at h
      · rename_i sz e es hl
        cases h
        exact .inl ⟨id, sz, e, es, rfl, hl, rfl⟩
      · cases h
    · split at h
      · rename_i hclo
        cases h
        exact .inr ⟨hclo, rfl⟩
      · cases h
  · cases h

theorem go_sound [CodesOf P] (hdraw : DrawSound P) (htab : tab.OK P) : ∀ (n bs : Nat) (c : SC) (K : List Fr) (s : St) (out : Exit × St), go P tab n bs (.sc c :: K) s = some out → sw P bs c (fun ex s1 => ∃ m, m < n ∧ resume P tab m bs K ex s1 out) s := by
  intro n
  induction n using Nat.strongRecOn with
  | _ n ih =>
    intro bs c K s out h
    cases n with
    | zero => cases h
    | succ n =>
      have hcl := callE_sound (n := n) hdraw htab fun bs c s out h => ih n (Nat.lt_succ_self n) bs c [] s out h
      have hfn := fnE_sound (g := go P tab n) htab (fun f hf => by
        obtain ⟨x, hx⟩ := Option.isSome_iff_exists.1 hf
        exact (htab.T f x.1 x.2.1 x.2.2 hx).2) hcl
      rw [go_succ] at h
      cases c with
      | skip => exact ⟨n, Nat.lt_succ_self n, h⟩
      | ret => simp only [goStep, Option.some.injEq] at h; exact ⟨n, Nat.lt_succ_self n, h.symm⟩
      | exit i =>
        refine ⟨n, Nat.lt_succ_self n, ?_⟩
        simp only [goStep] at h
        simp only [resume]
        split at h
        · exact h
        · simp only [Option.some.injEq] at h; exact h.symm
      | reg ops =>
        simp only [goStep] at h
        split at h
        · rename_i s' ho
          exact opsE_sound hfn hcl ho ⟨n, Nat.lt_succ_self n, h⟩
        · cases h
      | drw pre ops =>
        simp only [goStep] at h
        split at h
        · rename_i es s' ho
          split at h
          · rename_i hd
            exact ⟨es, s', canE_sound hfn hcl ho, hd, n, Nat.lt_succ_self n, h⟩
          · cases h
        · cases h
      | seq a b =>
        show sw P bs a (thenS (sw P bs b _) _) s
        refine sw_mono (ih n (Nat.lt_succ_self n) bs a _ s out h) fun ex s1 ⟨m, hm, hr⟩ => ?_
        cases ex <;> simp only [thenS]
        · exact sw_mono (ih m (by omega) bs b K s1 out hr) fun ex s2 ⟨m', hm', hr'⟩ => ⟨m', by omega, hr'⟩
        · exact ⟨m, by omega, hr⟩
        · exact hr.elim
        · exact ⟨m, by omega, hr⟩
        all_goals exact hr.elim
      | cond x a b =>
        simp only [goStep] at h
        simp only [sw]
        split at h
        · rename_i t hx
          rw [hx]
          simp only
          cases t
          · rw [if_neg (by simp)]
            exact sw_mono (ih n (Nat.lt_succ_self n) bs b K s out h) fun ex s1 ⟨m, hm, hr⟩ => ⟨m, by omega, hr⟩
          · rw [if_pos rfl]
            exact sw_mono (ih n (Nat.lt_succ_self n) bs a K s out h) fun ex s1 ⟨m, hm, hr⟩ => ⟨m, by omega, hr⟩
        · cases h
      | block id c =>
        show sw P bs c (inBlockS id _) s
        refine sw_mono (ih n (Nat.lt_succ_self n) bs c _ s out h) fun ex s1 ⟨m, hm, hr⟩ => ?_
        cases ex <;> simp only [inBlockS]
        · cases m with
          | zero => cases hr
          | succ m => exact ⟨m, by omega, hr⟩
        · rename_i i
          simp only [resume, popTo] at hr
          split
          · rename_i hi; rw [if_pos hi] at hr; exact ⟨m, by omega, hr⟩
          · rename_i hi; rw [if_neg hi] at hr; exact ⟨m, by omega, hr⟩
        · exact hr.elim
        · exact ⟨m, by omega, hr⟩
        all_goals exact hr.elim
      | loop ts c =>
        refine ⟨ts, fun k s' => k ≤ n ∧ go P tab k bs (.sc c :: .sc (.loop ts c) :: K) s' = some out, ⟨n, Nat.le_refl _, h⟩, fun k s' hk => ?_⟩
        refine sw_mono (ih k (by omega) bs c _ s' out hk.2) fun ex s1 ⟨m, hm, hr⟩ => ?_
        cases ex <;> simp only [thenS]
        · cases m with
          | zero => cases hr
          | succ m => exact ⟨m, by omega, by omega, hr⟩
        · exact ⟨m, by omega, hr⟩
        · exact hr.elim
        · exact ⟨m, by omega, hr⟩
        all_goals exact hr.elim
      | rangeF N g ps a b =>
        simp only [goStep] at h
        split at h
        · rename_i f fa fc hg
          split at h
          · rename_i hc
            split at h
            · rename_i r ob' hcall
              split at h
              · rename_i st pend _ _ _ _ _ _ hl
                split at h
                · cases h
                · rename_i hst
                  obtain ⟨x, hx⟩ := Option.isSome_iff_exists.1 hc.2
                  refine ⟨_, _, nodupB_sound hc.1, fun i hi => handN_some (s := ⟨s.tm, rngS P s (s.nx bs) N ps a b⟩) i hi, ⟨f, fa, fc, hg, (htab.T f x.1 x.2.1 x.2.2 hx).2⟩, hcl _ _ _ _ _ hcall, ?_⟩
                  rintro r0 ob0 ⟨rfl, rfl⟩
                  refine ⟨st, pend, _, _, _, _, _, _, hl, hst, ?_⟩
                  split at h
                  · exact ⟨n, Nat.lt_succ_self n, h⟩
                  · simp only [Option.some.injEq] at h; exact ⟨n, Nat.lt_succ_self n, h.symm⟩
                  · refine ⟨n, Nat.lt_succ_self n, ?_⟩
                    simp only [resume]
                    split at h
                    · exact h
                    · simp only [Option.some.injEq] at h; exact h.symm
                  · cases h
              · cases h
            · cases h
          · cases h
        · cases h

/-- A CLOSED RUN: worked out, it holds. -/
theorem callE_ok [CodesOf P] (hdraw : DrawSound P) (htab : tab.OK P) (n : Nat) {d : D} {az : List D} {ob : Obs} {r : D} {ob' : Obs} (h : callE tab (go P tab n) d az ob = some (r, ob')) : CallL P d az ob fun r0 ob0 => r0 = r ∧ ob0 = ob' :=
  callE_sound hdraw htab (fun bs c s out h => go_sound hdraw htab n bs c [] s out h) d az ob r ob' h

theorem fnE_ok [CodesOf P] (hdraw : DrawSound P) (htab : tab.OK P) (n : Nat) {f : FuncId} {az : List D} {r : D} (h : fnE tab (go P tab n) f az = some r) : FnOK P f az r :=
  fnE_sound htab (fun f hf => by
        obtain ⟨x, hx⟩ := Option.isSome_iff_exists.1 hf
        exact (htab.T f x.1 x.2.1 x.2.2 hx).2) (fun _ _ _ _ _ h => callE_ok hdraw htab n h) f az r h

end
end Go.Sx

namespace Go.Sx
open Go.RowKit
variable [Globs] [Codes]

/- THE WALK OVER DATA THAT IS NOT KNOWN: a script of answers; what they owe is gathered. -/

/-- Answers: a value (a truth, a call's result), the cells of an element, what a loop leaves, what a call with objects leaves. -/
inductive An where
  | d (d : D)
  | c (cs : List D)
  | s (e : Exit) (s : St)
  | k (r : D) (ob : Obs)

/-- What is owed. -/
def AllP : List Prop → Prop
  | [] => True
  | p :: r => p ∧ AllP r

theorem AllP_append {a b : List Prop} (h : AllP (a ++ b)) : AllP a ∧ AllP b := by
  induction a with
  | nil => exact ⟨trivial, h⟩
  | cons p a ih => exact ⟨⟨h.1, (ih h.2).1⟩, (ih h.2).2⟩

def iaS (sz : Nat) (es : List (List D)) (n : Int) (r : List An) : Option (List Prop × (D × Option Ob) × List An) := match r with
  | .c cs :: r => if cs.length = sz then some ([0 ≤ n, es[n.toNat]? = some cs], (.fptr cs, none), r) else none
  | _ => none

def evS (P : Program) (dst : Nat) (o : AOp) (xs : List D) (obs : Nat → Option Ob) (r : List An) : Option (List Prop × (D × Option Ob) × List An) :=
  match o, xs with
  | .pick, [c, a, b] => match r with
    | .d (.bool true) :: r => some ([c = .bool true], (a, none), r)
    | .d (.bool false) :: r => some ([c = .bool false], (b, none), r)
    | _ => none
  | .bin .add, [.str a, .str b] => some ([a.length + b.length ≤ 4611686018427387904], (.str (a ++ b), none), r)
  | .iaddr sz, [.slice es _, .int _ n] => iaS sz es n r
  | .iaddr sz, [.vec id, .int _ n] => match obs id with
    | some (.arr true _ _ es) => iaS sz es n r
    | _ => none
  | .index, [.str s, .int _ n] => some ([0 ≤ n, n < s.length], (.int .u8 (s.getD n.toNat 0).toNat, none), r)
  | .sliceS lo hi, .str s :: bs => match bounds lo hi s.length bs with
    | some (a, b) => some ([0 ≤ a, a ≤ b, b ≤ s.length], (.str ((s.take b.toNat).drop a.toNat), none), r)
    | none => none
  | .slice sz lo hi, d :: bs => match sliceOf obs d with
    | some (es, ext) => match bounds lo hi es.length bs with
      | some (a, b) => some ([((es ++ ext).all fun q => q.length == sz) = true, 0 ≤ a, a ≤ b, b ≤ (es ++ ext).length], (.slice (((es ++ ext).take b.toNat).drop a.toNat) ((es ++ ext).drop b.toNat), none), r)
      | none => none
    | none => none
  | .call f, ds => match r with
    | .d res :: r => some ([FnOK P f (ds.map (dv obs)) res], callR dst res, r)
    | _ => none
  | o, xs => match evE (fun _ _ => none) dst o xs obs with
    | some x => some ([], x, r)
    | none => none

section
variable {P : Program} {dst : Nat} {obs : Nat → Option Ob} {K : D → Option Ob → Prop}

theorem iaS_sound {sz : Nat} {es : List (List D)} {n : Int} {r r' : List An} {C : List Prop} {d : D} {nb : Option Ob} (h : iaS sz es n r = some (C, (d, nb), r')) (hC : AllP C) (hk : K d nb) :
    0 ≤ n ∧ n < es.length ∧ (es.getD n.toNat []).length = sz ∧ K (.fptr (es.getD n.toNat [])) none := by
  unfold iaS at h
  split at h
  · split at h
    · rename_i cs r0 hl
      simp only [Option.some.injEq, Prod.mk.injEq] at h
      obtain ⟨rfl, ⟨rfl, rfl⟩, rfl⟩ := h
      obtain ⟨h1, h2, _⟩ := hC
      have h3 : n.toNat < es.length := by
        rcases Nat.lt_or_ge n.toNat es.length with h | h
        · exact h
        · rw [List.getElem?_eq_none h] at h2; cases h2
      have h4 : es.getD n.toNat [] = cs := by simp [h2]
      rw [h4]
      exact ⟨h1, by omega, hl, hk⟩
    · cases h
  · cases h

theorem evS_sound {op : AOp} {xs : List D} {r r' : List An} {C : List Prop} {d : D} {nb : Option Ob} (h : evS P dst op xs obs r = some (C, (d, nb), r')) (hC : AllP C) (hk : K d nb) : evl P dst op xs obs K := by
  unfold evS at h
  split at h
  · split at h
    · simp only [Option.some.injEq, Prod.mk.injEq] at h; obtain ⟨rfl, ⟨rfl, rfl⟩, rfl⟩ := h; rw [hC.1]; exact hk
    · simp only [Option.some.injEq, Prod.mk.injEq] at h; obtain ⟨rfl, ⟨rfl, rfl⟩, rfl⟩ := h; rw [hC.1]; exact hk
    · cases h
  · simp only [Option.some.injEq, Prod.mk.injEq] at h; obtain ⟨rfl, ⟨rfl, rfl⟩, rfl⟩ := h; exact ⟨hC.1, hk⟩
  · exact iaS_sound h hC hk
  · split at h
    · rename_i hl
      simp only [evl, hl]
      exact iaS_sound h hC hk
    · cases h
  · simp only [Option.some.injEq, Prod.mk.injEq] at h; obtain ⟨rfl, ⟨rfl, rfl⟩, rfl⟩ := h; exact ⟨hC.1, hC.2.1, hk⟩
  · split at h
    · rename_i hb
      simp only [Option.some.injEq, Prod.mk.injEq] at h; obtain ⟨rfl, ⟨rfl, rfl⟩, rfl⟩ := h
      simp only [evl, hb]
      exact ⟨hC.1, hC.2.1, hC.2.2.1, hk⟩
    · cases h
  · split at h
    · rename_i hs
      split at h
      · rename_i hb
        simp only [Option.some.injEq, Prod.mk.injEq] at h; obtain ⟨rfl, ⟨rfl, rfl⟩, rfl⟩ := h
        simp only [evl, hs, hb]
        exact ⟨by have := hC.1; simp only [List.all_eq_true, beq_iff_eq] at this; exact this, hC.2.1, hC.2.2.1, hC.2.2.2.1, hk⟩
      · cases h
    · cases h
  · split at h
    · rename_i res r0
      simp only [Option.some.injEq, Prod.mk.injEq] at h
      obtain ⟨rfl, h2, rfl⟩ := h
      refine ⟨res, hC.1, ?_⟩
      cases res <;> (simp only [callR, Prod.mk.injEq] at h2; obtain ⟨rfl, rfl⟩ := h2; exact hk)
    · cases h
  · split at h
    · rename_i x hx
      simp only [Option.some.injEq, Prod.mk.injEq] at h
      obtain ⟨rfl, rfl, rfl⟩ := h
      exact evE_sound (fun _ _ _ h => by cases h) hx hk
    · cases h
end

/-- The guard, by its answer. -/
def gudS {α : Type} (g : Option (Nat × Bool)) (s : St) (r : List An) (body skip : List An → Option (List Prop × α × List An)) : Option (List Prop × α × List An) :=
  match g with
  | none => body r
  | some (t, want) => match lk s.tm t with
    | some (.bool b) => match r with
      | .d (.bool q) :: r => match (if q = want then body r else skip r) with
        | some (C, x, r) => some ((b = q) :: C, x, r)
        | none => none
      | _ => none
    | some (.tuple []) => skip r
    | _ => none

theorem gudS_sound {α : Type} {g : Option (Nat × Bool)} {s : St} {r r' : List An} {body skip : List An → Option (List Prop × α × List An)} {C : List Prop} {x : α} (h : gudS g s r body skip = some (C, x, r')) (hC : AllP C) {p q : Prop}
    (hp : ∀ r C', body r = some (C', x, r') → AllP C' → p) (hq : ∀ r C', skip r = some (C', x, r') → AllP C' → q) : gud g s p q := by
  cases g with
  | none => exact hp _ _ h hC
  | some gw =>
    obtain ⟨t, w⟩ := gw
    simp only [gudS] at h
    simp only [gud]
    split at h
    · rename_i b0 heq
      rw [heq]
      simp only
      split at h
      · rename_i qq r0
        split at h
        · rename_i C' x' r1 hif
          simp only [Option.some.injEq, Prod.mk.injEq] at h
          obtain ⟨rfl, rfl, rfl⟩ := h
          obtain ⟨rfl, hC'⟩ := hC
          split at hif
          · rename_i hb; rw [if_pos hb]; exact hp _ _ hif hC'
          · rename_i hb; rw [if_neg hb]; exact hq _ _ hif hC'
        · cases h
      · cases h
    · rename_i heq; rw [heq]; exact hq _ _ h hC
    · cases h

/-- An operation: what it owes, the state behind it. -/
def opS (P : Program) (b : Nat) (o : SOp) (s : St) (r : List An) : Option (List Prop × St × List An) :=
  match o with
  | .a dst g op xs => gudS g s r (fun r => match evS P (b + dst.getD 0) op (xs.map s.get) (lk s.ob) r with
      | some (C, (d, none), r) => some (C, s.put dst d, r)
      | some (C, (d, some ob), r) => match dst with
        | some t => if s.clean (b + t) = true then some (C, s.put2 t (b + t) d ob, r) else none
        | none => none
      | none => none) (fun r => some ([], s.put dst .nov, r))
  | .st g sz x y => gudS g s r (fun r => match stO sz (s.get x) (s.get y) (lk s.ob) with
      | some (a, b, id, o) => if a < b then some ([], { s with ob := (id, o) :: eraseId id s.ob }, r) else none
      | none => none) (fun r => some ([], s, r))
  | .app dst g fz sz et x y => gudS g s r (fun r => match sliceOf (lk s.ob) (s.get y) with
      | some (ys, _) => (match s.get x with
        | .nils => if s.clean (b + dst) = true then some ([(ys.all fun q => q.length == sz) = true, ys.length ≤ 1073741824], s.put2 dst (b + dst) (.vec (b + dst)) (.arr fz sz et ys), r) else none
        | .vec id => match lk s.ob id with
          | some (.arr fz' sz' e' es) => if sz' = sz ∧ e' = et ∧ s.clean (b + dst) = true then some ([(ys.all fun q => q.length == sz) = true, es.length + ys.length ≤ 1073741824], St.put2 ⟨s.tm, eraseId id s.ob⟩ dst (b + dst) (.vec (b + dst)) (.arr fz' sz et (es ++ ys)), r) else none
          | _ => none
        | _ => none)
      | none => none) (fun r => some ([], s.put (some dst) .nov, r))
  | .cd dst g x xs => gudS g s r
      (fun r => match r with
        | .k res ob' :: r =>
          let az := xs.map fun x => dva (lk s.ob) (s.get x)
          let nm := handN s (s.get x :: az)
          if nodupB nm = true then some ([CallL P ((s.get x).ren (idx · nm)) (az.map (D.ren (idx · nm))) (handO s.ob (idx · nm) 0 nm) (fun r0 ob0 => r0 = res ∧ ob0 = ob')],
            (s.back (s.base b) nm ob').put dst (res.ren (bkN (s.base b) nm)), r) else none
        | _ => none)
      (fun r => some ([], s.put dst .nov, r))

theorem opS_sound {P : Program} {b : Nat} {o : SOp} {s s' : St} {r r' : List An} {C : List Prop} {K : St → Prop}
    (h : opS P b o s r = some (C, s', r')) (hC : AllP C) (hk : K s') : stp P b o s K := by
  cases o with
  | a dst g op xs =>
    simp only [opS] at h
    refine gudS_sound h hC (fun r0 C0 hb hC0 => ?_) (fun r0 C0 hs _ => by cases hs; exact hk)
    split at hb
    · rename_i d r1 hev
      simp only [Option.some.injEq, Prod.mk.injEq] at hb; obtain ⟨rfl, rfl, rfl⟩ := hb
      exact evS_sound hev hC0 hk
    · rename_i d ob r1 hev
      split at hb
      · split at hb
        · rename_i hcl'
          simp only [Option.some.injEq, Prod.mk.injEq] at hb; obtain ⟨rfl, rfl, rfl⟩ := hb
          exact evS_sound hev hC0 ⟨hcl', hk⟩
        · cases hb
      · cases hb
    · cases hb
  | st g sz x y =>
    simp only [opS] at h
    refine gudS_sound h hC (fun r0 C0 hb hC0 => ?_) (fun r0 C0 hs _ => by cases hs; exact hk)
    split at hb
    · rename_i a1 b1 id ob hst
      split at hb
      · rename_i hc
        simp only [Option.some.injEq, Prod.mk.injEq] at hb; obtain ⟨rfl, rfl, rfl⟩ := hb
        simp only [hst]
        exact ⟨hc, hk⟩
      · cases hb
    · cases hb
  | app dst g fz sz et x y =>
    simp only [opS] at h
    refine gudS_sound h hC (fun r0 C0 hb hC0 => ?_) (fun r0 C0 hs _ => by cases hs; exact hk)
    split at hb
    · rename_i ys ext hso
      simp only [hso]
      split at hb
      · rename_i hx
        split at hb
        · rename_i hc
          simp only [Option.some.injEq, Prod.mk.injEq] at hb; obtain ⟨rfl, rfl, rfl⟩ := hb
          simp only [hx]
          exact ⟨by simpa using hC0.1, hC0.2.1, hc, hk⟩
        · cases hb
      · rename_i id hx
        split at hb
        · rename_i fz' sz' e' es hl
          split at hb
          · rename_i hc
            simp only [Option.some.injEq, Prod.mk.injEq] at hb; obtain ⟨rfl, rfl, rfl⟩ := hb
            simp only [hx, hl]
            exact ⟨by simpa using hC0.1, hc.1, hc.2.1, hC0.2.1, hc.2.2, hk⟩
          · cases hb
        · cases hb
      · cases hb
    · cases hb
  | cd dst g x xs =>
    simp only [opS] at h
    refine gudS_sound h hC (fun r0 C0 hb hC0 => ?_) (fun r0 C0 hs _ => by cases hs; exact hk)
    split at hb
    · rename_i res ob' r1
      split at hb
      · rename_i hnd
        simp only [Option.some.injEq, Prod.mk.injEq] at hb; obtain ⟨rfl, rfl, rfl⟩ := hb
        exact ⟨_, _, _, nodupB_sound hnd, handN_some, Nat.le_max_left _ _, Nat.le_max_right _ _, hC0.1, by rintro r0 ob0 ⟨rfl, rfl⟩; exact hk⟩
      · cases hb
    · cases hb

/-- The effect of an operation. -/
def hasS (P : Program) (b : Nat) (o : SOp) (s : St) (r : List An) : Option (List Prop × Eff × List An) :=
  match o with
  | .a dst g op xs => gudS g s r (fun r => match evS P (b + dst.getD 0) op (xs.map s.get) (lk s.ob) r with
      | some (C, (d, none), r) => some (C, ⟨rdA (lk s.ob) op (xs.map s.get), dst.map (·, d), [], none⟩, r)
      | some (C, (d, some ob), r) => if dst.isSome then some (C, ⟨rdA (lk s.ob) op (xs.map s.get), dst.map (·, d), [(b + dst.getD 0, some ob)], none⟩, r) else none
      | none => none) (fun r => some ([], ⟨[], dst.map (·, .nov), [], none⟩, r))
  | .st g sz x y => gudS g s r (fun r => match stO sz (s.get x) (s.get y) (lk s.ob) with
      | some (a, b, id, o) => if a < b then some ([], ⟨[id], none, [(id, some o)], none⟩, r) else none
      | none => none) (fun r => some ([], ⟨[], none, [], none⟩, r))
  | .app dst g fz sz et x y => gudS g s r (fun r => match sliceOf (lk s.ob) (s.get y) with
      | some (ys, _) => (match s.get x with
        | .nils => some ([(ys.all fun q => q.length == sz) = true, ys.length ≤ 1073741824], ⟨vids [s.get y], some (dst, .vec (b + dst)), [(b + dst, some (.arr fz sz et ys))], none⟩, r)
        | .vec id => match lk s.ob id with
          | some (.arr fz' sz' e' es) => if sz' = sz ∧ e' = et then some ([(ys.all fun q => q.length == sz) = true, es.length + ys.length ≤ 1073741824], ⟨id :: vids [s.get y], some (dst, .vec (b + dst)), [(b + dst, some (.arr fz' sz et (es ++ ys))), (id, none)], none⟩, r) else none
          | _ => none
        | _ => none)
      | none => none) (fun r => some ([], ⟨[], some (dst, .nov), [], none⟩, r))
  | .cd dst g x xs => gudS g s r
      (fun r => match r with
        | .k res ob' :: r =>
          let az := xs.map fun x => dva (lk s.ob) (s.get x)
          let nm := handN s (s.get x :: az)
          if nodupB nm = true then some ([CallL P ((s.get x).ren (idx · nm)) (az.map (D.ren (idx · nm))) (handO s.ob (idx · nm) 0 nm) (fun r0 ob0 => r0 = res ∧ ob0 = ob')],
            ⟨nm ++ vids (xs.map s.get), dst.map (·, res.ren (bkN (s.base b) nm)), (renO (fun j => match nm[j]? with | some i => i | none => s.base b + j) (bkN (s.base b) nm) ob').map (fun p => (p.1, some p.2)) ++ nm.map (·, none), some (s.base b)⟩, r) else none
        | _ => none)
      (fun r => some ([], ⟨[], dst.map (·, .nov), [], none⟩, r))

theorem hasS_sound {P : Program} {b : Nat} {o : SOp} {s : St} {r r' : List An} {C : List Prop} {e : Eff} (h : hasS P b o s r = some (C, e, r')) (hC : AllP C) : Has P b o s e := by
  cases o with
  | a dst g op xs =>
    simp only [hasS] at h
    refine gudS_sound h hC (fun r0 C0 hb hC0 => ?_) (fun r0 C0 hs _ => by cases hs; rfl)
    split at hb
    · rename_i d r1 hev
      simp only [Option.some.injEq, Prod.mk.injEq] at hb; obtain ⟨rfl, rfl, rfl⟩ := hb
      exact ⟨rfl, rfl, evS_sound hev hC0 ⟨rfl, rfl⟩⟩
    · rename_i d ob r1 hev
      split at hb
      · rename_i hds
        simp only [Option.some.injEq, Prod.mk.injEq] at hb; obtain ⟨rfl, rfl, rfl⟩ := hb
        exact ⟨rfl, rfl, evS_sound hev hC0 ⟨rfl, hds, rfl⟩⟩
      · cases hb
    · cases hb
  | st g sz x y =>
    simp only [hasS] at h
    refine gudS_sound h hC (fun r0 C0 hb hC0 => ?_) (fun r0 C0 hs _ => by cases hs; rfl)
    simp only [HasB]
    split at hb
    · rename_i a1 b1 id ob hst
      split at hb
      · rename_i hc
        simp only [Option.some.injEq, Prod.mk.injEq] at hb; obtain ⟨rfl, rfl, rfl⟩ := hb
        simp only [hst]
        exact ⟨hc, trivial⟩
      · cases hb
    · cases hb
  | app dst g fz sz et x y =>
    simp only [hasS] at h
    refine gudS_sound h hC (fun r0 C0 hb hC0 => ?_) (fun r0 C0 hs _ => by cases hs; rfl)
    simp only [HasB]
    split at hb
    · rename_i ys ext hso
      simp only [hso]
      split at hb
      · rename_i hx
        simp only [Option.some.injEq, Prod.mk.injEq] at hb; obtain ⟨rfl, rfl, rfl⟩ := hb
        simp only [hx]
        exact ⟨by simpa using hC0.1, hC0.2.1, trivial⟩
      · rename_i id hx
        split at hb
        · rename_i fz' sz' e' es hl
          split at hb
          · rename_i hc
            simp only [Option.some.injEq, Prod.mk.injEq] at hb; obtain ⟨rfl, rfl, rfl⟩ := hb
            simp only [hx, hl]
            exact ⟨by simpa using hC0.1, hc.1, hc.2, hC0.2.1, trivial⟩
          · cases hb
        · cases hb
      · cases hb
    · cases hb
  | cd dst g x xs =>
    simp only [hasS] at h
    refine gudS_sound h hC (fun r0 C0 hb hC0 => ?_) (fun r0 C0 hs _ => by cases hs; rfl)
    split at hb
    · rename_i res ob' r1
      split at hb
      · rename_i hnd
        simp only [Option.some.injEq, Prod.mk.injEq] at hb; obtain ⟨rfl, rfl, rfl⟩ := hb
        exact ⟨_, res, ob', _, nodupB_sound hnd, handN_some, Nat.le_max_left _ _, hC0.1, rfl⟩
      · cases hb
    · cases hb

def opsS (P : Program) (b : Nat) : List SOp → St → List An → Option (List Prop × St × List An)
  | [], s, r => some ([], s, r)
  | o :: l, s, r => match opS P b o s r with
    | some (C, s, r) => match opsS P b l s r with
      | some (C', s, r) => some (C ++ C', s, r)
      | none => none
    | none => none

theorem opsS_sound {P : Program} {b : Nat} : ∀ {ops : List SOp} {s s' : St} {r r' : List An} {C : List Prop} {K : St → Prop}, opsS P b ops s r = some (C, s', r') → AllP C → K s' → stps P b ops s K
  | [], s, s', r, r', C, K, h, hC, hk => by simp only [opsS, Option.some.injEq, Prod.mk.injEq] at h; obtain ⟨rfl, rfl, rfl⟩ := h; exact hk
  | o :: l, s, s', r, r', C, K, h, hC, hk => by
    simp only [opsS] at h
    split at h
    · rename_i C1 s1 r1 h1
      split at h
      · rename_i C2 s2 r2 h2
        simp only [Option.some.injEq, Prod.mk.injEq] at h
        obtain ⟨rfl, rfl, rfl⟩ := h
        exact opS_sound h1 (AllP_append hC).1 (opsS_sound h2 (AllP_append hC).2 hk)
      · cases h
    · cases h

def caS (P : Program) (b : Nat) : List SOp → St → List An → Option (List Prop × (List Eff × St) × List An)
  | [], s, r => some ([], ([], s), r)
  | o :: l, s, r => match hasS P b o s r with
    | some (C, e, r) => match caS P b l (s.app e) r with
      | some (C', (es, s), r) => some (C ++ C', (e :: es, s), r)
      | none => none
    | none => none

theorem caS_sound {P : Program} {b : Nat} : ∀ {ops : List SOp} {s s' : St} {es : List Eff} {r r' : List An} {C : List Prop}, caS P b ops s r = some (C, (es, s'), r') → AllP C → Canon P b ops s es s'
  | [], s, s', es, r, r', C, h, hC => by simp only [caS, Option.some.injEq, Prod.mk.injEq] at h; obtain ⟨rfl, ⟨rfl, rfl⟩, rfl⟩ := h; rfl
  | o :: l, s, s', es, r, r', C, h, hC => by
    simp only [caS] at h
    split at h
    · rename_i C1 e r1 he
      split at h
      · rename_i C2 es' s'' r2 hc
        simp only [Option.some.injEq, Prod.mk.injEq] at h
        obtain ⟨rfl, ⟨rfl, rfl⟩, rfl⟩ := h
        exact ⟨hasS_sound he (AllP_append hC).1, caS_sound hc (AllP_append hC).2⟩
      · cases h
    · cases h

/-- A text walked: what it owes, how it ends, the state behind it. -/
def runS (P : Program) (bs : Nat) : SC → St → List An → Option (List Prop × (Exit × St) × List An)
  | .skip, s, r => some ([], (.normal, s), r)
  | .ret, s, r => some ([], (.ret, s), r)
  | .exit id, s, r => some ([], (.exit id, s), r)
  | .reg ops, s, r => match opsS P (s.nx bs) ops s r with
    | some (C, s, r) => some (C, (.normal, s), r)
    | none => none
  | .drw pre ops, s, r => match caS P (s.nx bs) ops s r with
    | some (C, (es, s'), r) => if dchk (s.nx bs) pre ops es s = true then some (C, (.normal, s'), r) else none
    | none => none
  | .seq a b, s, r => match runS P bs a s r with
    | some (C, (.normal, s), r) => match runS P bs b s r with
      | some (C', x, r) => some (C ++ C', x, r)
      | none => none
    | some (C, (e, s), r) => some (C, (e, s), r)
    | none => none
  | .cond x a b, s, r => match r with
    | .d (.bool true) :: r => match runS P bs a s r with
      | some (C, y, r) => some ((s.get x = .bool true) :: C, y, r)
      | none => none
    | .d (.bool false) :: r => match runS P bs b s r with
      | some (C, y, r) => some ((s.get x = .bool false) :: C, y, r)
      | none => none
    | _ => none
  | .block id c, s, r => match runS P bs c s r with
    | some (C, (.exit i, s), r) => if i = id then some (C, (.normal, s), r) else some (C, (.exit i, s), r)
    | x => x
  | .loop ts c, s, r => match r with
    | .s e s1 :: r => some ([sw P bs (.loop ts c) (fun e' s' => e' = e ∧ s' = s1) s], (e, s1), r)
    | _ => none
  | .rangeF N g ps a b, s, r => match r with
    | .s e s1 :: r => some ([sw P bs (.rangeF N g ps a b) (fun e' s' => e' = e ∧ s' = s1) s], (e, s1), r)
    | _ => none

theorem runS_sound {P : Program} {bs : Nat} : ∀ {c : SC} {s s' : St} {e : Exit} {r r' : List An} {C : List Prop} {Q : Exit → St → Prop}, runS P bs c s r = some (C, (e, s'), r') → AllP C → Q e s' → sw P bs c Q s := by
  intro c
  induction c with
  | skip => intro s s' e r r' C Q h hC hQ; simp only [runS, Option.some.injEq, Prod.mk.injEq] at h; obtain ⟨rfl, ⟨rfl, rfl⟩, rfl⟩ := h; exact hQ
  | ret => intro s s' e r r' C Q h hC hQ; simp only [runS, Option.some.injEq, Prod.mk.injEq] at h; obtain ⟨rfl, ⟨rfl, rfl⟩, rfl⟩ := h; exact hQ
  | exit id => intro s s' e r r' C Q h hC hQ; simp only [runS, Option.some.injEq, Prod.mk.injEq] at h; obtain ⟨rfl, ⟨rfl, rfl⟩, rfl⟩ := h; exact hQ
  | reg ops =>
    intro s s' e r r' C Q h hC hQ
    simp only [runS] at h
    split at h
    · rename_i C1 s1 r1 h1
      simp only [Option.some.injEq, Prod.mk.injEq] at h; obtain ⟨rfl, ⟨rfl, rfl⟩, rfl⟩ := h
      exact opsS_sound h1 hC hQ
    · cases h
  | drw pre ops =>
    intro s s' e r r' C Q h hC hQ
    simp only [runS] at h
    split at h
    · rename_i C1 es s1 r1 h1
      split at h
      · rename_i hd
        simp only [Option.some.injEq, Prod.mk.injEq] at h; obtain ⟨rfl, ⟨rfl, rfl⟩, rfl⟩ := h
        exact ⟨es, _, caS_sound h1 hC, hd, hQ⟩
      · cases h
    · cases h
  | seq a b iha ihb =>
    intro s s' e r r' C Q h hC hQ
    simp only [runS] at h
    split at h
    · rename_i C1 s1 r1 h1
      split at h
      · rename_i C2 x r2 h2
        obtain ⟨x1, x2⟩ := x
        simp only [Option.some.injEq, Prod.mk.injEq] at h; obtain ⟨rfl, ⟨rfl, rfl⟩, rfl⟩ := h
        exact iha h1 (AllP_append hC).1 (ihb h2 (AllP_append hC).2 hQ)
      · cases h
    · rename_i C1 e1 s1 r1 hne h1
      simp only [Option.some.injEq, Prod.mk.injEq] at h; obtain ⟨rfl, ⟨rfl, rfl⟩, rfl⟩ := h
      refine iha h1 hC ?_
      cases e1 <;> first | exact hQ | exact (hne rfl).elim | exact absurd rfl (hne _ _ _) | (exfalso; apply hne; rfl)
    · cases h
  | cond x a b iha ihb =>
    intro s s' e r r' C Q h hC hQ
    simp only [runS] at h
    split at h
    · split at h
      · rename_i C1 y r1 h1
        obtain ⟨x1, x2⟩ := y
        simp only [Option.some.injEq, Prod.mk.injEq] at h; obtain ⟨rfl, ⟨rfl, rfl⟩, rfl⟩ := h
        simp only [sw, hC.1]
        exact iha h1 hC.2 hQ
      · cases h
    · split at h
      · rename_i C1 y r1 h1
        obtain ⟨x1, x2⟩ := y
        simp only [Option.some.injEq, Prod.mk.injEq] at h; obtain ⟨rfl, ⟨rfl, rfl⟩, rfl⟩ := h
        simp only [sw, hC.1]
        exact ihb h1 hC.2 hQ
      · cases h
    · cases h
  | block id c ih =>
    intro s s' e r r' C Q h hC hQ
    simp only [runS] at h
    simp only [sw]
    split at h
    · rename_i C1 i s1 r1 h1
      split at h
      · rename_i hi
        simp only [Option.some.injEq, Prod.mk.injEq] at h; obtain ⟨rfl, ⟨rfl, rfl⟩, rfl⟩ := h
        refine ih h1 hC ?_
        simp only [inBlockS, hi, if_true]; exact hQ
      · rename_i hi
        simp only [Option.some.injEq, Prod.mk.injEq] at h; obtain ⟨rfl, ⟨rfl, rfl⟩, rfl⟩ := h
        refine ih h1 hC ?_
        simp only [inBlockS, if_neg hi]; exact hQ
    · rename_i x hx
      refine ih h hC ?_
      cases e with
      | exit i => exact absurd h (hx _ _ _ _)
      | _ => exact hQ
  | loop ts c ih =>
    intro s s' e r r' C Q h hC hQ
    simp only [runS] at h
    split at h
    · simp only [Option.some.injEq, Prod.mk.injEq] at h; obtain ⟨rfl, ⟨rfl, rfl⟩, rfl⟩ := h
      exact sw_mono hC.1 fun e s he => by obtain ⟨rfl, rfl⟩ := he; exact hQ
    · cases h
  | rangeF N g ps a b iha ihb =>
    intro s s' e r r' C Q h hC hQ
    simp only [runS] at h
    split at h
    · simp only [Option.some.injEq, Prod.mk.injEq] at h; obtain ⟨rfl, ⟨rfl, rfl⟩, rfl⟩ := h
      exact sw_mono hC.1 fun e s he => by obtain ⟨rfl, rfl⟩ := he; exact hQ
    · cases h

end Go.Sx

namespace Go.Sx
open Go.RowKit
variable [Globs] [Codes]

/-- A LOOP, ROUND BY ROUND: the states at its head are named. -/
theorem loop_fam {P : Program} {bs : Nat} {ts0 : List Nat} {c : SC} {Q : Exit → St → Prop} {s : St} (ts : List Nat) (n : Nat) (H : Nat → St)
    (h0 : s.canon bs ts = H 0) (hstep : ∀ i, i < n → sw P bs c (thenS (fun s1 => s1.canon bs ts = H (i + 1)) Q) (H i)) (hend : sw P bs c (thenS (fun _ => False) Q) (H n)) :
    sw P bs (.loop ts0 c) Q s := by
  refine ⟨ts, fun k s' => k ≤ n ∧ s' = H (n - k), ⟨n, Nat.le_refl _, by rw [h0, Nat.sub_self]⟩, ?_⟩
  rintro k s' ⟨hk, rfl⟩
  by_cases h : n - k < n
  · refine sw_mono (hstep (n - k) h) fun e s1 h1 => ?_
    cases e with
    | normal =>
      have h1' : s1.canon bs ts = H (n - k + 1) := h1
      refine ⟨k - 1, by omega, by omega, ?_⟩
      rw [h1']
      congr 1
      omega
    | _ => exact h1
  · have : n - k = n := by omega
    rw [this]
    refine sw_mono hend fun e s1 h1 => ?_
    cases e with
    | normal => exact h1.elim
    | _ => exact h1

/-- A pure function, from its walk. -/
theorem FnOK.run {P : Program} [CodesOf P] (hdraw : DrawSound P) {f : FuncId} {N : Nat} {sc : SC} {rs : List SR} (hf : FnC P f N sc rs) (hpf : pureF P f = true) {args : List D} {r : D} {s1 : St} {e1 : Exit} {C : List Prop} {orc : List An} (hlen : args.length ≤ N)
    (hrun : runS P 0 sc ⟨envOf 0 args, []⟩ orc = some (C, (e1, s1), [])) (hC : AllP C) (he : finB e1 = true) {ds : List D} (hds : rs.mapM (resD s1) = some ds) (hr : RetL 0 (RetK r) s1 (packD ds)) : FnOK P f args r := by
  refine FnOK.of_call hpf (CallL.fn hdraw hf hpf 0 (Nat.le_refl _) (by simpa using hlen) ?_)
  have h1 : ([] ++ args ++ [] : List D) = args := by simp
  rw [h1]
  refine runS_sound hrun hC ?_
  cases e1 with
  | normal => exact ⟨ds, hds, hr⟩
  | ret => exact ⟨ds, hds, hr⟩
  | _ => cases he

end Go.Sx
namespace Go.Sx
variable [Globs] [Codes]
/-- A round that comes back to the loop's head. -/
def rndS (P : Program) (bs : Nat) (c : SC) (ts : List Nat) (s : St) (r : List An) : Option (List Prop × St) := match runS P bs c s r with
  | some (C, (.normal, s1), []) => some (C, s1.canon bs ts)
  | _ => none

theorem rndS_sound {P : Program} {bs : Nat} {c : SC} {ts : List Nat} {s s2 : St} {r : List An} {C : List Prop} {Q : Exit → St → Prop} (h : rndS P bs c ts s r = some (C, s2)) (hC : AllP C) {R : St → Prop} (hR : R s2) :
    sw P bs c (thenS (fun s1 => R (s1.canon bs ts)) Q) s := by
  unfold rndS at h
  split at h
  · rename_i C1 s1 h1
    simp only [Option.some.injEq, Prod.mk.injEq] at h
    obtain ⟨rfl, rfl⟩ := h
    exact runS_sound h1 hC hR
  · cases h

/-- A round that leaves the loop. -/
theorem outS_sound {P : Program} {bs : Nat} {c : SC} {s s2 : St} {r : List An} {C : List Prop} {e : Exit} {K : St → Prop} {Q : Exit → St → Prop} (h : runS P bs c s r = some (C, (e, s2), [])) (hC : AllP C) (he : e ≠ .normal) (hQ : Q e s2) :
    sw P bs c (thenS K Q) s := by
  refine runS_sound h hC ?_
  cases e with
  | normal => exact absurd rfl he
  | _ => exact hQ
end Go.Sx
namespace Go.Sx
/-- The loops of a text. -/
def SC.lps : SC → List SC
  | .seq a b => a.lps ++ b.lps
  | .cond _ a b => a.lps ++ b.lps
  | .block _ c => c.lps
  | .loop _ c => c :: c.lps
  | _ => []
end Go.Sx
namespace Go.Sx
variable [Globs] [Codes]
/-- A pure function's walk, whole. -/
def finS (P : Program) (N : Nat) (sc : SC) (rs : List SR) (args : List D) (r : List An) : Option (List Prop × D) :=
  if args.length ≤ N then match runS P 0 sc ⟨envOf 0 args, []⟩ r with
    | some (C, (e, s), []) => if finB e = true then match rs.mapM (resD s) with
      | some ds => match retE ((s.fin 0 (packD ds)).get (.t 0)) (s.fin 0 (packD ds)).ob with
        | some d => some (C, d)
        | none => none
      | none => none else none
    | _ => none else none

theorem FnOK.finS {P : Program} [CodesOf P] (hdraw : DrawSound P) {f : FuncId} {N : Nat} {sc : SC} {rs : List SR} (hf : FnC P f N sc rs ∧ pureF P f = true) {args : List D} {r : D} {C : List Prop} (orc : List An)
    (h : finS P N sc rs args orc = some (C, r)) (hC : AllP C) : FnOK P f args r := by
  unfold Go.Sx.finS at h
  split at h
  · rename_i hlen
    split at h
    · rename_i C1 e s hrun
      split at h
      · rename_i he
        split at h
        · rename_i ds hds
          split at h
          · rename_i d hd
            simp only [Option.some.injEq, Prod.mk.injEq] at h
            obtain ⟨rfl, rfl⟩ := h
            refine FnOK.run hdraw hf.1 hf.2 hlen hrun hC he hds ?_
            unfold RetL RetK
            unfold retE at hd
            split at hd
            · rename_i id hid
              split at hd
              · rename_i sz e es hl
                cases hd
                exact .inl ⟨id, sz, e, es, hid, hl, rfl⟩
              · cases hd
            · split at hd
              · rename_i hclo
                cases hd
                exact .inr ⟨hclo, rfl⟩
              · cases hd
          · cases h
        · cases h
      · cases h
    · cases h
  · cases h
end Go.Sx
namespace Go.Sx
variable [Globs] [Codes]
/-- A call with objects, whole. -/
def finL (P : Program) (N : Nat) (sc : SC) (rs : List SR) (az : List D) (ob : Obs) (r : List An) : Option (List Prop × D × Obs) :=
  if az.length ≤ N then match runS P (Obs.top ob) sc ⟨envOf 0 az, ob⟩ r with
    | some (C, (e, s), []) => if finB e = true then match rs.mapM (resD s) with
      | some ds => some (C, (s.fin (Obs.top ob) (packD ds)).get (.t 0), (s.fin (Obs.top ob) (packD ds)).ob)
      | none => none else none
    | _ => none else none

theorem CallL.finL {P : Program} [CodesOf P] (hdraw : DrawSound P) {f : FuncId} {N : Nat} {sc : SC} {rs : List SR} (hf : FnC P f N sc rs ∧ pureF P f = true) {first args caps : List D} {ob ob' : Obs} {r : D} {C : List Prop} (orc : List An)
    (h : finL P N sc rs (first ++ args ++ caps) ob orc = some (C, r, ob')) (hC : AllP C) : CallL P (.func (.func f) first caps) args ob (fun r0 ob0 => r0 = r ∧ ob0 = ob') := by
  unfold Go.Sx.finL at h
  split at h
  · rename_i hlen
    split at h
    · rename_i C1 e s hrun
      split at h
      · rename_i he
        split at h
        · rename_i ds hds
          simp only [Option.some.injEq, Prod.mk.injEq] at h
          obtain ⟨rfl, rfl, rfl⟩ := h
          refine CallL.fn hdraw hf.1 hf.2 (Obs.top ob) (Nat.le_refl _) hlen ?_
          refine runS_sound hrun hC ?_
          cases e with
          | normal => exact ⟨ds, hds, rfl, rfl⟩
          | ret => exact ⟨ds, hds, rfl, rfl⟩
          | _ => cases he
        · cases h
      · cases h
    · cases h
  · cases h
end Go.Sx
namespace Go.Sx
variable [Globs] [Codes]
/-- The order in which objects are listed says nothing. -/
theorem CallL.reord {P : Program} {d : D} {args : List D} {ob ob1 ob2 : Obs} {r : D} (h : CallL P d args ob (fun r0 ob0 => r0 = r ∧ ob0 = ob1)) (he : ∀ i, lk ob1 i = lk ob2 i) : CallL P d args ob (fun r0 ob0 => r0 = r ∧ ob0 = ob2) := by
  intro F hF n φ hh w v vs hp hv hvs
  refine (h F hF n φ hh w v vs hp hv hvs).mono ?_
  rintro e w' ⟨u, r0, ob0, φ', h', rfl, ⟨rfl, rfl⟩, hrv, ha⟩
  refine ⟨u, r0, ob2, φ', h', rfl, ⟨rfl, rfl⟩, hrv, ⟨⟨ha.loc.one, ha.loc.glob.sub fun b ⟨i, hi, hb⟩ => ⟨i, by rw [he]; exact hi, hb⟩, ha.loc.mem, fun i o ho => ha.loc.obj i o (by rw [he]; exact ho), fun i j b hi hj => ha.loc.sep i j b (by rw [he]; exact hi) (by rw [he]; exact hj)⟩,
    ha.ext, ha.new, ha.frame, ha.hfix, ha.os, ha.tape, ha.output, ha.grow⟩⟩

theorem lk_swap2 {a b : Ob} (i : Nat) : lk [(1, a), (0, b)] i = lk [(0, b), (1, a)] i := by
  rcases i with _ | _ | i
  · rfl
  · rfl
  · simp [lk]
end Go.Sx

namespace Go.Sx
open Go.RowKit
variable [Globs] [Codes]
variable {P : Program} {f : FuncId}

/- CONTRACTS OF LIBRARY FUNCTIONS, TURNED INTO THIS LAYER's. -/

/-- What a function leaves that freezes nothing new. -/
theorem FnOK.quiet {args : List D} {r : D} (hr : ∀ sz e es, r ≠ .own sz e es)
    (hc : ∀ (φ : Mem) (h : Nat → Value) (w : World) (vs : Array Value), GlobC φ w (fun _ => False) → Sub φ w → RVL φ h vs.toList args →
      Calls P f vs w fun e w' => ∃ v, e = .returned v ∧ (∀ h', RV φ h' v r) ∧ Below w.heap.size w w') : FnOK P f args r := by
  intro φ h w vs hone hgl hsub hsz hargs
  have hvs : RVL φ h vs.toList args := RVL_of_get _ _ (by simpa using hsz) fun j d hd => by have := hargs j d hd; simpa [Array.getD_eq_getD_getElem?, List.getD] using this
  refine (hc φ h w vs hgl hsub hvs).mono ?_
  rintro e w' ⟨v, rfl, hrv, hb⟩
  refine ⟨v, φ, rfl, ?_, hb, fun _ _ _ h => h, fun b o u hu => ?_, fun b o u h1 h2 => by rw [h1] at h2; cases h2⟩
  · cases r with
    | own sz e es => exact absurd rfl (hr sz e es)
    | _ => exact hrv
  · have hlt : b < w.heap.size := Sub.lt (w := w) hsub hu
    have := hb.cell (p := ⟨b, o, none⟩) hlt
    rw [this]
    exact hsub b o u hu

/-- The values of plain arguments. -/
theorem vs1 {φ : Mem} {h : Nat → Value} {vs : Array Value} {a : D} (hv : RVL φ h vs.toList [a]) : ∃ v, vs = #[v] ∧ RV φ h v a := by
  match hl : vs.toList, hv with
  | [v], hv => exact ⟨v, by rw [← hl], hv.1⟩
  | [], hv => exact hv.elim
  | _ :: _ :: _, hv => exact hv.2.elim
theorem vs2 {φ : Mem} {h : Nat → Value} {vs : Array Value} {a b : D} (hv : RVL φ h vs.toList [a, b]) : ∃ u v, vs = #[u, v] ∧ RV φ h u a ∧ RV φ h v b := by
  match hl : vs.toList, hv with
  | [u, v], hv => exact ⟨u, v, by rw [← hl], hv.1, hv.2.1⟩
  | [], hv => exact hv.elim
  | [_], hv => exact hv.2.elim
  | _ :: _ :: _ :: _, hv => exact hv.2.2.elim

/-- strings.IndexByte -/
theorem FnOK.indexByte (H : ∀ (s : ByteArray) (c : Int) (w : World), Calls P f #[.string s, .int .u8 c] w fun e w' => e = .returned (.int .i64 (Lib.indexByte s.data.toList c.toNat.toUInt8)) ∧ w' = w) (s : List UInt8) (n : Int) :
    FnOK P f [.str s, .int .u8 n] (.int .i64 (Lib.indexByte s (UInt8.ofNat n.toNat))) := by
  refine FnOK.quiet (by intros; simp) fun φ h w vs hgl hsub hv => ?_
  obtain ⟨u, v, rfl, hu, hv⟩ := vs2 hv
  rw [hu.str_inv, hv.int_inv]
  refine (H ⟨s.toArray⟩ n w).mono ?_
  rintro e w' ⟨rfl, rfl⟩
  exact ⟨_, rfl, fun h' => .pure (.int _ _), Below.refl _ _⟩

/-- strings.Contains: the variable that it looks at holds some number. -/
theorem FnOK.contains {g : Nat} (hI : Globs.I g = true) (H : ∀ (s sub : ByteArray) (m : Int) (w : World), s.size < 4294967281 → w.cell? ⟨g, 0, none⟩ = some (.int .i64 m) → Calls P f #[.string s, .string sub] w fun e w' => e = .returned (.bool (Lib.contains s.data.toList sub.data.toList)) ∧ w' = w)
    (s sub : List UInt8) (hs : s.length < 4294967281) : FnOK P f [.str s, .str sub] (.bool (Lib.contains s sub)) := by
  refine FnOK.quiet (by intros; simp) fun φ h w vs hgl hsub hv => ?_
  obtain ⟨u, v, rfl, hu, hv⟩ := vs2 hv
  rw [hu.str_inv, hv.str_inv]
  obtain ⟨⟨arr, ty, fr, m, h1, h2⟩, _⟩ := hgl.i g hI
  refine (H ⟨s.toArray⟩ ⟨sub.toArray⟩ m w (by simpa [ByteArray.size] using hs) (by simp [World.cell?, h1, h2])).mono ?_
  rintro e w' ⟨rfl, rfl⟩
  exact ⟨_, rfl, fun h' => .pure (.bool _), Below.refl _ _⟩

/-- strings.Compare -/
theorem FnOK.strcmp (H : ∀ (a b : ByteArray) (w : World), Calls P f #[.string a, .string b] w fun e w' => e = .returned (.int .i64 (Lib.compareBytes a.data.toList b.data.toList)) ∧ w' = w) (a b : List UInt8) :
    FnOK P f [.str a, .str b] (.int .i64 (Lib.compareBytes a b)) := by
  refine FnOK.quiet (by intros; simp) fun φ h w vs hgl hsub hv => ?_
  obtain ⟨u, v, rfl, hu, hv⟩ := vs2 hv
  rw [hu.str_inv, hv.str_inv]
  refine (H ⟨a.toArray⟩ ⟨b.toArray⟩ w).mono ?_
  rintro e w' ⟨rfl, rfl⟩
  exact ⟨_, rfl, fun h' => .pure (.int _ _), Below.refl _ _⟩

/-- strconv.Itoa at small numbers -/
theorem FnOK.itoaSmall (H : ∀ (i : Nat) (hi : i < 100) (w : World), Calls P f #[.int .i64 i] w fun e w' => e = .returned (.string ⟨(Lib.decDigits i).toArray⟩) ∧ w' = w) (n : Int) (h0 : 0 ≤ n) (h1 : n < 100) :
    FnOK P f [.int .i64 n] (.str (Lib.decDigits n.toNat)) := by
  refine FnOK.quiet (by intros; simp) fun φ h w vs hgl hsub hv => ?_
  obtain ⟨u, rfl, hu⟩ := vs1 hv
  rw [hu.int_inv]
  have hn : n = ((n.toNat : Nat) : Int) := by omega
  have := H n.toNat (by omega) w
  rw [← hn] at this
  refine this.mono ?_
  rintro e w' ⟨rfl, rfl⟩
  exact ⟨_, rfl, fun h' => .pure (.str _), Below.refl _ _⟩

/-- strconv.Atoi -/
theorem FnOK.atoi (H : ∀ (s : ByteArray) (n : Int) (hl : s.size ≤ 18) (h : Lib.atoi s.data.toList = some n) (w : World), Calls P f #[.string s] w fun e w' => e = .returned (.tuple #[.int .i64 n, .nilIface]) ∧ ∃ (b : TypeId) (t : ByteArray), w' = Lib.bytesWorld w b t)
    (s : List UInt8) (n : Int) (hl : s.length ≤ 18) (hs : Lib.atoi s = some n) : FnOK P f [.str s] (.tuple [.int .i64 n, .raw .nilIface]) := by
  refine FnOK.quiet (by intros; simp) fun φ h w vs hgl hsub hv => ?_
  obtain ⟨u, rfl, hu⟩ := vs1 hv
  rw [hu.str_inv]
  refine (H ⟨s.toArray⟩ n (by simpa [ByteArray.size] using hl) (by simpa using hs) w).mono ?_
  rintro e w' ⟨rfl, b, t, rfl⟩
  refine ⟨_, rfl, fun h' => .tuple _ _ rfl fun j d hd => ?_, Lib.bytesWorld_below w b t⟩
  match j with
  | 0 => simp at hd; subst hd; exact .pure (.int _ _)
  | 1 => simp at hd; subst hd; exact .pure (.raw _ rfl)
  | j + 2 => simp at hd

theorem FnOK.atoiErr {g : Nat} (hG : Globs.G g = some [.ifc]) (H : ∀ (s : ByteArray) (hl : s.size ≤ 18) (h : Lib.atoi s.data.toList = none) (ev : Value) (w : World) (hv : w.cell? ⟨g, 0, none⟩ = some ev) (hev : ev = .nilIface ∨ ∃ te pe, ev = .iface te pe),
      Calls P f #[.string s] w fun e w' => ∃ (t : TypeId) (N : Nat), e = .returned (.tuple #[.int .i64 0, .iface t (.pointer (some ⟨N, 0, none⟩))]) ∧ Below w.heap.size w w')
    (s : List UInt8) (hl : s.length ≤ 18) (hs : Lib.atoi s = none) : FnOK P f [.str s] (.tuple [.int .i64 0, .ifc]) := by
  refine FnOK.quiet (by intros; simp) fun φ h w vs hgl hsub hv => ?_
  obtain ⟨u, rfl, hu⟩ := vs1 hv
  rw [hu.str_inv]
  obtain ⟨b, o, vals, he, hm, hr⟩ := (hgl.ok g _ hG).fptr_inv
  simp only [Value.pointer.injEq, Option.some.injEq, Addr.mk.injEq, and_true] at he
  obtain ⟨rfl, rfl⟩ := he
  have hc := hsub _ _ _ (hm 0 .ifc rfl)
  obtain ⟨te, pe, hi⟩ := (RV.pure (h := h) (hr 0 .ifc rfl)).ifc_inv
  refine (H ⟨s.toArray⟩ (by simpa [ByteArray.size] using hl) (by simpa using hs) _ w hc (.inr ⟨te, pe, hi⟩)).mono ?_
  rintro e w' ⟨t, N, rfl, hb⟩
  refine ⟨_, rfl, fun h' => .tuple _ _ rfl fun j d hd => ?_, hb⟩
  match j with
  | 0 => simp at hd; subst hd; exact .pure (.int _ _)
  | 1 => simp at hd; subst hd; exact .pure (.ifc _ _)
  | j + 2 => simp at hd

/-- strconv.Atoi at a numeral, however long. -/
theorem FnOK.atoiOK (s : List UInt8) (n : Int) (H : ∀ w : World, Calls P f #[.string ⟨s.toArray⟩] w fun e w' => e = .returned (.tuple #[.int .i64 n, .nilIface]) ∧ (w' = w ∨ ∃ (b : TypeId) (t : ByteArray), w' = Lib.bytesWorld w b t)) :
    FnOK P f [.str s] (.tuple [.int .i64 n, .raw .nilIface]) := by
  refine FnOK.quiet (by intros; simp) fun φ h w vs hgl hsub hv => ?_
  obtain ⟨u, rfl, hu⟩ := vs1 hv
  rw [hu.str_inv]
  refine (H w).mono ?_
  rintro e w' ⟨rfl, hw⟩
  refine ⟨_, rfl, fun h' => .tuple _ _ rfl fun j d hd => ?_, ?_⟩
  · match j with
    | 0 => simp at hd; subst hd; exact .pure (.int _ _)
    | 1 => simp at hd; subst hd; exact .pure (.raw _ rfl)
    | j + 2 => simp at hd
  · rcases hw with rfl | ⟨b, t, rfl⟩
    · exact Below.refl _ _
    · exact Lib.bytesWorld_below w b t

/-- strconv.Atoi where it hands back an error. -/
theorem FnOK.atoiNo {g : Nat} (hG : Globs.G g = some [.ifc]) (s : List UInt8) (n : Int) (H : ∀ (ev : Value) (w : World) (hv : w.cell? ⟨g, 0, none⟩ = some ev) (hev : ev = .nilIface ∨ ∃ te pe, ev = .iface te pe),
      Calls P f #[.string ⟨s.toArray⟩] w fun e w' => ∃ (t : TypeId) (N : Nat), e = .returned (.tuple #[.int .i64 n, .iface t (.pointer (some ⟨N, 0, none⟩))]) ∧ Below w.heap.size w w') : FnOK P f [.str s] (.tuple [.int .i64 n, .ifc]) := by
  refine FnOK.quiet (by intros; simp) fun φ h w vs hgl hsub hv => ?_
  obtain ⟨u, rfl, hu⟩ := vs1 hv
  rw [hu.str_inv]
  obtain ⟨b, o, vals, he, hm, hr⟩ := (hgl.ok g _ hG).fptr_inv
  simp only [Value.pointer.injEq, Option.some.injEq, Addr.mk.injEq, and_true] at he
  obtain ⟨rfl, rfl⟩ := he
  have hc := hsub _ _ _ (hm 0 .ifc rfl)
  obtain ⟨te, pe, hi⟩ := (RV.pure (h := h) (hr 0 .ifc rfl)).ifc_inv
  refine (H _ w hc (.inr ⟨te, pe, hi⟩)).mono ?_
  rintro e w' ⟨t, N, rfl, hb⟩
  refine ⟨_, rfl, fun h' => .tuple _ _ rfl fun j d hd => ?_, hb⟩
  match j with
  | 0 => simp at hd; subst hd; exact .pure (.int _ _)
  | 1 => simp at hd; subst hd; exact .pure (.ifc _ _)
  | j + 2 => simp at hd

/-- strconv.Itoa at every number: it wants a table of the library's, whole. -/
theorem FnOK.itoa {g : Nat} {name : String} (hX : Globs.X g = some (Lib.pow10Tab.map fun z => Value.int .u64 z).toArray) (hn : P.globalNamed name = some g)
    (H : ∀ (n : Int) (h0 : -9223372036854775808 ≤ n) (h1 : n ≤ 9223372036854775807) (w : World) (htab : Lib.TabIs P w name .u64 Lib.pow10Tab), Calls P f #[.int .i64 n] w fun e w' => e = .returned (.string ⟨(Lib.itoa n).toArray⟩) ∧ ∃ k os, w' = Sort.grow (w.drewN k) os)
    (n : Int) (h0 : -9223372036854775808 ≤ n) (h1 : n ≤ 9223372036854775807) : FnOK P f [.int .i64 n] (.str (Lib.itoa n)) := by
  refine FnOK.quiet (by intros; simp) fun φ h w vs hgl hsub hv => ?_
  obtain ⟨u, rfl, hu⟩ := vs1 hv
  rw [hu.int_inv]
  obtain ⟨⟨ty, fr, hh⟩, _⟩ := hgl.x g _ hX
  have htab : Lib.TabIs P w name .u64 Lib.pow10Tab := by
    unfold Lib.TabIs World.var?
    rw [hn]
    simp only [Option.bind_some, hh]
  refine (H n h0 h1 w htab).mono ?_
  rintro e w' ⟨rfl, k, os, rfl⟩
  refine ⟨_, rfl, fun h' => .pure (.str _), ?_⟩
  refine ⟨rfl, rfl, rfl, by simp [Sort.grow], fun i hi => ?_⟩
  show ((w.drewN k).heap ++ os)[i]? = _
  rw [Array.getElem?_append_left (by show i < w.heap.size; omega)]
  rfl

/-- strings.Join -/
theorem FnOK.join (H0 : ∀ (a : Option Addr) (c : Nat) (sep : ByteArray) (w : World), Calls P f #[.slice a 0 c, .string sep] w fun e w' => e = .returned (.string ⟨#[]⟩) ∧ w' = w)
    (H : ∀ (bk o c : Nat) (xs : List ByteArray) (sep : ByteArray) (w : World) (hcells : ∀ (j : Nat) x, xs[j]? = some x → w.cell? ⟨bk, o + j, none⟩ = some (.string x)) (hbk : bk < w.heap.size) (hN : xs.length ≤ 140737488355328) (hcap : xs.length ≤ c) (hlen : (Lib.join (xs.map (·.data.toList)) sep.data.toList).length ≤ 140737488355328),
      Calls P f #[.slice (some ⟨bk, o, none⟩) xs.length c, .string sep] w fun e w' => e = .returned (.string ⟨(Lib.join (xs.map (·.data.toList)) sep.data.toList).toArray⟩) ∧ Below w.heap.size w w')
    (ts : List (List UInt8)) (ext : List (List D)) (sep : List UInt8) (hn : ts.length ≤ 140737488355328) (hj : (Lib.join ts sep).length ≤ 140737488355328) :
    FnOK P f [.slice (ts.map fun t => [.str t]) ext, .str sep] (.str (Lib.join ts sep)) := by
  refine FnOK.quiet (by intros; simp) fun φ h w vs hgl hsub hv => ?_
  obtain ⟨u, v, rfl, hu, hv⟩ := vs2 hv
  rw [hv.str_inv]
  have hnone : ∀ a c, ts = [] → Calls P f #[.slice a 0 c, .string ⟨sep.toArray⟩] w fun e w' => ∃ v, e = .returned v ∧ (∀ h', RV φ h' v (.str (Lib.join ts sep))) ∧ Below w.heap.size w w' := by
    rintro a c rfl
    refine (H0 a c ⟨sep.toArray⟩ w).mono ?_
    rintro e w' ⟨rfl, rfl⟩
    exact ⟨_, rfl, fun h' => by rw [Lib.join_nil]; exact .pure (.str []), Below.refl _ _⟩
  rcases hu.slice_inv.slice_inv with ⟨⟨a, c, rfl, _⟩, he, _⟩ | ⟨b, off, cap, sz, vals, rfl, hcap, hsz, hmem, hrep⟩
  · exact hnone a c (by simpa using he)
  · cases hts : ts with
    | nil => rw [← hts]; simpa [hts] using hnone (some ⟨b, off, none⟩) cap hts
    | cons t0 tr =>
      have hsz1 : sz = 1 := by have := hsz [.str t0] (by simp [hts]); simpa using this.symm
      subst hsz1
      have hcell : ∀ (j : Nat) (t : List UInt8), ts[j]? = some t → w.cell? ⟨b, off + j, none⟩ = some (.string ⟨t.toArray⟩) := fun j t ht => by
        have hjl : j < ts.length := by
          rcases Nat.lt_or_ge j ts.length with h | h
          · exact h
          · rw [List.getElem?_eq_none h] at ht; cases ht
        have h1 : ((ts.map fun t => ([.str t] : List D)) ++ ext)[j]? = some [.str t] := by
          rw [List.getElem?_append_left (by simpa using hjl)]; simp [ht]
        have h2 := hsub _ _ _ (hmem j _ 0 _ h1 rfl)
        have h3 := (RV.pure (h := h) (hrep j _ 0 _ h1 rfl)).str_inv
        rw [h3] at h2
        simpa using h2
      have hb : b < w.heap.size := World.block_lt_of_cell? _ _ (hcell 0 t0 (by simp [hts]))
      have hm : (ts.map fun t => (⟨t.toArray⟩ : ByteArray)).map (·.data.toList) = ts := by simp [List.map_map, Function.comp_def]
      have := H b off cap (ts.map fun t => ⟨t.toArray⟩) ⟨sep.toArray⟩ w (fun j x hx => by
          simp only [List.getElem?_map, Option.map_eq_some_iff] at hx
          obtain ⟨t, ht, rfl⟩ := hx
          exact hcell j t ht) hb (by simpa using hn) (by simp at hcap ⊢; omega) (by rw [hm]; exact hj)
      rw [hm] at this
      rw [← hts]
      simp only [List.length_map] at this ⊢
      refine this.mono ?_
      rintro e w' ⟨rfl, hbel⟩
      exact ⟨_, rfl, fun h' => .pure (.str _), hbel⟩

/-- strings.Fields on ASCII: a new slice. -/
theorem FnOK.fields {g : Nat} {ty : TypeId} {cs : List D} (hG : Globs.G g = some cs) (hcs : ∀ c : Nat, c < 256 → cs[c]? = some (.int .u8 (if Lib.isSp (UInt8.ofNat c) then 1 else 0)))
    (H : ∀ (s : ByteArray) (w : World) (hs : s.size < 4294967281) (hascii : ∀ (j : Nat) b, s.data.toList[j]? = some b → b.toNat < 128)
      (hT : ∀ c : Nat, c < 256 → w.cell? ⟨g, c, none⟩ = some (.int .u8 (if Lib.isSp (UInt8.ofNat c) then 1 else 0))),
      Calls P f #[.string s] w fun e w' =>
        e = .returned (.slice (some ⟨w.heap.size, 0, none⟩) (Lib.fields s.data.toList).length (Lib.fields s.data.toList).length) ∧ w' = w.alloc (.cells ((Lib.fields s.data.toList).map fun l => Value.string ⟨l.toArray⟩).toArray ty))
    (s : List UInt8) (hs : s.length < 4294967281) (ha : ∀ b ∈ s, b.toNat < 128) : FnOK P f [.str s] (.slice ((Lib.fields s).map fun x => [.str x]) []) := by
  intro φ h w vs hone hgl hsub hsz hargs
  have hvs : RVL φ h vs.toList [.str s] := RVL_of_get _ _ (by simpa using hsz) fun j d hd => by have := hargs j d hd; simpa [Array.getD_eq_getD_getElem?, List.getD] using this
  obtain ⟨u, rfl, hu⟩ := vs1 hvs
  rw [hu.str_inv]
  obtain ⟨b, o, vals, he, hm, hr⟩ := (hgl.ok g _ hG).fptr_inv
  simp only [Value.pointer.injEq, Option.some.injEq, Addr.mk.injEq, and_true] at he
  obtain ⟨rfl, rfl⟩ := he
  have hT : ∀ c : Nat, c < 256 → w.cell? ⟨g, c, none⟩ = some (.int .u8 (if Lib.isSp (UInt8.ofNat c) then 1 else 0)) := fun c hc => by
    have h1 := hm c _ (hcs c hc)
    have h2 := (RV.pure (h := h) (hr c _ (hcs c hc))).int_inv
    rw [h2] at h1
    simpa using hsub _ _ _ h1
  refine (H ⟨s.toArray⟩ w (by simpa [ByteArray.size] using hs) (fun j b hb => ha b (List.mem_of_getElem? (by simpa using hb))) hT).mono ?_
  rintro e w' ⟨rfl, rfl⟩
  simp only
  have hB := (Below.refl w.heap.size w).alloc (Nat.le_refl _) (.cells ((Lib.fields s).map fun l => Value.string ⟨l.toArray⟩).toArray ty)
  have hold : ∀ b o u, φ b o = some u → b < w.heap.size := fun b o u hu => Sub.lt (w := w) hsub hu
  refine ⟨_, fun b o => if b = w.heap.size then (if o < (Lib.fields s).length then some (.string ⟨((Lib.fields s).getD o []).toArray⟩) else none) else φ b o, rfl, fun h' => .pure ?_, hB, ?_, ?_, ?_⟩
  · have hl : (Lib.fields s).length = ((Lib.fields s).map fun x => ([.str x] : List D)).length := by simp
    conv => lhs; rw [hl]
    have key : ∀ i (e : List D) j d, (((Lib.fields s).map fun x => ([.str x] : List D)) ++ [])[i]? = some e → e[j]? = some d → j = 0 ∧ i < (Lib.fields s).length ∧ d = .str ((Lib.fields s).getD i []) := by
      intro i e j d he hd
      simp only [List.append_nil, List.getElem?_map, Option.map_eq_some_iff] at he
      obtain ⟨x, hx, rfl⟩ := he
      have hj : j = 0 := by
        cases j with
        | zero => rfl
        | succ j => simp at hd
      subst hj
      simp at hd
      subst hd
      have : i < (Lib.fields s).length := by
        rcases Nat.lt_or_ge i (Lib.fields s).length with h | h
        · exact h
        · rw [List.getElem?_eq_none h] at hx; cases hx
      exact ⟨rfl, this, by simp [hx]⟩
    refine .slice w.heap.size 0 _ 1 _ _ (fun i _ => .string ⟨((Lib.fields s).getD i []).toArray⟩) (by simp) (fun e he => ?_) (fun i e j d he hd => ?_) (fun i e j d he hd => ?_)
    · simp only [List.append_nil, List.mem_map] at he
      obtain ⟨x, _, rfl⟩ := he; rfl
    · obtain ⟨rfl, hi, rfl⟩ := key i e j d he hd
      simp [hi]
    · obtain ⟨rfl, hi, rfl⟩ := key i e j d he hd
      exact .str _
  · intro b o u hu
    have := hold b o u hu
    simp only
    rw [if_neg (by omega)]
    exact hu
  · intro b o u hu
    simp only at hu
    split at hu
    · rename_i hb
      split at hu
      · rename_i ho
        cases hu
        subst hb
        rw [World.cell?_alloc_new]
        simp [List.getD, ho]
      · cases hu
    · rw [World.cell?_alloc_lt _ _ _ (hold b o u hu)]
      exact hsub b o u hu
  · intro b o u hu hn
    simp only at hu
    split at hu
    · omega
    · rw [hu] at hn; cases hn

end Go.Sx
