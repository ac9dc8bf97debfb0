/- Own work: a layer over the kit: plain data, a walk over it, its soundness. -/
import Derived.Test.YtdkbjkccpnhjgaaDoorSxV
set_option linter.unusedSectionVars false
set_option linter.unusedVariables false
set_option linter.unusedSimpArgs false
set_option linter.deprecated false
namespace Go.Sx
open Go.RowKit
variable [Globs] [Codes]

theorem mapM_get {α β : Type} {f : α → Option β} : ∀ {l : List α} {l' : List β}, l.mapM f = some l' → ∀ (k : Nat) (a : α), l[k]? = some a → ∃ b, f a = some b ∧ l'[k]? = some b
  | [], _, _, k, a, hk => by simp at hk
  | x :: l, l', h, k, a, hk => by
    simp only [List.mapM_cons, Option.bind_eq_bind, Option.bind_eq_some_iff, Option.pure_def, Option.some.injEq] at h
    obtain ⟨b, h1, r, h2, rfl⟩ := h
    cases k with
    | zero => simp at hk; subst hk; exact ⟨b, h1, rfl⟩
    | succ k => obtain ⟨b', q1, q2⟩ := mapM_get h2 k a (by simpa using hk); exact ⟨b', q1, by simpa using q2⟩

theorem mapM_len {α β : Type} {f : α → Option β} : ∀ {l : List α} {l' : List β}, l.mapM f = some l' → l'.length = l.length
  | [], _, h => by simp at h; subst h; rfl
  | x :: l, l', h => by
    simp only [List.mapM_cons, Option.bind_eq_bind, Option.bind_eq_some_iff, Option.pure_def, Option.some.injEq] at h
    obtain ⟨b, h1, r, h2, rfl⟩ := h
    simp [mapM_len h2]

def un (ops : Array Oper) (listed : Array Bool) : List Nat := (List.range ops.size).filter fun i => !listed.getD i true

theorem un_set {ops : Array Oper} {listed : Array Bool} {i : Nat} (hs : listed.size = ops.size) (hi : i ∈ un ops listed) : (un ops (listed.setIfInBounds i true)).length < (un ops listed).length := by
  have e : un ops (listed.setIfInBounds i true) = (un ops listed).filter fun j => decide (j ≠ i) := by
    unfold un
    rw [List.filter_filter]
    refine List.filter_congr fun j hj => ?_
    have hj' : j < listed.size := by rw [hs]; exact List.mem_range.1 hj
    by_cases h : j = i
    · subst h; simp [hj']
    · simp [Array.getD_eq_getD_getElem?, Array.getElem?_setIfInBounds_ne (Ne.symm h), h]
  rw [e]
  exact List.length_filter_lt_length_iff_exists.2 ⟨i, hi, by simp⟩

theorem ready_un {ops : Array Oper} {listed : Array Bool} {i : Nat} (h : i ∈ Region.ready .any ops listed) : i ∈ un ops listed := by
  obtain ⟨h1, o, h2, _⟩ := mem_ready.1 h
  exact List.mem_filter.2 ⟨List.mem_range.2 (Array.getElem?_eq_some_iff.1 h2).1, by simpa using h1⟩

def Closed (ops : Array Oper) (listed : Array Bool) : Prop := ∀ i o, ops[i]? = some o → listed.getD i false = true → ∀ e ∈ o.after, Region.binds .any e = true → listed.getD e.on false = true

theorem reachM_mem {pre : List Nat} {i : Nat} : ∀ {l : List Edge} {m : Nat}, (reachM pre l m).testBit i = true → m.testBit i = true ∨ ∃ e ∈ l, Region.binds .any e = true ∧ (i = e.on ∨ befor pre i e.on = true)
  | [], m, h => .inl h
  | e :: r, m, h => by
    simp only [reachM] at h
    rcases reachM_mem h with h | ⟨e', he, h⟩
    · split at h
      · rename_i hb
        simp only [Nat.testBit_or, Bool.or_eq_true] at h
        rcases h with (h | h) | h
        · exact .inl h
        · refine .inr ⟨e, by simp, hb, .inl ?_⟩
          have := Nat.testBit_two_pow (n := e.on) (m := i)
          rw [this] at h
          exact (of_decide_eq_true h).symm
        · exact .inr ⟨e, by simp, hb, .inr h⟩
      · exact .inl h
    · exact .inr ⟨e', List.mem_cons_of_mem _ he, h⟩

def PreOK (pre : List Nat) (ops : Array Oper) : Prop := ∀ i j, befor pre i j = true → ∃ o, ops[j]? = some o ∧ ∃ e ∈ o.after, Region.binds .any e = true ∧ e.on < j ∧ (i = e.on ∨ befor pre i e.on = true)

theorem befor_listed {ops : Array Oper} {listed : Array Bool} {pre : List Nat} (hp : PreOK pre ops) (hcl : Closed ops listed) : ∀ (j i : Nat), (∀ o, ops[j]? = some o → ∀ e ∈ o.after, Region.binds .any e = true → listed.getD e.on false = true) → befor pre i j = true → listed.getD i false = true := by
  intro j
  induction j using Nat.strongRecOn with
  | _ j ih =>
    intro i hd hb
    obtain ⟨o, ho, e, he, hbi, hlt, h⟩ := hp i j hb
    have hl := hd o ho e he hbi
    rcases h with rfl | h
    · exact hl
    · exact ih e.on hlt i (fun o' ho' => hcl e.on o' ho' hl) h

theorem getD_set {listed : Array Bool} {i j : Nat} (hi : i < listed.size) : (listed.setIfInBounds i true).getD j false = true ↔ listed.getD j false = true ∨ j = i := by
  by_cases h : j = i
  · subst h; simp [hi]
  · simp [Array.getD_eq_getD_getElem?, Array.getElem?_setIfInBounds_ne (Ne.symm h), h]

theorem getD_tf {listed : Array Bool} {i : Nat} (hi : i < listed.size) : listed.getD i true = listed.getD i false := by simp [Array.getD, hi]

theorem Closed.set {ops : Array Oper} {listed : Array Bool} (hcl : Closed ops listed) {i : Nat} (hi : i < listed.size) (hr : ∀ o, ops[i]? = some o → ∀ e ∈ o.after, Region.binds .any e = true → listed.getD e.on false = true) : Closed ops (listed.setIfInBounds i true) := by
  intro j o ho hj e he hb
  rw [getD_set hi] at hj ⊢
  rcases hj with hj | rfl
  · exact .inl (hcl j o ho hj e he hb)
  · exact .inl (hr o ho e he hb)


section latest
variable {V : Type} {L L' : Nat → Prop} {wr : Nat → Option V} {v0 v v' : V}

/-- The last of the writers in L has written this. -/
def Latest (L : Nat → Prop) (wr : Nat → Option V) (v0 v : V) : Prop :=
  (∃ k x, L k ∧ wr k = some x ∧ v = x ∧ ∀ k', L k' → (wr k').isSome → k' ≤ k) ∨ ((∀ k, L k → wr k = none) ∧ v = v0)

theorem Latest.none (h : ∀ k, ¬ L k) : Latest L wr v0 v0 := .inr ⟨fun k hk => absurd hk (h k), rfl⟩

theorem Latest.skip {j : Nat} (h : Latest L wr v0 v) (hj : wr j = Option.none) : Latest (fun k => L k ∨ k = j) wr v0 v := by
  rcases h with ⟨k, x, h1, h2, h3, h4⟩ | ⟨h1, h2⟩
  · refine .inl ⟨k, x, .inl h1, h2, h3, fun k' hk' hw => ?_⟩
    rcases hk' with hk' | rfl
    · exact h4 k' hk' hw
    · rw [hj] at hw; cases hw
  · exact .inr ⟨fun k hk => hk.elim (h1 k) fun e => by rw [e]; exact hj, h2⟩

theorem Latest.put {j : Nat} {x : V} (hj : wr j = some x) (hl : ∀ k, L k → (wr k).isSome → k ≤ j) : Latest (fun k => L k ∨ k = j) wr v0 x :=
  .inl ⟨j, x, .inr rfl, hj, rfl, fun k' hk' hw => hk'.elim (fun h => hl k' h hw) fun e => by omega⟩

theorem Latest.uniq (h : Latest L wr v0 v) (h' : Latest L' wr v0 v') (he : ∀ k, (wr k).isSome → (L k ↔ L' k)) : v = v' := by
  rcases h with ⟨k, x, h1, h2, h3, h4⟩ | ⟨h1, h2⟩ <;> rcases h' with ⟨k', x', q1, q2, q3, q4⟩ | ⟨q1, q2⟩
  · have e1 : k ≤ k' := q4 k ((he k (by rw [h2]; rfl)).1 h1) (by rw [h2]; rfl)
    have e2 : k' ≤ k := h4 k' ((he k' (by rw [q2]; rfl)).2 q1) (by rw [q2]; rfl)
    have : k = k' := by omega
    subst this
    rw [h2] at q2
    rw [h3, q3]; exact Option.some.inj q2
  · have := q1 k ((he k (by rw [h2]; rfl)).1 h1)
    rw [h2] at this; cases this
  · have := h1 k' ((he k' (by rw [q2]; rfl)).2 q1)
    rw [q2] at this; cases this
  · rw [h2, q2]

theorem Latest.congr (h : Latest L wr v0 v) (he : ∀ k, L k ↔ L' k) : Latest L' wr v0 v := by
  rcases h with ⟨k, x, h1, h2, h3, h4⟩ | ⟨h1, h2⟩
  · exact .inl ⟨k, x, (he k).1 h1, h2, h3, fun k' hk' => h4 k' ((he k').2 hk')⟩
  · exact .inr ⟨fun k hk => h1 k ((he k).2 hk), h2⟩
end latest

def twr (e : Eff) (t : Nat) : Option (Option D) := match e.tm with
  | some (t', d) => if t = t' then some (some d) else none
  | none => none

theorem app_tm (s : St) (e : Eff) (t : Nat) : lk (s.app e).tm t = (twr e t).getD (lk s.tm t) := by
  simp only [St.app, twr]
  cases e.tm with
  | none => rfl
  | some p =>
    obtain ⟨t', d⟩ := p
    simp only [lk]
    split
    · rfl
    · rename_i hi; rw [look_erase, if_neg hi]; rfl

theorem app_ob (s : St) (e : Eff) (i : Nat) : lk (s.app e).ob i = (lk e.ob i).getD (lk s.ob i) := by
  simp only [St.app]
  rw [setO_lk]
  cases lk e.ob i <;> rfl

theorem all_erase {α : Type} {p : Nat × α → Bool} (id : Nat) : ∀ {l : List (Nat × α)}, l.all p = true → (eraseId id l).all p = true
  | [], _ => rfl
  | (j, x) :: r, h => by
    simp only [List.all_cons, Bool.and_eq_true] at h
    simp only [eraseId]
    split
    · exact all_erase id h.2
    · simp only [List.all_cons, Bool.and_eq_true]; exact ⟨h.1, all_erase id h.2⟩

theorem setO_all {i : Nat} : ∀ {l : List (Nat × Option Ob)} {ob : Obs}, (l.any fun p => match p.2 with | some o => Ob.men i o | none => false) = false → (ob.all fun p => !(Ob.men i p.2)) = true → ((setO l ob).all fun p => !(Ob.men i p.2)) = true
  | [], ob, _, h => h
  | (j, none) :: r, ob, h1, h2 => by
    simp only [List.any_cons, Bool.false_or] at h1
    exact all_erase j (setO_all h1 h2)
  | (j, some o) :: r, ob, h1, h2 => by
    simp only [List.any_cons, Bool.or_eq_false_iff] at h1
    simp only [setO, List.all_cons, Bool.and_eq_true, Bool.not_eq_true']
    exact ⟨h1.1, all_erase j (setO_all h1.2 h2)⟩

theorem app_clean {s : St} {e : Eff} {i : Nat} (h : s.clean i = true) (he : e.men i = false) : (s.app e).clean i = true := by
  simp only [St.clean, Bool.and_eq_true] at h ⊢
  simp only [Eff.men, Bool.or_eq_false_iff] at he
  refine ⟨?_, setO_all he.2 h.2⟩
  simp only [St.app]
  cases hq : e.tm with
  | none => exact h.1
  | some p =>
    obtain ⟨t, d⟩ := p
    have := he.1
    rw [hq] at this
    simp only [List.all_cons, Bool.and_eq_true, Bool.not_eq_true']
    exact ⟨this, all_erase t h.1⟩

theorem Env.top_erase (id : Nat) : ∀ (l : Env), Env.top (eraseId id l) ≤ Env.top l
  | [] => Nat.le_refl _
  | (j, d) :: r => by
    have := Env.top_erase id r
    simp only [eraseId]
    split <;> simp only [Env.top] <;> omega

theorem Obs.top_erase (id : Nat) : ∀ (l : Obs), Obs.top (eraseId id l) ≤ Obs.top l
  | [] => Nat.le_refl _
  | (j, d) :: r => by
    have := Obs.top_erase id r
    simp only [eraseId]
    split <;> simp only [Obs.top] <;> omega

theorem setO_top : ∀ (l : List (Nat × Option Ob)) (ob : Obs), Obs.top (setO l ob) ≤ max (otop l) (Obs.top ob)
  | [], ob => by simp only [setO, otop]; omega
  | (j, none) :: r, ob => by
    have h1 := setO_top r ob
    have h2 := Obs.top_erase j (setO r ob)
    simp only [setO, otop]; omega
  | (j, some o) :: r, ob => by
    have h1 := setO_top r ob
    have h2 := Obs.top_erase j (setO r ob)
    simp only [setO, otop, Obs.top]; omega

theorem app_top {s : St} {e : Eff} {q : Nat} (h : s.top ≤ q) (he : e.top ≤ q) : (s.app e).top ≤ q := by
  have h1 : Env.top s.tm ≤ q := Nat.le_trans (Nat.le_max_left _ _) h
  have h2 : Obs.top s.ob ≤ q := Nat.le_trans (Nat.le_max_right _ _) h
  have h3 := setO_top e.ob s.ob
  have h4 : otop e.ob ≤ q := Nat.le_trans (Nat.le_max_right _ _) he
  have h5 : (match e.tm with | some (_, d) => D.top d | none => 0) ≤ q := Nat.le_trans (Nat.le_max_left _ _) he
  simp only [St.top, St.app]
  refine Nat.max_le.2 ⟨?_, by omega⟩
  cases hq : e.tm with
  | none => exact h1
  | some p =>
    obtain ⟨t, d⟩ := p
    rw [hq] at h5
    have := Env.top_erase t s.tm
    simp only [Env.top]
    simp only at h5
    omega

def stAt : List Eff → St → Nat → St
  | _, s, 0 => s
  | [], s, _ => s
  | e :: es, s, k + 1 => stAt es (s.app e) k

theorem stAt_succ : ∀ {es : List Eff} {s : St} {k : Nat} {e : Eff}, es[k]? = some e → stAt es s (k + 1) = (stAt es s k).app e
  | [], _, k, _, h => by simp at h
  | x :: es, s, 0, e, h => by
    simp at h; subst h
    cases es <;> rfl
  | x :: es, s, k + 1, e, h => by
    have := stAt_succ (es := es) (s := s.app x) (k := k) (e := e) (by simpa using h)
    simpa [stAt] using this

theorem canon_spec {P : Program} {b : Nat} : ∀ {sops : List SOp} {s : St} {es : List Eff} {s' : St}, Canon P b sops s es s' → sops.length = es.length ∧ s' = stAt es s es.length ∧ ∀ k o, sops[k]? = some o → ∃ e, es[k]? = some e ∧ Has P b o (stAt es s k) e
  | [], s, [], s', h => ⟨rfl, (show s' = s from h), fun k o hk => by simp at hk⟩
  | o :: r, s, e :: es, s', h => by
    obtain ⟨h1, h2⟩ := h
    obtain ⟨q1, q2, q3⟩ := canon_spec h2
    refine ⟨by simp [q1], by simpa [stAt] using q2, fun k o' hk => ?_⟩
    cases k with
    | zero => simp at hk; subst hk; exact ⟨e, rfl, by simpa [stAt] using h1⟩
    | succ k => obtain ⟨e', r1, r2⟩ := q3 k o' (by simpa using hk); exact ⟨e', by simpa using r1, by simpa [stAt] using r2⟩
  | [], _, _ :: _, _, h => h.elim
  | _ :: _, _, [], _, h => h.elim

theorem statJ_get {pre : List Nat} {j : Nat} {o2 : SOp} : ∀ {l : List SOp} {i0 : Nat}, statJ pre j o2 i0 l = true → ∀ (k : Nat) (o1 : SOp), l[k]? = some o1 → befor pre (i0 + k) j = true ∨ tmpApart o1 o2 = true
  | [], _, _, k, _, h => by simp at h
  | o :: l, i0, h, k, o1, h1 => by
    simp only [statJ, Bool.and_eq_true, Bool.or_eq_true] at h
    cases k with
    | zero => simp at h1; subst h1; simpa using h.1
    | succ k =>
      have := statJ_get h.2 k o1 (by simpa using h1)
      rwa [show i0 + 1 + k = i0 + (k + 1) by omega] at this

theorem statGo_get {pre : List Nat} {ops0 : List SOp} : ∀ {l : List SOp} {j0 : Nat}, statGo pre ops0 j0 l = true → ∀ (k : Nat) (o2 : SOp), l[k]? = some o2 → statJ pre (j0 + k) o2 0 (ops0.take (j0 + k)) = true
  | [], _, _, k, _, h => by simp at h
  | o :: l, j0, h, k, o2, h1 => by
    simp only [statGo, Bool.and_eq_true] at h
    cases k with
    | zero => simp at h1; subst h1; simpa using h.1
    | succ k =>
      have := statGo_get h.2 k o2 (by simpa using h1)
      rwa [show j0 + 1 + k = j0 + (k + 1) by omega] at this

theorem loudL_mem : ∀ {es : List Eff} {i0 k : Nat} {e : Eff}, es[k]? = some e → (e.ob = [] ∧ e.rd = []) ∨ (i0 + k, e) ∈ loudL i0 es
  | [], _, _, _, h => by simp at h
  | x :: es, i0, k, e, h => by
    cases k with
    | zero =>
      simp at h
      subst h
      simp only [loudL]
      split
      · rename_i h1 h2; exact .inl ⟨h1, h2⟩
      · exact .inr (by simp)
    | succ k =>
      have := loudL_mem (es := es) (i0 := i0 + 1) (k := k) (e := e) (by simpa using h)
      rw [show i0 + 1 + k = i0 + (k + 1) by omega] at this
      rcases this with this | this
      · exact .inl this
      · refine .inr ?_
        simp only [loudL]
        split
        · exact this
        · exact List.mem_cons_of_mem _ this

theorem allI_get {p : Nat → Eff → Bool} : ∀ {es : List Eff} {i0 : Nat}, allI p i0 es = true → ∀ (k : Nat) (e : Eff), es[k]? = some e → p (i0 + k) e = true
  | [], _, _, k, _, h => by simp at h
  | x :: es, i0, h, k, e, h1 => by
    simp only [allI, Bool.and_eq_true] at h
    cases k with
    | zero => simp at h1; subst h1; simpa using h.1
    | succ k =>
      have := allI_get h.2 k e (by simpa using h1)
      rwa [show i0 + 1 + k = i0 + (k + 1) by omega] at this

theorem namesGo_get {b : Nat} {pre : List Nat} {es0 : List Eff} : ∀ {l : List SOp} {es : List Eff} {j0 : Nat}, namesGo b pre es0 j0 l es = true → ∀ (k : Nat) (o : SOp) (e : Eff), l[k]? = some o → es[k]? = some e →
    (e.ob ≠ [] → ∀ t, o.dst = some t → ∀ (i : Nat) (x : Eff), es0[i]? = some x → i = j0 + k ∨ befor pre (j0 + k) i = true ∨ x.men (b + t) = false) ∧ (∀ q, e.cd = some q → ∀ (i : Nat) (x : Eff), es0[i]? = some x → i = j0 + k ∨ befor pre (j0 + k) i = true ∨ x.top ≤ q)
  | [], _, _, _, k, _, _, h, _ => by simp at h
  | _ :: _, [], _, _, k, _, _, _, h => by simp at h
  | o' :: l, e' :: es, j0, h, k, o, e, h1, h2 => by
    simp only [namesGo, Bool.and_eq_true] at h
    cases k with
    | zero =>
      simp at h1 h2
      subst h1
      subst h2
      refine ⟨fun hne t ht i x hx => ?_, fun q hq i x hx => ?_⟩
      · have := h.1.1
        split at this
        · rename_i hnil; exact absurd hnil hne
        · rw [ht] at this
          have := allI_get this i x hx
          simp only [Nat.zero_add, Bool.or_eq_true, beq_iff_eq, Bool.not_eq_true'] at this
          rcases this with (this | this) | this
          · exact .inl this
          · exact .inr (.inl this)
          · exact .inr (.inr this)
      · have := h.1.2
        rw [hq] at this
        have := allI_get this i x hx
        simp only [Nat.zero_add, Bool.or_eq_true, beq_iff_eq, decide_eq_true_eq] at this
        rcases this with (this | this) | this
        · exact .inl this
        · exact .inr (.inl this)
        · exact .inr (.inr this)
    | succ k =>
      have := namesGo_get h.2 k o e (by simpa using h1) (by simpa using h2)
      rwa [show j0 + 1 + k = j0 + (k + 1) by omega] at this

section
variable {b : Nat} {pre : List Nat} {ops : List SOp} {es : List Eff} {s : St}

theorem dchk_tmp (h : dchk b pre ops es s = true) {i j : Nat} {o1 o2 : SOp} (hij : i < j) (h1 : ops[i]? = some o1) (h2 : ops[j]? = some o2) (hb : ¬ befor pre i j = true) : tmpApart o1 o2 = true := by
  simp only [dchk, Bool.and_eq_true] at h
  have := statGo_get h.1.1.1 j o2 h2
  rw [Nat.zero_add] at this
  have := statJ_get this i o1 (by rw [List.getElem?_take, if_pos hij]; exact h1)
  rw [Nat.zero_add] at this
  exact this.resolve_left hb

theorem dchk_mem (h : dchk b pre ops es s = true) {i j : Nat} {e1 e2 : Eff} (hij : i < j) (q1 : es[i]? = some e1) (q2 : es[j]? = some e2) (hb : ¬ befor pre i j = true) :
    (∀ p ∈ e1.ob, p.1 ∉ e2.rd ∧ ∀ q ∈ e2.ob, q.1 ≠ p.1) ∧ ∀ p ∈ e2.ob, p.1 ∉ e1.rd := by
  simp only [dchk, Bool.and_eq_true, List.all_eq_true, Bool.or_eq_true, decide_eq_true_eq] at h
  have hm := h.1.1.2
  rcases loudL_mem (i0 := 0) q1 with ⟨h1, h2⟩ | h1
  · rw [h1, h2]; simp
  · rcases loudL_mem (i0 := 0) q2 with ⟨h3, h4⟩ | h3
    · rw [h3, h4]; simp
    · have := hm _ h3 _ h1
      simp only [Nat.zero_add] at this
      rcases this with (this | this) | this
      · omega
      · exact absurd this hb
      · unfold memApart at this
        split at this
        · rename_i h5 h6; rw [h5, h6]; simp
        · simp only [Bool.and_eq_true, List.all_eq_true, Bool.not_eq_true', List.any_eq_false, beq_iff_eq] at this
          refine ⟨fun p hp => ⟨fun hc => ?_, fun q hq => (this.1 p hp).2 q hq⟩, fun p hp hc => ?_⟩
          · have := (this.1 p hp).1
            rw [List.contains_iff_mem.2 hc] at this; cases this
          · have := this.2 p hp
            rw [List.contains_iff_mem.2 hc] at this; cases this

theorem dchk_names (h : dchk b pre ops es s = true) {j : Nat} {o : SOp} {e : Eff} (h1 : ops[j]? = some o) (h2 : es[j]? = some e) :
    (e.ob ≠ [] → ∀ t, o.dst = some t → ∀ (i : Nat) (x : Eff), es[i]? = some x → i = j ∨ befor pre j i = true ∨ x.men (b + t) = false) ∧ (∀ q, e.cd = some q → ∀ (i : Nat) (x : Eff), es[i]? = some x → i = j ∨ befor pre j i = true ∨ x.top ≤ q) := by
  simp only [dchk, Bool.and_eq_true] at h
  have := namesGo_get h.1.2 j o e h1 h2
  simpa using this

theorem dchk_top (h : dchk b pre ops es s = true) {e : Eff} (he : e ∈ es) {q : Nat} (hq : e.cd = some q) : s.top ≤ q := by
  simp only [dchk, Bool.and_eq_true, List.all_eq_true] at h
  have := h.2 e he
  rw [hq] at this
  simpa using this

end
end Go.Sx
