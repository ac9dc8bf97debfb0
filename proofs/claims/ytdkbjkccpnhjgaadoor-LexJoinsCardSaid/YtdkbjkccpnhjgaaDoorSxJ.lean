/- Own work: a layer over the kit: plain data, a walk over it, its soundness. -/
import Derived.Test.YtdkbjkccpnhjgaaDoorSxIa
set_option linter.unusedSectionVars false
set_option linter.unusedVariables false
set_option linter.unusedSimpArgs false
set_option linter.deprecated false
namespace Go.Sx
open Go.RowKit
variable [Globs] [Codes]

def St.clean (i : Nat) (s : St) : Bool := s.tm.all (fun p => !(D.men i p.2)) && s.ob.all fun p => !(Ob.men i p.2)

theorem St.clean_tm {i : Nat} {s : St} (h : s.clean i = true) {t : Nat} {d : D} (hl : lk s.tm t = some d) : D.men i d = false := by
  simp only [St.clean, Bool.and_eq_true] at h
  have h1 := h.1
  clear h
  generalize s.tm = l at *
  induction l with
  | nil => simp [lk] at hl
  | cons p l ih =>
    obtain ⟨j, a⟩ := p
    simp only [List.all_cons, Bool.and_eq_true, Bool.not_eq_true'] at h1
    simp only [lk] at hl
    split at hl
    · cases hl; exact h1.1
    · exact ih hl h1.2

theorem St.clean_ob {i : Nat} {s : St} (h : s.clean i = true) {t : Nat} {d : Ob} (hl : lk s.ob t = some d) : Ob.men i d = false := by
  simp only [St.clean, Bool.and_eq_true] at h
  have h1 := h.2
  clear h
  generalize s.ob = l at *
  induction l with
  | nil => simp [lk] at hl
  | cons p l ih =>
    obtain ⟨j, a⟩ := p
    simp only [List.all_cons, Bool.and_eq_true, Bool.not_eq_true'] at h1
    simp only [lk] at hl
    split at hl
    · cases hl; exact h1.1
    · exact ih hl h1.2

section
variable {cx : Cx} {s : St} {φ φ' : Mem} {h : Nat → Value} {tmps : Array Value} {w w' : World}

theorem ObR.blk_lt {own : Nat → Prop} {hv : Value} {o : Ob} (hob : ObR own φ h w hv o) {b : Nat} (hb : blk hv = some b) : b < w.heap.size ∧ own b := by
  cases o with
  | cells cs =>
    obtain ⟨b', vals, e, rfl, ho, hh, _⟩ := hob
    cases hb
    exact ⟨(Array.getElem?_eq_some_iff.1 hh).1, ho⟩
  | gen g ds =>
    obtain ⟨b', vals, o, hbk, ho, hh, _⟩ := hob
    rw [hb] at hbk
    cases hbk
    exact ⟨(Array.getElem?_eq_some_iff.1 hh).1, ho⟩
  | arr fz sz e es =>
    obtain ⟨_, _, xs, hown, _, hblk⟩ := hob
    refine ⟨?_, (hblk b hb).1⟩
    rcases hown.2 with ⟨rfl, _⟩ | ⟨g, cap, cur, rfl, _, hg, _⟩
    · cases hb
    · cases hb
      exact (Array.getElem?_eq_some_iff.1 hg).1

/-- An object stays what it is, if its block and what is known of it stay. -/
theorem ObR.keep {own own' : Nat → Prop} (hown : ∀ b, own b → own' b) {h h' : Nat → Value} {hv : Value} {o : Ob} (hob : ObR own φ h w hv o) (hw : ∀ b, blk hv = some b → w'.heap[b]? = w.heap[b]?)
    (hmono : ∀ b off u, φ b off = some u → φ' b off = some u) (hφ : ∀ b, blk hv = some b → ∀ off, φ' b off = φ b off) (hrv : ∀ v d, d ∈ o.parts → RV φ h v d → RV φ' h' v d) : ObR own' φ' h' w' hv o := by
  cases o with
  | cells cs =>
    obtain ⟨b, vals, e, rfl, ho, hh, hs, hc, hn⟩ := hob
    exact ⟨b, vals, e, rfl, hown b ho, by rw [hw b rfl]; exact hh, hs, fun j d hd => hrv _ _ (List.mem_of_getElem? hd) (hc j d hd), fun off => by rw [hφ b rfl]; exact hn off⟩
  | gen g ds =>
    obtain ⟨b, vals, o, hbk, ho, hh, hg, hs, hc, hn⟩ := hob
    exact ⟨b, vals, o, hbk, hown b ho, by rw [hw b hbk]; exact hh, hg, hs, fun j d hd => hrv _ _ (List.mem_of_getElem? hd) (hc j d hd), fun off => by rw [hφ b hbk]; exact hn off⟩
  | arr fz sz e es =>
    obtain ⟨h1, h2, xs, ⟨hx, hor⟩, hrep, hblk⟩ := hob
    refine ⟨h1, h2, xs, ⟨hx, ?_⟩, fun i x j d hi hj => (hrep i x j d hi hj).mono hmono, fun b hb => ⟨hown b (hblk b hb).1, fun off => by rw [hφ b hb]; exact (hblk b hb).2 off⟩⟩
    rcases hor with hor | ⟨g, cap, cur, rfl, r1, r2, r3⟩
    · exact .inl hor
    · exact .inr ⟨g, cap, cur, rfl, r1, by rw [hw g rfl]; exact r2, r3⟩

def hxx (h : Nat → Value) (dst : Nat) (hv : Value) (nb : Option Ob) : Nat → Value := hx h dst hv nb

def St.add (s : St) (dst id : Nat) (d : D) (nb : Option Ob) : St :=
  { tm := (dst, d) :: s.tm, ob := match nb with | none => s.ob | some o => (id, o) :: s.ob }

theorem phi_same {φ' : Mem} (hmono : ∀ b o u, φ b o = some u → φ' b o = some u) (hnew : ∀ b o u, φ' b o = some u → φ b o = none → w.heap.size ≤ b) {b : Nat} (hb : b < w.heap.size) (off : Nat) : φ' b off = φ b off := by
  cases hq : φ b off with
  | some u => exact hmono b off u hq
  | none =>
    cases hq' : φ' b off with
    | none => rfl
    | some u => exact absurd (hnew b off u hq' hq) (by omega)

/-- THE STEP OF A STATE. -/
theorem Mod.astep (hm : Mod cx s φ h tmps w) {dst id : Nat} {d : D} {nb : Option Ob} {v hv : Value} (hs : AStep φ h w id d nb v φ' hv w') (hd : dst < cx.N) (hid : cx.bs ≤ id) (hct : nb ≠ none → ∀ t d, lk s.tm t = some d → D.men id d = false) (hco : nb ≠ none → ∀ t o, lk s.ob t = some o → Ob.men id o = false) (hone : nb ≠ none → hv.oneCell' = true) :
    Mod cx (s.add dst id d nb) φ' (hx h id hv nb) (tmps.setIfInBounds dst v) w' := by
  have hsame := fun {b} hb off => phi_same (b := b) hs.mono hs.new hb off
  have hold : ∀ t e, lk s.tm t = some e → RV φ' (hx h id hv nb) (tmps.getD t Go.undef) e := fun t e he => by
    have := (hm.tm t e he).mono hs.mono
    cases nb with
    | none => exact this
    | some o => exact this.upd id hv (hct (by simp) _ _ he)
  refine ⟨by simp [hm.size], ?_, hs.mem, fun b o v hb => hs.mono b o v (hm.ext b o v hb), ?_, ?_, ?_, hs.below.os.trans hm.os, hs.below.tape.trans hm.tape, hs.below.output.trans hm.output, Nat.le_trans hm.grow hs.below.size, ?_, ?_, ?_, ?_⟩
  · intro t e he
    simp only [St.add, lk] at he
    split at he
    · rename_i ht
      cases he
      have : (tmps.setIfInBounds dst v).getD t Go.undef = v := by
        subst ht
        have : t < tmps.size := by rw [hm.size]; exact hd
        simp [Array.getD, this]
      rw [this]; exact hs.rv
    · rename_i ht
      have : (tmps.setIfInBounds dst v).getD t Go.undef = tmps.getD t Go.undef := by
        simp [Array.getD_eq_getD_getElem?, Ne.symm ht]
      rw [this]
      exact hold t e he
  · intro b o u hu h0
    cases hq : φ b o with
    | some u' => exact hm.new b o u' hq h0
    | none => exact .inl (Nat.le_trans hm.grow (hs.new b o u hu hq))
  · intro i o ho
    have hk : ∀ o', lk s.ob i = some o' → (nb ≠ none → i ≠ id) → ObR cx.own φ' (hx h id hv nb) w' (hx h id hv nb i) o' := fun o' ho' hne => by
      have hob := hm.ob i o' ho'
      have hi : hx h id hv nb i = h i := by
        cases nb with
        | none => rfl
        | some _ => exact upd_other _ _ (hne (by simp))
      rw [hi]
      refine hob.keep (fun _ hb => hb) (fun b hb => hs.below.block b (hob.blk_lt hb).1) hs.mono (fun b hb off => hsame (hob.blk_lt hb).1 off) (fun v d hdm r => ?_)
      have := r.mono hs.mono
      cases nb with
      | none => exact this
      | some _ =>
        have hmen := hco (by simp) _ _ ho'
        obtain ⟨j, hj⟩ := List.mem_iff_getElem?.1 hdm
        exact this.upd id hv (menL_get hmen j d hj)
    cases nb with
    | none => exact hk o ho (fun h => absurd rfl h)
    | some ob =>
      simp only [St.add, lk] at ho
      split at ho
      · rename_i hi
        cases ho
        subst hi
        have := hs.ob _ rfl
        have e : ∀ q, hx h i hv (some q) i = hv := fun _ => upd_same _ _ _
        rw [e]
        exact this.keep (fun b hb => Or.inl (Nat.le_trans hm.grow hb)) (fun _ _ => rfl) (fun _ _ _ h => h) (fun _ _ _ => rfl) (fun _ _ _ r => r)
      · rename_i hi
        exact hk o ho (fun _ => hi)
  · intro i j b hi hj hbi hbj
    cases nb with
    | none => exact hm.sep i j b hi hj hbi hbj
    | some ob =>
      have hnew : ∀ b, blk hv = some b → w.heap.size ≤ b := fun b hb => ((hs.ob ob rfl).blk_lt hb).2
      have hlt : ∀ i b, i ≠ id → (lk (s.add dst id d (some ob)).ob i).isSome → blk (h i) = some b → b < w.heap.size := fun i b hne hi hb => by
        simp only [St.add, lk, if_neg hne] at hi
        obtain ⟨o, ho⟩ := Option.isSome_iff_exists.1 hi
        exact ((hm.ob i o ho).blk_lt hb).1
      by_cases h1 : i = id <;> by_cases h2 : j = id
      · rw [h1, h2]
      · subst h1
        simp only [hx, upd_same] at hbi
        simp only [hx, upd_other h hv h2] at hbj
        exact absurd (hlt j b h2 hj hbj) (by have := hnew b hbi; omega)
      · subst h2
        simp only [hx, upd_same] at hbj
        simp only [hx, upd_other h hv h1] at hbi
        exact absurd (hlt i b h1 hi hbi) (by have := hnew b hbj; omega)
      · simp only [hx, upd_other h hv h1] at hbi
        simp only [hx, upd_other h hv h2] at hbj
        simp only [St.add, lk, if_neg h1] at hi
        simp only [St.add, lk, if_neg h2] at hj
        exact hm.sep i j b hi hj hbi hbj
  · intro i
    cases nb with
    | none => exact hm.one i
    | some _ =>
      simp only [hx, updH]
      split
      · exact hone (by simp)
      · exact hm.one i
  · intro b hb hz
    rw [hs.below.block b (Nat.lt_of_lt_of_le hb hm.grow)]
    exact hm.frame b hb hz
  · intro i hi
    rw [← hm.hfix i hi]
    cases nb with
    | none => rfl
    | some _ => exact upd_other _ _ (by omega)
  · intro b o hb
    obtain ⟨h1, h2, h3⟩ := hm.kept b o hb
    have hlt := (Array.getElem?_eq_some_iff.1 h1).1
    refine ⟨by rw [hs.below.block b hlt]; exact h1, fun off => by rw [hsame hlt off]; exact h2 off, fun i hi => ?_⟩
    cases nb with
    | none => exact h3 i hi
    | some ob =>
      by_cases hid' : i = id
      · subst hid'
        simp only [hx, upd_same]
        intro he
        have := ((hs.ob ob rfl).blk_lt he).2
        omega
      · simp only [hx, upd_other h hv hid']
        simp only [St.add, lk, if_neg hid'] at hi
        exact h3 i hi

end
end Go.Sx
