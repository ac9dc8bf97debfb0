/- Own work: a layer over the kit: plain data, a walk over it, its soundness. -/
import Derived.Test.YtdkbjkccpnhjgaaDoorSxRb
set_option linter.unusedSectionVars false
set_option linter.unusedVariables false
set_option linter.unusedSimpArgs false
set_option linter.deprecated false
namespace Go.Sx
open Go.RowKit
variable [Globs] [Codes]

section congr
variable {P : Program} {dst : Nat} {obs obs' : Nat → Option Ob} {K : D → Option Ob → Prop}

theorem dv_congr {d : D} (h : ∀ i ∈ vids [d], obs i = obs' i) : dv obs d = dv obs' d := by
  cases d <;> first | rfl | (rename_i id; simp only [dv]; rw [h id (by simp [vids])])

theorem vids_cons {d : D} {r : List D} {i : Nat} : i ∈ vids (d :: r) ↔ i ∈ vids [d] ∨ i ∈ vids r := by
  cases d <;> simp [vids]

theorem dvs_congr : ∀ {ds : List D}, (∀ i ∈ vids ds, obs i = obs' i) → ds.map (dv obs) = ds.map (dv obs')
  | [], _ => rfl
  | d :: r, h => by
    rw [List.map_cons, List.map_cons, dv_congr fun i hi => h i (vids_cons.2 (.inl hi)), dvs_congr fun i hi => h i (vids_cons.2 (.inr hi))]

theorem buildD_congr : ∀ {ps : List (Nat × Nat)} {ds cs : List D}, (∀ i ∈ vids ds, obs i = obs' i) → buildD obs cs ps ds = buildD obs' cs ps ds
  | [], [], cs, _ => rfl
  | [], _ :: _, cs, _ => rfl
  | _ :: _, [], cs, _ => rfl
  | (off, sz) :: ps, d :: ds, cs, h => by
    simp only [buildD]
    rw [dv_congr (obs' := obs') fun i hi => h i (vids_cons.2 (.inl hi))]
    split
    · exact buildD_congr fun i hi => h i (vids_cons.2 (.inr hi))
    · rfl

theorem sliceOf_congr {d : D} (h : ∀ i ∈ vids [d], obs i = obs' i) : sliceOf obs d = sliceOf obs' d := by
  cases d <;> first | rfl | (rename_i id; simp only [sliceOf]; rw [h id (by simp [vids])])

theorem load_congr {sz id off : Nat} (hev : evl P dst (.load true sz) [.ptr id off] obs K) (h : ∀ i ∈ rdA obs (.load true sz) [.ptr id off], obs i = obs' i) : evl P dst (.load true sz) [.ptr id off] obs' K := by
  have h1 : obs id = obs' id := h id (by simp [rdA])
  simp only [evl] at hev ⊢
  rw [← h1]
  cases hq : obs id with
  | none => rw [hq] at hev; exact hev
  | some o =>
    rw [hq] at hev
    cases o with
    | cells cs =>
      simp only [if_true] at hev ⊢
      rw [← dvs_congr (obs := obs) fun i hi => h i (by simp only [rdA, hq]; exact List.mem_cons_of_mem _ hi)]
      exact hev
    | arr => exact hev
    | gen => exact hev

theorem evl_congr {op : AOp} {xs : List D} (hev : evl P dst op xs obs K) (h : ∀ i ∈ rdA obs op xs, obs i = obs' i) : evl P dst op xs obs' K := by
  by_cases hl : ∃ sz id off, op = .load true sz ∧ xs = [.ptr id off]
  · obtain ⟨sz, id, off, rfl, rfl⟩ := hl
    exact load_congr hev h
  unfold evl at hev
  split at hev
  all_goals try (simp only [evl]; exact hev)
  all_goals try
    (rename_i ag sz id off
     cases ag
     · simp only [evl]
       rw [← h id (by simp [rdA, pids])]
       exact hev
     · exact absurd ⟨sz, id, off, rfl, rfl⟩ hl)
  all_goals simp only [rdA] at h
  all_goals try simp only [evl]
  all_goals first
    | (rw [← buildD_congr (obs := obs) h]; exact hev)
    | (rw [← h _ (by simp [vids])]; exact hev)
    | (rw [← sliceOf_congr (obs := obs) fun i hi => h i (vids_cons.2 (.inl hi))]; exact hev)
    | (rw [← dvs_congr (obs := obs) h]; exact hev)
    | exact hev

theorem rdA_congr {op : AOp} {xs : List D} (h : ∀ i ∈ rdA obs op xs, obs i = obs' i) : rdA obs' op xs = rdA obs op xs := by
  by_cases hl : ∃ sz id off, op = .load true sz ∧ xs = [.ptr id off]
  · obtain ⟨sz, id, off, rfl, rfl⟩ := hl
    have h1 : obs id = obs' id := h id (by simp [rdA])
    simp only [rdA, h1]
  · unfold rdA
    split
    · exact absurd ⟨_, _, _, rfl, rfl⟩ hl
    all_goals rfl

end congr

section has
variable {P : Program} {b : Nat} {s s' : St} {e : Eff}

theorem get_congr {x : X} (h : ∀ t ∈ tmpsX [x], lk s.tm t = lk s'.tm t) : s.get x = s'.get x := by
  cases x with
  | t t => simp only [St.get]; rw [h t (by simp [tmpsX])]
  | c d => rfl

theorem tmpsX_cons {x : X} {r : List X} {t : Nat} : t ∈ tmpsX (x :: r) ↔ t ∈ tmpsX [x] ∨ t ∈ tmpsX r := by
  cases x <;> simp [tmpsX]

theorem gets_congr : ∀ {xs : List X}, (∀ t ∈ tmpsX xs, lk s.tm t = lk s'.tm t) → xs.map s.get = xs.map s'.get
  | [], _ => rfl
  | x :: r, h => by
    rw [List.map_cons, List.map_cons, get_congr fun t ht => h t (tmpsX_cons.2 (.inl ht)), gets_congr fun t ht => h t (tmpsX_cons.2 (.inr ht))]

theorem gud_congr {g : Option (Nat × Bool)} {p q : Prop} (h : ∀ t ∈ tmpsG g, lk s.tm t = lk s'.tm t) (hg : gud g s p q) : gud g s' p q := by
  cases g with
  | none => exact hg
  | some gw =>
    obtain ⟨t, w⟩ := gw
    simp only [gud] at hg ⊢
    rw [← h t (by simp [tmpsG])]
    exact hg

theorem gud_mono {g : Option (Nat × Bool)} {p q p' q' : Prop} (hp : p → p') (hq : q → q') (hg : gud g s p q) : gud g s p' q' := by
  cases g with
  | none => exact hp hg
  | some gw =>
    obtain ⟨t, w⟩ := gw
    simp only [gud] at hg ⊢
    split at hg
    · split at hg
      · rename_i hb; rw [if_pos hb]; exact hp hg
      · rename_i hb; rw [if_neg hb]; exact hq hg
    · exact hq hg
    · exact hg

theorem dva_congr {obs obs' : Nat → Option Ob} {d : D} (h : ∀ i ∈ vids [d], obs i = obs' i) : dva obs d = dva obs' d := by
  cases d <;> first | rfl | (rename_i id; simp only [dva]; rw [h id (by simp [vids])])

theorem handO_congr {ob ob' : Obs} {g : Nat → Option Nat} : ∀ {r : List Nat} {k : Nat}, (∀ i ∈ r, lk ob i = lk ob' i) → handO ob g k r = handO ob' g k r
  | [], _, _ => rfl
  | i :: r, k, h => by
    simp only [handO]
    rw [h i (by simp), handO_congr fun j hj => h j (List.mem_cons_of_mem _ hj)]

theorem vids_mem {xs : List X} {y : X} (hy : y ∈ xs) {f : X → D} {i : Nat} (hi : i ∈ vids [f y]) : i ∈ vids (xs.map f) := by
  induction xs with
  | nil => cases hy
  | cons z r ih =>
    rw [List.map_cons]
    rcases List.mem_cons.1 hy with rfl | hy
    · exact vids_cons.2 (.inl hi)
    · exact vids_cons.2 (.inr (ih hy))

theorem tmpsX_mem {xs : List X} {y : X} (hy : y ∈ xs) {t : Nat} (ht : t ∈ tmpsX [y]) : t ∈ tmpsX xs := by
  induction xs with
  | nil => cases hy
  | cons z r ih =>
    rcases List.mem_cons.1 hy with rfl | hy
    · exact tmpsX_cons.2 (.inl ht)
    · exact tmpsX_cons.2 (.inr (ih hy))

/-- What an operation does hangs on what it looks at alone. -/
theorem HasB.congr {o : SOp} (hh : HasB P b o s e) (ht : ∀ t ∈ o.tmps, lk s.tm t = lk s'.tm t) (ho : ∀ i ∈ e.rd, lk s.ob i = lk s'.ob i) : HasB P b o s' e := by
  cases o with
  | a dst g op xs =>
    obtain ⟨h1, h2, h3⟩ := hh
    have hx := gets_congr (s := s) (s' := s') (xs := xs) fun t h => ht t (by simp [SOp.tmps, h])
    rw [h1] at ho
    refine ⟨?_, h2, ?_⟩
    · rw [h1, ← hx]; exact (rdA_congr ho).symm
    · rw [← hx]; exact evl_congr h3 ho
  | st g sz x y =>
    have hx := get_congr (s := s) (s' := s') (x := x) fun t h => ht t (by simp only [SOp.tmps, List.mem_append]; exact .inl (tmpsX_cons.2 (.inl h)))
    have hy := get_congr (s := s) (s' := s') (x := y) fun t h => ht t (by simp only [SOp.tmps, List.mem_append]; exact .inl (tmpsX_cons.2 (.inr h)))
    simp only [HasB] at hh ⊢
    rw [← hx, ← hy]
    split at hh
    · rename_i id off hxd
      split at hh
      · rename_i cs hl
        have hrd : id ∈ e.rd := by rw [hh.2.2.2]; simp
        rw [← ho id hrd, hl]
        exact hh
      · exact hh.elim
    · exact hh.elim
  | app dst g fz sz et x y =>
    have hx := get_congr (s := s) (s' := s') (x := x) fun t h => ht t (by simp only [SOp.tmps, List.mem_append]; exact .inl (tmpsX_cons.2 (.inl h)))
    have hy := get_congr (s := s) (s' := s') (x := y) fun t h => ht t (by simp only [SOp.tmps, List.mem_append]; exact .inl (tmpsX_cons.2 (.inr h)))
    simp only [HasB] at hh ⊢
    rw [← hx, ← hy]
    split at hh
    · rename_i ys _ hso
      obtain ⟨h1, h2⟩ := hh
      have hrd : ∀ i ∈ vids [s.get y], i ∈ e.rd := fun i hi => by
        split at h2
        · rw [h2.2]; exact hi
        · split at h2
          · rw [h2.2.2.2]; exact List.mem_cons_of_mem _ hi
          · exact h2.elim
        · exact h2.elim
      rw [← sliceOf_congr (obs := lk s.ob) fun i hi => ho i (hrd i hi), hso]
      refine ⟨h1, ?_⟩
      split at h2
      · exact h2
      · rename_i id hxd
        split at h2
        · rename_i fz' sz' e' es hl
          have hid : id ∈ e.rd := by rw [h2.2.2.2]; simp
          rw [← ho id hid, hl]
          exact h2
        · exact h2.elim
      · exact h2.elim
    · exact hh.elim
  | cd dst g x xs =>
    obtain ⟨nm, r, ob', base, h1, h2, h3, h4, h5⟩ := hh
    have hx := get_congr (s := s) (s' := s') (x := x) fun t h => ht t (by simp only [SOp.tmps, List.mem_append]; exact .inl (tmpsX_cons.2 (.inl h)))
    have hxs : ∀ x ∈ xs, s.get x = s'.get x := fun y hy => get_congr fun t h => ht t (by
      simp only [SOp.tmps, List.mem_append]
      exact .inl (tmpsX_cons.2 (.inr (tmpsX_mem hy h))))
    have hrd : e.rd = nm ++ vids (xs.map s.get) := by rw [h5]
    have hmap : xs.map s.get = xs.map s'.get := List.map_congr_left hxs
    have hdva : (xs.map fun x => dva (lk s.ob) (s.get x)) = xs.map fun x => dva (lk s'.ob) (s'.get x) := by
      refine List.map_congr_left fun y hy => ?_
      rw [← hxs y hy]
      refine dva_congr fun i hi => ho i ?_
      rw [hrd]
      exact List.mem_append_right _ (vids_mem hy hi)
    refine ⟨nm, r, ob', base, h1, fun i hi => ?_, h3, ?_, ?_⟩
    · rw [← ho i (by rw [hrd]; exact List.mem_append_left _ hi)]; exact h2 i hi
    · rw [← hx, ← hdva, ← handO_congr (ob := s.ob) fun i hi => ho i (by rw [hrd]; exact List.mem_append_left _ hi)]
      exact h4
    · rw [← hmap]; exact h5

end has

end Go.Sx
