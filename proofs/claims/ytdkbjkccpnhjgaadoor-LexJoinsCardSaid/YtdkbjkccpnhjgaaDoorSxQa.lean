/- Own work: a layer over the kit: plain data, a walk over it, its soundness. -/
import Derived.Test.YtdkbjkccpnhjgaaDoorSxQ
import Derived.RangeFuncRecord
set_option linter.unusedSectionVars false
set_option linter.unusedVariables false
set_option linter.unusedSimpArgs false
set_option linter.deprecated false
namespace Go.Sx
open Go.RowKit
variable [Globs] [Codes]

theorem get?_lk_top {n : Nat} {tm : Env} (h : Env.top tm ≤ n) (t : Nat) : D.top ((lk tm t).getD .undef) ≤ n := by
  cases hl : lk tm t with
  | none => exact Nat.zero_le _
  | some d => exact Env.top_get h hl

theorem topL_le {n : Nat} : ∀ {cs : List D}, (∀ d ∈ cs, D.top d ≤ n) → D.topL cs ≤ n
  | [], _ => Nat.zero_le _
  | c :: cs, h => by
    simp only [D.topL]
    have h1 := h c (by simp)
    have h2 := topL_le (cs := cs) fun d hd => h d (List.mem_cons_of_mem _ hd)
    omega

theorem recd_top {P : Program} {st : LoopState} {pend : Option Code} {N : Nat} {ps : Array Tmp} {a b : SC} {tm : Env} {n : Nat} (h : Env.top tm ≤ n) : D.topL (recd P st pend N ps a b tm).parts ≤ n := by
  refine topL_le fun d hd => ?_
  simp only [recd, Ob.parts, List.mem_map] at hd
  obtain ⟨p, _, rfl⟩ := hd
  exact get?_lk_top h p.1

theorem env_mem {n : Nat} : ∀ {tm : Env}, Env.top tm ≤ n → ∀ {p}, p ∈ tm → D.top p.2 ≤ n
  | [], _, p, hp => by cases hp
  | (j, a) :: r, h, p, hp => by
    simp only [Env.top] at h
    rcases List.mem_cons.1 hp with rfl | hp
    · show D.top a ≤ n; omega
    · exact env_mem (tm := r) (by omega) hp

theorem constD_top (v : Value) (n : Nat) : D.top (constD v) ≤ n := by
  unfold constD
  split <;> exact Nat.zero_le _

section
variable {P : Program} {F : Fence} {n : Nat} {cx : Cx} {s : St} {φ φ' : Mem} {h : Nat → Value} {tmps : Array Value} {w w' : World}

theorem gen_kp {b : Nat} {id : Nat} (hm : Mod cx s φ h tmps w) (hi : (lk s.ob id).isSome) (hb : blk (h id) = some b) : ¬ (cx.kp b).isSome := fun hk => by
  obtain ⟨o, ho⟩ := Option.isSome_iff_exists.1 hk
  exact (hm.kept b o ho).2.2 id hi hb

/-- A new object. -/
theorem Mod.newOb (hm : Mod cx s φ h tmps w) {id : Nat} {o : Ob} {hv : Value} (hid : cx.bs ≤ id) (hct : ∀ t d, lk s.tm t = some d → D.men id d = false) (hco : ∀ t o, lk s.ob t = some o → Ob.men id o = false) (hone : hv.oneCell' = true) (hb : Below w.heap.size w w')
    (hob : ObR (w.heap.size ≤ ·) φ (updH h id hv) w' hv o) : Mod cx ⟨s.tm, (id, o) :: s.ob⟩ φ (updH h id hv) tmps w' := by
  have hmg : Mod cx s φ h tmps w' := hm.grown hb (fun _ _ _ h => h) (fun b o v hv => by rw [hb.cell (p := ⟨b, o, none⟩) (Sub.lt hm.mem hv)]; exact hm.mem b o v hv) (fun _ _ _ h h' => by rw [h] at h'; cases h')
  have hnew : ∀ b, blk hv = some b → w.heap.size ≤ b := fun b hbk => (hob.blk_lt hbk).2
  have hlt : ∀ i b, (lk s.ob i).isSome → blk (h i) = some b → b < w.heap.size := fun i b hi hbi => by
    obtain ⟨o, ho⟩ := Option.isSome_iff_exists.1 hi
    exact ((hm.ob i o ho).blk_lt hbi).1
  have hsome : ∀ i, i ≠ id → (lk ((id, o) :: s.ob) i).isSome → (lk s.ob i).isSome := fun i hne hi => by simpa only [lk, if_neg hne] using hi
  refine ⟨hmg.size, fun t d hd => (hmg.tm t d hd).upd id hv (hct _ _ hd), hmg.mem, hmg.ext, hmg.new, fun i o' ho' => ?_, fun i j b hi hj hbi hbj => ?_, hmg.os, hmg.tape, hmg.output, hmg.grow, fun i => ?_, hmg.frame, fun i hi => ?_, fun b o' hk => ?_⟩
  · simp only [lk] at ho'
    split at ho'
    · rename_i hi
      cases ho'
      subst hi
      rw [upd_same]
      exact hob.keep (fun b hb => Or.inl (Nat.le_trans hm.grow hb)) (fun _ _ => rfl) (fun _ _ _ h => h) (fun _ _ _ => rfl) (fun _ _ _ r => r)
    · rename_i hi
      rw [upd_other h hv hi]
      refine (hmg.ob i o' ho').keep (fun _ hb => hb) (fun _ _ => rfl) (fun _ _ _ h => h) (fun _ _ _ => rfl) (fun v d hdm r => ?_)
      have hmen := hco _ _ ho'
      obtain ⟨j, hj⟩ := List.mem_iff_getElem?.1 hdm
      exact r.upd id hv (menL_get hmen j d hj)
  · by_cases h1 : i = id <;> by_cases h2 : j = id
    · rw [h1, h2]
    · subst h1
      rw [upd_same] at hbi
      rw [upd_other h hv h2] at hbj
      exact absurd (hlt j b (hsome j h2 hj) hbj) (by have := hnew b hbi; omega)
    · subst h2
      rw [upd_same] at hbj
      rw [upd_other h hv h1] at hbi
      exact absurd (hlt i b (hsome i h1 hi) hbi) (by have := hnew b hbj; omega)
    · rw [upd_other h hv h1] at hbi
      rw [upd_other h hv h2] at hbj
      exact hm.sep i j b (hsome i h1 hi) (hsome j h2 hj) hbi hbj
  · simp only [updH]
    split
    · exact hone
    · exact hmg.one i
  · rw [upd_other h hv (by omega)]; exact hmg.hfix i hi
  · obtain ⟨h1, h2, h3⟩ := hmg.kept b o' hk
    refine ⟨h1, h2, fun i hi => ?_⟩
    by_cases hne : i = id
    · subst hne
      rw [upd_same]
      intro he
      have := hnew b he
      have := (Array.getElem?_eq_some_iff.1 (hm.kept b o' hk).1).1
      omega
    · rw [upd_other h hv hne]
      exact h3 i (hsome i hne hi)

/-- A mark. -/
theorem Mod.mark (hm : Mod cx s φ h tmps w) : Mod (cx.more [w.heap.size]) s φ h tmps (w.alloc (.deferred (some []))) := by
  have hb : Below w.heap.size w (w.alloc (.deferred (some []))) := (Below.refl _ w).alloc (Nat.le_refl _) _
  have hmg : Mod cx s φ h tmps (w.alloc (.deferred (some []))) := hm.grown hb (fun _ _ _ h => h) (fun b o v hv => by rw [hb.cell (p := ⟨b, o, none⟩) (Sub.lt hm.mem hv)]; exact hm.mem b o v hv) (fun _ _ _ h h' => by rw [h] at h'; cases h')
  refine ⟨hmg.size, hmg.tm, hmg.mem, hmg.ext, hmg.new, hmg.ob, hmg.sep, hmg.os, hmg.tape, hmg.output, hmg.grow, hmg.one, hmg.frame, hmg.hfix, fun b o hk => ?_⟩
  simp only [Cx.more] at hk
  cases hq : cx.kp b with
  | some o' => rw [hq] at hk; cases hk; exact hmg.kept b o hq
  | none =>
    rw [hq] at hk
    simp only [List.mem_singleton, Option.none_or] at hk
    split at hk
    · rename_i hbs
      cases hk
      subst hbs
      refine ⟨World.alloc_heap_new w _, fun off => ?_, fun i hi he => ?_⟩
      · cases hq : φ w.heap.size off with
        | none => rfl
        | some v => exact absurd (Sub.lt hm.mem hq) (by omega)
      · obtain ⟨o, ho⟩ := Option.isSome_iff_exists.1 hi
        have := ((hm.ob i o ho).blk_lt he).1
        omega
    · cases hk

end
end Go.Sx
