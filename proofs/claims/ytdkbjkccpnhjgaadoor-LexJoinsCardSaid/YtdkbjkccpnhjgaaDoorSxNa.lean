/- Own work: a layer over the kit: plain data, a walk over it, its soundness. -/
import Derived.Test.YtdkbjkccpnhjgaaDoorSxMa
set_option linter.unusedSectionVars false
set_option linter.unusedVariables false
set_option linter.unusedSimpArgs false
set_option linter.deprecated false
namespace Go.Sx
open Go.RowKit
variable [Globs] [Codes]

def hcal (h : Nat → Value) (nm : List Nat) : Nat → Value := fun j => match nm[j]? with | some i => h i | none => .pointer none
def hbak (h h' : Nat → Value) (base : Nat) : Nat → Value := fun i => if base ≤ i then h' (i - base) else h i

section
variable {cx : Cx} {s : St} {φ φ' : Mem} {h h' : Nat → Value} {tmps : Array Value} {w w' : World} {nm : List Nat}

theorem hcal_get {k i : Nat} (hk : nm[k]? = some i) : hcal h nm k = h i := by simp [hcal, hk]

theorem ren_hand {d : D} {v : Value} (r : RV φ h v d) : RV φ (hcal h nm) v (d.ren (idx · nm)) := r.ren fun i k hk _ => hcal_get (idx_get hk)

theorem Mod.loc (hm : Mod cx s φ h tmps w) (hg : GlobOK φ) (hnd : nm.Nodup) : Loc (fun _ => True) (handO s.ob (idx · nm) 0 nm) φ (hcal h nm) w := by
  refine ⟨fun i => ?_, hg, hm.mem, fun j o ho => ?_, fun i j b hi hj hbi hbj => ?_⟩
  · simp only [hcal]
    split
    · exact hm.one _
    · rfl
  · obtain ⟨i, o0, _, h1, h2, rfl⟩ := handO_lk nm 0 j o ho
    rw [Nat.sub_zero] at h1
    rw [hcal_get h1]
    exact (hm.ob i o0 h2).ren (fun _ _ => trivial) fun i k hk _ => hcal_get (idx_get hk)
  · obtain ⟨oi, hoi⟩ := Option.isSome_iff_exists.1 hi
    obtain ⟨oj, hoj⟩ := Option.isSome_iff_exists.1 hj
    obtain ⟨i1, o1, _, q1, q2, _⟩ := handO_lk nm 0 i oi hoi
    obtain ⟨j1, o2, _, r1, r2, _⟩ := handO_lk nm 0 j oj hoj
    rw [Nat.sub_zero] at q1 r1
    rw [hcal_get q1] at hbi
    rw [hcal_get r1] at hbj
    have := hm.sep i1 j1 b (by rw [q2]; rfl) (by rw [r2]; rfl) hbi hbj
    subst this
    exact (List.getElem?_inj (i := i) (j := j) (List.getElem?_eq_some_iff.1 q1).1 hnd).1 (q1.trans r1.symm)

/-- BACK IN THE CALLER. -/
theorem Mod.back (hm : Mod cx s φ h tmps w) {base : Nat} (hb1 : cx.bs ≤ base) (hb2 : s.top ≤ base) (hnd : nm.Nodup) (hin : ∀ i ∈ nm, (lk s.ob i).isSome) {ob' : Obs} (ha : After (handO s.ob (idx · nm) 0 nm) φ (hcal h nm) w ob' φ' h' w') :
    Mod cx (s.back base nm ob') φ' (hbak h h' base) tmps w' ∧ ∀ v r, RV φ' h' v r → RV φ' (hbak h h' base) v (r.ren (bkN base nm)) := by
  have htt : Env.top s.tm ≤ base := Nat.le_trans (Nat.le_max_left _ _) hb2
  have hto : Obs.top s.ob ≤ base := Nat.le_trans (Nat.le_max_right _ _) hb2
  have hnm : ∀ i ∈ nm, i < base := fun i hi => by
    obtain ⟨o, ho⟩ := Option.isSome_iff_exists.1 (hin i hi)
    exact (Obs.top_get hto ho).1
  have hag : ∀ i, i < base → hbak h h' base i = h i := fun i hi => by simp only [hbak]; rw [if_neg (by omega)]
  have hZ : ∀ b, ZOf (handO s.ob (idx · nm) 0 nm) (hcal h nm) b → ∃ i, i ∈ nm ∧ (lk s.ob i).isSome ∧ blk (h i) = some b := fun b ⟨j, hj, hbj⟩ => by
    obtain ⟨o, ho⟩ := Option.isSome_iff_exists.1 hj
    obtain ⟨i, o0, _, h1, h2, _⟩ := handO_lk nm 0 j o ho
    rw [Nat.sub_zero] at h1
    rw [hcal_get h1] at hbj
    exact ⟨i, List.mem_of_getElem? h1, by rw [h2]; rfl, hbj⟩
  have hown : ∀ i b, (lk s.ob i).isSome → blk (h i) = some b → cx.own b ∧ b < w.heap.size := fun i b hi hb => by
    obtain ⟨o, ho⟩ := Option.isSome_iff_exists.1 hi
    exact ⟨((hm.ob i o ho).blk_lt hb).2, ((hm.ob i o ho).blk_lt hb).1⟩
  have hZown : ∀ b, ZOf (handO s.ob (idx · nm) 0 nm) (hcal h nm) b → cx.own b ∧ b < w.heap.size := fun b hz => by
    obtain ⟨i, _, h2, h3⟩ := hZ b hz
    exact hown i b h2 h3
  have hown' : ∀ b, (w.heap.size ≤ b ∨ ZOf (handO s.ob (idx · nm) 0 nm) (hcal h nm) b) → cx.own b := fun b hb => hb.elim (fun hb => .inl (Nat.le_trans hm.grow hb)) fun hb => (hZown b hb).1
  have hφs : ∀ b, b < w.heap.size → ¬ ZOf (handO s.ob (idx · nm) 0 nm) (hcal h nm) b → ∀ off, φ' b off = φ b off := fun b hb hz off => by
    cases hq : φ b off with
    | some u => exact ha.ext b off u hq
    | none =>
      cases hq' : φ' b off with
      | none => rfl
      | some u => exact ((ha.new b off u hq' hq).elim (fun h => by omega) hz).elim
  have hfr : ∀ i b, i ∉ nm → (lk s.ob i).isSome → blk (h i) = some b → ¬ ZOf (handO s.ob (idx · nm) 0 nm) (hcal h nm) b := fun i b hi ho hb hz => by
    obtain ⟨j, h1, h2, h3⟩ := hZ b hz
    exact hi (hm.sep i j b ho h2 hb h3 ▸ h1)
  -- the handles
  have hinj : ∀ j k, (match nm[j]? with | some i => i | none => base + j) = (match nm[k]? with | some i => i | none => base + k) → j = k := fun j k e => by
    cases hj : nm[j]? with
    | none =>
      cases hk : nm[k]? with
      | none => rw [hj, hk] at e; simp only at e; omega
      | some i =>
        rw [hj, hk] at e
        have := hnm i (List.mem_of_getElem? hk)
        simp only at e
        omega
    | some i =>
      cases hk : nm[k]? with
      | none =>
        rw [hj, hk] at e
        have := hnm i (List.mem_of_getElem? hj)
        simp only at e
        omega
      | some i' =>
        rw [hj, hk] at e
        simp only at e
        subst e
        exact (List.getElem?_inj (List.getElem?_eq_some_iff.1 hj).1 hnd).1 (hj.trans hk.symm)
  have hh : ∀ j, hbak h h' base (match nm[j]? with | some i => i | none => base + j) = h' j := fun j => by
    cases hj : nm[j]? with
    | none => simp only [hbak]; rw [if_pos (by omega)]; congr 1; omega
    | some i =>
      have hi := List.mem_of_getElem? hj
      rw [hag i (hnm i hi), ha.hfix j (handO_some nm 0 j i (Nat.zero_le _) (by simpa using hj) (hin i hi)), hcal_get hj]
  have hg : ∀ i k, bkN base nm i = some k → hbak h h' base k = h' i := fun i k hk => by
    have : k = (match nm[i]? with | some i => i | none => base + i) := by
      unfold bkN at hk
      cases hq : nm[i]? with
      | none => rw [hq] at hk; simpa using hk.symm
      | some q => rw [hq] at hk; simpa using hk.symm
    rw [this]; exact hh i
  have hcase : ∀ i o, lk (s.back base nm ob').ob i = some o → (i ∉ nm ∧ lk s.ob i = some o) ∨ ∃ j o0, (match nm[j]? with | some i => i | none => base + j) = i ∧ lk ob' j = some o0 ∧ o = o0.ren (bkN base nm) := fun i o ho => by
    simp only [St.back] at ho
    rw [lk_append, dropO_lk] at ho
    by_cases hi : i ∈ nm
    · rw [if_pos hi] at ho
      simp only [Option.none_or] at ho
      exact .inr (renO_lk ho hinj)
    · rw [if_neg hi] at ho
      cases hq : lk s.ob i with
      | some o' => rw [hq] at ho; simp at ho; subst ho; exact .inl ⟨hi, rfl⟩
      | none => rw [hq] at ho; simp only [Option.none_or] at ho; exact .inr (renO_lk ho hinj)
  refine ⟨⟨hm.size, fun t d hd => ((hm.tm t d hd).mono ha.ext).under (Env.top_get htt hd) hag, ha.loc.mem, fun b o v hv => ha.ext b o v (hm.ext b o v hv), fun b o v hv h0 => ?_, fun i o ho => ?_, fun i j b hi hj hbi hbj => ?_,
    ha.os.trans hm.os, ha.tape.trans hm.tape, ha.output.trans hm.output, Nat.le_trans hm.grow ha.grow, fun i => ?_, fun b hb hz => ?_, fun i hi => ?_, fun b o hk => ?_⟩, fun v r hr => hr.ren fun i k hk _ => hg i k hk⟩
  · cases hq : φ b o with
    | some u => exact hm.new b o u hq h0
    | none => exact hown' b (ha.new b o v hv hq)
  · rcases hcase i o ho with ⟨h1, h2⟩ | ⟨j, o0, h1, h2, rfl⟩
    · have hlt := (Obs.top_get hto h2).1
      rw [hag i hlt]
      have hob := hm.ob i o h2
      refine hob.keep (fun _ hb => hb) (fun b hb => ha.frame b (hob.blk_lt hb).1 (hfr i b h1 (by rw [h2]; rfl) hb)) ha.ext (fun b hb => hφs b (hob.blk_lt hb).1 (hfr i b h1 (by rw [h2]; rfl) hb)) (fun v d hd r => ?_)
      exact (r.mono ha.ext).under (topL_get (Obs.top_get hto h2).2 hd) hag
    · have hob := ha.loc.obj j o0 h2
      rw [← h1, hh j]
      exact hob.ren (fun b hb => hown' b (hob.blk_lt hb).2) fun i k hk _ => hg i k hk
  · obtain ⟨oi, hoi⟩ := Option.isSome_iff_exists.1 hi
    obtain ⟨oj, hoj⟩ := Option.isSome_iff_exists.1 hj
    have mix : ∀ i j oj, i ∉ nm → (lk s.ob i).isSome → lk ob' j = some oj → blk (h i) = some b → blk (h' j) = some b → False := fun i j oj h1 h2 h3 hb1 hb2 => by
      rcases ((ha.loc.obj j oj h3).blk_lt hb2).2 with h4 | h4
      · have := (hown i b h2 hb1).2; omega
      · exact hfr i b h1 h2 hb1 h4
    rcases hcase i oi hoi with ⟨h1, h2⟩ | ⟨i', o0, h1, h2, rfl⟩ <;> rcases hcase j oj hoj with ⟨q1, q2⟩ | ⟨j', o1, q1, q2, rfl⟩
    · rw [hag i (Obs.top_get hto h2).1] at hbi
      rw [hag j (Obs.top_get hto q2).1] at hbj
      exact hm.sep i j b (by rw [h2]; rfl) (by rw [q2]; rfl) hbi hbj
    · rw [hag i (Obs.top_get hto h2).1] at hbi
      rw [← q1, hh j'] at hbj
      exact (mix i j' o1 h1 (by rw [h2]; rfl) q2 hbi hbj).elim
    · rw [hag j (Obs.top_get hto q2).1] at hbj
      rw [← h1, hh i'] at hbi
      exact (mix j i' o0 q1 (by rw [q2]; rfl) h2 hbj hbi).elim
    · rw [← h1, hh i'] at hbi
      rw [← q1, hh j'] at hbj
      have := ha.loc.sep i' j' b (by rw [h2]; rfl) (by rw [q2]; rfl) hbi hbj
      rw [← h1, ← q1, this]
  · simp only [hbak]
    split
    · exact ha.loc.one _
    · exact hm.one _
  · have hlt : b < w.heap.size := Nat.lt_of_lt_of_le hb hm.grow
    rw [ha.frame b hlt (fun hzz => (hZown b hzz).1.elim (fun h => by omega) hz)]
    exact hm.frame b hb hz
  · rw [hag i (by omega)]; exact hm.hfix i hi
  · obtain ⟨q1, q2, q3⟩ := hm.kept b o hk
    have hlt := (Array.getElem?_eq_some_iff.1 q1).1
    have hnz : ¬ ZOf (handO s.ob (idx · nm) 0 nm) (hcal h nm) b := fun hz => by
      obtain ⟨i, _, h2, h3⟩ := hZ b hz
      exact q3 i h2 h3
    refine ⟨by rw [ha.frame b hlt hnz]; exact q1, fun off => by rw [hφs b hlt hnz]; exact q2 off, fun i hi hb => ?_⟩
    obtain ⟨oi, hoi⟩ := Option.isSome_iff_exists.1 hi
    rcases hcase i oi hoi with ⟨h1, h2⟩ | ⟨j, o0, h1, h2, rfl⟩
    · rw [hag i (Obs.top_get hto h2).1] at hb
      exact q3 i (by rw [h2]; rfl) hb
    · rw [← h1, hh j] at hb
      rcases ((ha.loc.obj j o0 h2).blk_lt hb).2 with h3 | h3
      · omega
      · exact hnz h3

/-- Other names for what is new. -/
theorem Mod.names (hm : Mod cx s φ h tmps w) {f : Nat → Nat} {g : Nat → Option Nat} {h2 : Nat → Value} (hinj : ∀ j k, (g j).isSome → (g k).isSome → f j = f k → j = k) (hfg : ∀ j k, g j = some k → k = f j) (hh : ∀ j k, g j = some k → h2 k = h j) (hone : HOne h2)
    (hfix : ∀ i, i < cx.bs → h2 i = h i) {tm : Env} {ob : Obs} (htm : ∀ t d, lk tm t = some d → ∃ d0, lk s.tm t = some d0 ∧ d = d0.ren g) (hob : ∀ i o, lk ob i = some o → ∃ j o0, g j = some i ∧ lk s.ob j = some o0 ∧ o = o0.ren g) : Mod cx ⟨tm, ob⟩ φ h2 tmps w := by
  refine ⟨hm.size, fun t d hd => ?_, hm.mem, hm.ext, hm.new, fun i o ho => ?_, fun i j b hi hj hbi hbj => ?_, hm.os, hm.tape, hm.output, hm.grow, hone, hm.frame, fun i hi => (hfix i hi).trans (hm.hfix i hi), fun b o hk => ?_⟩
  · obtain ⟨d0, h0, rfl⟩ := htm t d hd
    exact (hm.tm t d0 h0).ren fun i k hk _ => hh i k hk
  · obtain ⟨j, o0, h1, h3, rfl⟩ := hob i o ho
    rw [hh j i h1]
    have := hm.ob j o0 h3
    exact this.ren (fun b hb => (this.blk_lt hb).2) fun i k hk _ => hh i k hk
  · obtain ⟨oi, hoi⟩ := Option.isSome_iff_exists.1 hi
    obtain ⟨oj, hoj⟩ := Option.isSome_iff_exists.1 hj
    obtain ⟨i', o0, q1, q3, _⟩ := hob i oi hoi
    obtain ⟨j', o1, r1, r3, _⟩ := hob j oj hoj
    rw [hh i' i q1] at hbi
    rw [hh j' j r1] at hbj
    have := hm.sep i' j' b (by rw [q3]; rfl) (by rw [r3]; rfl) hbi hbj
    subst this
    rw [q1] at r1
    exact Option.some.inj r1
  · obtain ⟨q1, q2, q3⟩ := hm.kept b o hk
    refine ⟨q1, q2, fun i hi hb => ?_⟩
    obtain ⟨oi, hoi⟩ := Option.isSome_iff_exists.1 hi
    obtain ⟨j, o0, r1, r3, _⟩ := hob i oi hoi
    rw [hh j i r1] at hb
    exact q3 j (by rw [r3]; rfl) hb

/-- Under the first names. -/
theorem Mod.canS (hm : Mod cx s φ h tmps w) {tm : Env} (htm : ∀ t d, lk tm t = some d → lk s.tm t = some d) {nw : List Nat} : ∃ h2, (∀ v d, RV φ h v d → RV φ h2 v (d.ren (canG cx.bs nw))) ∧ Mod cx (canS cx.bs nw tm s.ob) φ h2 tmps w := by
  let f : Nat → Nat := fun i => if i < cx.bs then i else cx.bs + (idx i nw).getD 0
  let h2 : Nat → Value := fun k => if k < cx.bs then h k else match nw[k - cx.bs]? with | some i => h i | none => .pointer none
  have hgf : ∀ j k, canG cx.bs nw j = some k → k = f j := fun j k hk => by
    simp only [canG] at hk
    simp only [f]
    split at hk
    · rename_i hj; cases hk; rw [if_pos hj]
    · rename_i hj
      rw [if_neg hj]
      cases hq : idx j nw with
      | none => rw [hq] at hk; cases hk
      | some q => rw [hq] at hk; simp at hk; simp [hk]
  have hg2 : ∀ j k, canG cx.bs nw j = some k → h2 k = h j := fun j k hk => by
    simp only [canG] at hk
    simp only [h2]
    split at hk
    · rename_i hj; cases hk; rw [if_pos hj]
    · rename_i hj
      cases hq : idx j nw with
      | none => rw [hq] at hk; cases hk
      | some q =>
        rw [hq] at hk
        simp at hk
        subst hk
        rw [if_neg (by omega), Nat.add_sub_cancel_left, idx_get hq]
  have hinj : ∀ j k, (canG cx.bs nw j).isSome → (canG cx.bs nw k).isSome → f j = f k → j = k := fun j k hj hk e => by
    simp only [f] at e
    simp only [canG] at hj hk
    by_cases h1 : j < cx.bs <;> by_cases h2 : k < cx.bs
    · simpa [h1, h2] using e
    · rw [if_pos h1, if_neg h2] at e; omega
    · rw [if_neg h1, if_pos h2] at e; omega
    · rw [if_neg h1] at hj
      rw [if_neg h2] at hk
      rw [if_neg h1, if_neg h2] at e
      cases hq : idx j nw with
      | none => rw [hq] at hj; cases hj
      | some q =>
        cases hq' : idx k nw with
        | none => rw [hq'] at hk; cases hk
        | some q' =>
          rw [hq, hq'] at e
          simp at e
          have e1 := idx_get hq
          have e2 := idx_get hq'
          rw [e] at e1
          exact Option.some.inj (e1.symm.trans e2)
  refine ⟨h2, fun v d r => r.ren fun i k hk _ => hg2 i k hk, hm.names hinj hgf hg2 (fun i => ?_) (fun i hi => by simp only [h2]; rw [if_pos hi]) (fun t d hd => ?_) (fun i o ho => ?_)⟩
  · simp only [h2]
    split
    · exact hm.one _
    · split
      · exact hm.one _
      · rfl
  · obtain ⟨d0, h0, rfl⟩ := renE_lk hd
    exact ⟨d0, htm t d0 h0, rfl⟩
  · have ho' : lk (oldO cx.bs (canG cx.bs nw) s.ob ++ newO s.ob (canG cx.bs nw) cx.bs nw) i = some o := ho
    rw [lk_append] at ho'
    cases hq : lk (oldO cx.bs (canG cx.bs nw) s.ob) i with
    | some o' =>
      rw [hq] at ho'
      simp at ho'
      subst ho'
      obtain ⟨h1, o0, h3, h4⟩ := oldO_lk s.ob i o' hq
      exact ⟨i, o0, by simp [canG, h1], h3, h4⟩
    | none =>
      rw [hq] at ho'
      simp only [Option.none_or] at ho'
      exact newO_lk nw cx.bs i o ho'


end
end Go.Sx
