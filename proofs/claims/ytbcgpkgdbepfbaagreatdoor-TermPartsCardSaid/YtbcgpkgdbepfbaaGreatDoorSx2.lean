/- Own work: a layer over the kit: plain data, a walk over it, its soundness. -/
import Derived.Test.YtbcgpkgdbepfbaaGreatDoorSx1
set_option linter.unusedSectionVars false
set_option linter.unusedVariables false
set_option linter.unusedSimpArgs false
set_option linter.deprecated false
namespace Go.Sx
open Go.RowKit
variable [Globs] [Codes]

theorem setAt_get : ∀ (ds : List D) (off : Nat) (cs : List D) (j : Nat) (d : D), (setAt cs off ds)[j]? = some d → (off ≤ j ∧ j < off + ds.length ∧ ds[j - off]? = some d) ∨ (¬ (off ≤ j ∧ j < off + ds.length) ∧ cs[j]? = some d)
  | [], off, cs, j, d, h => .inr ⟨by simp only [List.length_nil]; omega, h⟩
  | x :: ds, off, cs, j, d, h => by
    simp only [setAt] at h
    rcases setAt_get ds (off + 1) (cs.set off x) j d h with ⟨h1, h2, h3⟩ | ⟨h1, h2⟩
    · refine .inl ⟨by omega, by simp; omega, ?_⟩
      rw [show j - off = (j - (off + 1)) + 1 by omega]
      simpa using h3
    · rw [List.getElem?_set] at h2
      split at h2
      · rename_i hj
        subst hj
        split at h2
        · cases h2
          exact .inl ⟨Nat.le_refl _, by simp, by simp⟩
        · cases h2
      · exact .inr ⟨by simp only [List.length_cons]; omega, h2⟩

section
variable {cx : Cx} {s : St} {φ φ' : Mem} {h : Nat → Value} {tmps : Array Value} {w w' : World}

/-- A STORE INTO THE CELLS OF AN OBJECT. -/
theorem Mod.setRow (hm : Mod cx s φ h tmps w) {id b : Nat} {cs cs' : List D} {vals vals' : Array Value} {e : TypeId} (hl : lk s.ob id = some (.cells cs)) (hb : h id = .pointer (some ⟨b, 0, none⟩))
    (hw : w.heap[b]? = some (.cells vals e (0, 0))) (hc : CR φ h vals' cs') : Mod cx { s with ob := (id, .cells cs') :: s.ob } φ h tmps (w.setRow b vals') := by
  have hob := hm.ob id _ hl
  obtain ⟨b', vals0, e0, hb', hown, hh, hs, hrv, hnone⟩ := hob
  rw [hb] at hb'
  cases hb'
  have hother : ∀ k, k ≠ b → (w.setRow b vals').heap[k]? = w.heap[k]? := fun k hk => setRow_other w b k _ hk
  refine ⟨hm.size, hm.tm, ?_, hm.ext, hm.new, ?_, ?_, hm.os, hm.tape, hm.output, by simpa using hm.grow, hm.one, ?_, hm.hfix, ?_⟩
  · intro g o v hv
    have hg : g ≠ b := fun e => by rw [e, hnone] at hv; cases hv
    rw [World.cell?_of_block (w := w) (a := ⟨g, o, none⟩) (hother g hg)]
    exact hm.mem g o v hv
  · intro i o ho
    simp only [lk] at ho
    split at ho
    · rename_i hi
      cases ho
      subst hi
      exact ⟨b, vals', e, hb, hown, setRow_heap w b vals vals' e _ hw, hc.1, hc.2, hnone⟩
    · rename_i hi
      refine (hm.ob i o ho).keep (fun _ hb => hb) (fun k hk => hother k ?_) (fun _ _ _ h => h) (fun _ _ _ => rfl) (fun _ _ _ r => r)
      intro e'
      subst e'
      exact hi (hm.sep i id k (by simp [ho]) (by simp [hl]) hk (by rw [hb]; rfl))
  · intro i j k hi hj hbi hbj
    have hh : ∀ i, (lk ((id, Ob.cells cs') :: s.ob) i).isSome → (lk s.ob i).isSome := fun i hi => by
      simp only [lk] at hi
      split at hi
      · rename_i e'; rw [e', hl]; rfl
      · exact hi
    exact hm.sep i j k (hh i hi) (hh j hj) hbi hbj
  · intro k hk hz
    have : k ≠ b := fun e' => by
      subst e'
      rcases hown with h1 | h1
      · omega
      · exact hz h1
    rw [hother k this]
    exact hm.frame k hk hz
  · intro k o hk
    obtain ⟨h1, h2, h3⟩ := hm.kept k o hk
    have : k ≠ b := fun e' => h3 id (by simp [hl]) (by rw [hb, e']; rfl)
    refine ⟨by rw [hother k this]; exact h1, h2, fun i hi => h3 i ?_⟩
    simp only [lk] at hi
    split at hi
    · rename_i e'; rw [e', hl]; rfl
    · exact hi

theorem CR.setAt {vals : Array Value} {cs ds : List D} {vs : List Value} (off : Nat) (hc : CR φ h vals cs) (hv : RVL φ h vs ds) (hle : off + ds.length ≤ cs.length) :
    CR φ h (vals.toList.take off ++ vs ++ vals.toList.drop (off + vs.length)).toArray (setAt cs off ds) := by
  have hl := hv.length
  have hs := hc.1
  refine ⟨by simp [setAt_length]; omega, fun j d hd => ?_⟩
  have hgd : (vals.toList.take off ++ vs ++ vals.toList.drop (off + vs.length)).toArray.getD j Go.undef = (vals.toList.take off ++ (vs ++ vals.toList.drop (off + vs.length))).getD j Go.undef := by
    simp [Array.getD_eq_getD_getElem?, List.getD]
  rw [hgd]
  rcases setAt_get ds off cs j d hd with ⟨h1, h2, h3⟩ | ⟨h1, h2⟩
  · have := hv.get (j - off) d h3
    have e1 : (vals.toList.take off ++ (vs ++ vals.toList.drop (off + vs.length))).getD j Go.undef = vs.getD (j - off) Go.undef := by
      simp only [List.getD]
      rw [List.getElem?_append_right (by simp; omega), List.getElem?_append_left (by simp; omega)]
      congr 2
      simp; omega
    rw [e1]; exact this
  · have := hc.2 j d h2
    have hj : j < cs.length := (List.getElem?_eq_some_iff.1 h2).1
    have e1 : (vals.toList.take off ++ (vs ++ vals.toList.drop (off + vs.length))).getD j Go.undef = vals.getD j Go.undef := by
      simp only [List.getD, Array.getD_eq_getD_getElem?]
      by_cases hlt : j < off
      · rw [List.getElem?_append_left (by simp; omega), List.getElem?_take, if_pos hlt]; simp
      · rw [List.getElem?_append_right (by simp; omega), List.getElem?_append_right (by simp; omega), List.getElem?_drop]
        simp only [List.length_take, Array.length_toList, Array.getElem?_toList]
        congr 2
        omega
    rw [e1]; exact this

theorem exec_store {P : Program} {o : Oper} {ρ : Operand → Value} {t : TypeId} {x y : Operand} {b off sz : Nat} {vals : Array Value} {e : TypeId} (ho : o.op = .store t x y) (hs : szT P t = some sz) (hx : ρ x = .pointer (some ⟨b, off, none⟩))
    (hw : w.heap[b]? = some (.cells vals e (0, 0))) (hsz : (ρ y).cells.size = sz) (hle : off + sz ≤ vals.size) (h1 : ∀ v ∈ (ρ y).cells.toList, v.oneCell' = true) :
    (execOp ρ o).run P w = .ok .skip (w.setRow b (vals.toList.take off ++ (ρ y).cells.toList ++ vals.toList.drop (off + (ρ y).cells.toList.length)).toArray) := by
  have hst := run_storeCells_at P b off e (ρ y).cells.toList 0 vals w hw (by simp; omega) h1
  simp only [Nat.add_zero] at hst
  simp only [execOp, ho, hx, Instr.storeAt, Instr.sureAddr, storeVar, Sem.run_bind, Sem.run_pure, Result.andThen_ok, run_sizeOf hs, hsz, ne_eq, not_true_eq_false, if_false, hst]

/-- An aggregate's parts are one cell each. -/
def D.flat : D → Bool
  | .agg cs => cs.all D.one
  | d => D.one d

theorem cells_flat {v : Value} {d : D} (hh : HOne h) (r : RV φ h v d) (hf : D.flat d = true) : ∀ u ∈ v.cells.toList, u.oneCell' = true := by
  by_cases ha : ∃ cs, d = .agg cs
  · obtain ⟨cs, rfl⟩ := ha
    obtain ⟨vs, rfl, hs, hc⟩ := r.agg_inv
    intro u hu
    obtain ⟨j, hj⟩ := List.mem_iff_getElem?.1 hu
    have hlt : j < cs.length := by
      have := (List.getElem?_eq_some_iff.1 hj).1
      rw [← hs]; simpa [Value.cells] using this
    have hcj := hc j _ (List.getElem?_eq_getElem hlt)
    have : vs.getD j Go.undef = u := by
      simp only [Value.cells, Array.getElem?_toList] at hj
      simp [Array.getD_eq_getD_getElem?, hj]
    rw [this] at hcj
    exact hcj.one hh (List.all_eq_true.1 hf _ (List.getElem_mem hlt))
  · have h1 : D.one d = true := by
      cases d <;> first | exact hf | exact absurd ⟨_, rfl⟩ ha
    have h2 := r.one hh h1
    rw [cells_one h2]
    intro u hu
    simp at hu
    subst hu
    exact h2

theorem flat_okc {d : D} (hf : D.flat d = true) : D.okc d = true := by
  cases d <;> first | exact hf | rfl

/-- The store, from the state's side. -/
theorem store_sound {P : Program} {o : Oper} {ρ : Operand → Value} {t : TypeId} {x y : Operand} {sz id off : Nat} {cs : List D} {d : D} (ho : o.op = .store t x y) (hs : szT P t = some sz) (hm : Mod cx s φ h tmps w)
    (hx : RV φ h (ρ x) (.ptr id off)) (hy : RV φ h (ρ y) d) (hl : lk s.ob id = some (.cells cs)) (hf : D.flat d = true) (hd : d.cells.length = sz) (hle : off + sz ≤ cs.length) :
    ∃ w', (execOp ρ o).run P w = .ok .skip w' ∧ Mod cx { s with ob := (id, .cells (Sx.setAt cs off d.cells)) :: s.ob } φ h tmps w' := by
  obtain ⟨b, hb, hxv⟩ := hx.ptr_inv
  have hob := hm.ob id _ hl
  obtain ⟨b', vals, e, hb', hown, hh, hsz, hrv, hnone⟩ := hob
  rw [hb] at hb'
  cases hb'
  have hcr := hy.cells hm.one (flat_okc hf)
  have hlen : (ρ y).cells.size = sz := by rw [hcr.1, hd]
  refine ⟨_, exec_store ho hs hxv hh hlen (by omega) (cells_flat hm.one hy hf), hm.setRow hl hb hh ?_⟩
  refine CR.setAt off ⟨hsz, hrv⟩ (RVL_of_get _ _ (by simpa using hcr.1) fun j d' hd' => ?_) (by omega)
  have := hcr.2 j d' hd'
  simpa [Array.getD_eq_getD_getElem?, List.getD] using this

end
/-- A row with a piece put in: its places. -/
theorem splice_get {α : Type} (A vs : List α) (off p : Nat) (h : off + vs.length ≤ A.length) : (A.take off ++ vs ++ A.drop (off + vs.length))[p]? = if off ≤ p ∧ p < off + vs.length then vs[p - off]? else A[p]? := by
  by_cases h1 : p < off
  · rw [if_neg (by omega), List.append_assoc, List.getElem?_append_left (by rw [List.length_take]; omega), List.getElem?_take, if_pos h1]
  · by_cases h2 : p < off + vs.length
    · rw [if_pos ⟨by omega, h2⟩, List.append_assoc, List.getElem?_append_right (by rw [List.length_take]; omega), List.getElem?_append_left (by rw [List.length_take]; omega)]
      rw [List.length_take]; congr 1; omega
    · rw [if_neg (by omega), List.getElem?_append_right (by rw [List.length_append, List.length_take]; omega), List.getElem?_drop]
      rw [List.length_append, List.length_take]; congr 1; omega

section
variable {cx : Cx} {s : St} {φ φ' : Mem} {h : Nat → Value} {tmps : Array Value} {w w' : World}

/-- An object's block turned. -/
theorem Mod.turn (hm : Mod cx s φ h tmps w) {id b : Nat} {o0 o' : Ob} (hother : ∀ k, k ≠ b → w'.heap[k]? = w.heap[k]?) (hos : w'.os = w.os) (htape : w'.tape = w.tape) (hout : w'.output = w.output) (hgrow : w.heap.size ≤ w'.heap.size) (hl : lk s.ob id = some o0) (hb : blk (h id) = some b) (hnone : ∀ off, φ b off = none)
    (hob' : ObR cx.own φ h w' (h id) o') : Mod cx { s with ob := (id, o') :: s.ob } φ h tmps w' := by
  have hown := ((hm.ob id _ hl).blk_lt hb).2
  refine ⟨hm.size, hm.tm, ?_, hm.ext, hm.new, ?_, ?_, hos.trans hm.os, htape.trans hm.tape, hout.trans hm.output, Nat.le_trans hm.grow hgrow, hm.one, ?_, hm.hfix, ?_⟩
  · intro g o v hv
    have hg : g ≠ b := fun e => by rw [e, hnone] at hv; cases hv
    rw [World.cell?_of_block (w := w) (a := ⟨g, o, none⟩) (hother g hg)]
    exact hm.mem g o v hv
  · intro i o ho
    simp only [lk] at ho
    split at ho
    · rename_i hi
      cases ho
      subst hi
      exact hob'
    · rename_i hi
      refine (hm.ob i o ho).keep (fun _ hb => hb) (fun k hk => hother k ?_) (fun _ _ _ h => h) (fun _ _ _ => rfl) (fun _ _ _ r => r)
      intro e'
      subst e'
      exact hi (hm.sep i id k (by simp [ho]) (by simp [hl]) hk hb)
  · intro i j k hi hj hbi hbj
    have hh : ∀ i, (lk ((id, o') :: s.ob) i).isSome → (lk s.ob i).isSome := fun i hi => by
      simp only [lk] at hi
      split at hi
      · rename_i e'; rw [e', hl]; rfl
      · exact hi
    exact hm.sep i j k (hh i hi) (hh j hj) hbi hbj
  · intro k hk hz
    have : k ≠ b := fun e' => by
      subst e'
      rcases hown with h1 | h1
      · omega
      · exact hz h1
    rw [hother k this]
    exact hm.frame k hk hz
  · intro k o hk
    obtain ⟨h1, h2, h3⟩ := hm.kept k o hk
    have : k ≠ b := fun e' => h3 id (by simp [hl]) (by rw [hb, e'])
    refine ⟨by rw [hother k this]; exact h1, h2, fun i hi => h3 i ?_⟩
    simp only [lk] at hi
    split at hi
    · rename_i e'; rw [e', hl]; rfl
    · exact hi

theorem Mod.setBlk (hm : Mod cx s φ h tmps w) {id b : Nat} {o0 o' : Ob} {vals' : Array Value} (hl : lk s.ob id = some o0) (hb : blk (h id) = some b) (hnone : ∀ off, φ b off = none)
    (hob' : ObR cx.own φ h (w.setRow b vals') (h id) o') : Mod cx { s with ob := (id, o') :: s.ob } φ h tmps (w.setRow b vals') :=
  hm.turn (fun k hk => setRow_other w b k _ hk) rfl rfl rfl (by simp) hl hb hnone hob'

/-- A STORE INTO AN ELEMENT OF AN OWN ROW. -/
theorem vstore_sound {P : Program} {o : Oper} {ρ : Operand → Value} {t : TypeId} {x y : Operand} {sz id i j sz' : Nat} {e : TypeId} {es : List (List D)} {cs : List D} {d : D} (ho : o.op = .store t x y) (hs : szT P t = some sz) (hm : Mod cx s φ h tmps w)
    (hx : RV φ h (ρ x) (.vptr id i j sz')) (hy : RV φ h (ρ y) d) (hl : lk s.ob id = some (.arr false sz' e es)) (hi : es[i]? = some cs) (hf : D.flat d = true) (hp : d.cells.all D.pur = true) (hd : d.cells.length = sz) (hle : j + sz ≤ sz') :
    ∃ w', (execOp ρ o).run P w = .ok .skip w' ∧ Mod cx { s with ob := (id, .arr false sz' e (es.set i (Sx.setAt cs j d.cells))) :: s.ob } φ h tmps w' := by
  obtain ⟨b, len, cap, hsz0, hh, hxv⟩ := hx.vptr_inv
  have hob := hm.ob id _ hl
  obtain ⟨h0, hlen, xs, ⟨hxl, hor⟩, hrep, hblk⟩ := hob
  rw [hh] at hor hblk
  rcases hor with ⟨h1, _⟩ | ⟨g, cap', cur, hv, _, hg, hnc, hcm, hcs, htake⟩
  · cases h1
  cases hv
  have hcr := hy.cells hm.one (flat_okc hf)
  have hlv : (ρ y).cells.size = sz := by rw [hcr.1, hd]
  have hlv2 : (ρ y).cells.toList.length = sz := by simpa using hlv
  have hil : i < es.length := (List.getElem?_eq_some_iff.1 hi).1
  have hcl : cs.length = sz' := hlen _ (List.mem_of_getElem? hi)
  have hrow : i * sz' + sz' ≤ es.length * sz' := by
    have : (i + 1) * sz' ≤ es.length * sz' := Nat.mul_le_mul_right _ hil
    rwa [Nat.add_mul, Nat.one_mul] at this
  have hcap : es.length * sz' ≤ cur.size := by rw [hcs]; exact Nat.mul_le_mul_right _ hnc
  have hnone : ∀ off, φ b off = none := fun off => by
    have := (hblk b rfl).2 off
    simpa using this
  refine ⟨_, exec_store ho hs hxv hg hlv (by omega) (cells_flat hm.one hy hf), hm.setBlk hl (by rw [hh]; rfl) hnone ?_⟩
  have hvl : ∀ k d', d.cells[k]? = some d' → Rep φ ((ρ y).cells.toList.getD k Go.undef) d' := fun k d' hk => by
    have h2 := hcr.2 k d' hk
    have hpu : D.pur d' = true := List.all_eq_true.1 hp _ (List.mem_of_getElem? hk)
    have := RV.pur_rep hpu h2
    simpa [Array.getD_eq_getD_getElem?, List.getD] using this
  have hsetl : (Sx.setAt cs j d.cells).length = sz' := by rw [setAt_length]; exact hcl
  rw [hh]
  have hxl2 : (i * sz' + j) + (ρ y).cells.toList.length ≤ xs.length := by rw [hxl, hlv2]; omega
  have hcl2 : (i * sz' + j) + (ρ y).cells.toList.length ≤ cur.toList.length := by rw [hlv2, Array.length_toList]; omega
  refine ⟨h0, ?_, xs.take (i * sz' + j) ++ (ρ y).cells.toList ++ xs.drop (i * sz' + j + (ρ y).cells.toList.length), ⟨?_, .inr ⟨b, cap, _, by rw [List.length_set], by assumption, setRow_heap w b cur _ e _ hg, by rw [List.length_set]; exact hnc, hcm, ?_, ?_⟩⟩, ?_, ?_⟩
  · intro q hq
    rcases List.mem_or_eq_of_mem_set hq with h | h
    · exact hlen q h
    · rw [h]; exact hsetl
  · rw [List.length_set]
    simp only [List.length_append, List.length_take, List.length_drop]
    omega
  · simp only [List.size_toArray, List.length_append, List.length_take, List.length_drop, Array.length_toList]
    rw [← hcs]
    rw [Array.length_toList] at hcl2
    omega
  · rw [List.length_set]
    refine List.ext_getElem? fun p => ?_
    rw [List.getElem?_take, splice_get _ _ _ _ hxl2]
    simp only []
    rw [splice_get _ _ _ _ hcl2]
    by_cases hpn : p < es.length * sz'
    · rw [if_pos hpn]
      split
      · rfl
      · rw [← htake, List.getElem?_take, if_pos hpn]
    · rw [if_neg hpn, if_neg (by omega)]
      rw [List.getElem?_eq_none (by omega)]
  · intro i' q j' d' hi' hj'
    have hq : q.length = sz' := by
      rw [List.getElem?_set] at hi'
      split at hi'
      · cases hi'; exact hsetl
      · exact hlen _ (List.mem_of_getElem? hi')
    have hj2 : j' < sz' := by rw [← hq]; exact (List.getElem?_eq_some_iff.1 hj').1
    rw [List.getD_eq_getElem?_getD, splice_get _ _ _ _ hxl2, hlv2]
    by_cases hii : i = i'
    · subst hii
      rw [List.getElem?_set_self hil] at hi'
      cases hi'
      rcases setAt_get _ _ _ _ _ hj' with ⟨g1, g2, g3⟩ | ⟨g1, g2⟩
      · rw [hd] at g2
        rw [if_pos (by omega), show i * sz' + j' - (i * sz' + j) = j' - j by omega, ← List.getD_eq_getElem?_getD]
        exact hvl _ _ g3
      · rw [hd] at g1
        rw [if_neg (by omega), ← List.getD_eq_getElem?_getD]
        exact hrep i cs j' d' hi g2
    · rw [List.getElem?_set_ne hii] at hi'
      have hout : ¬ (i * sz' + j ≤ i' * sz' + j' ∧ i' * sz' + j' < i * sz' + j + sz) := by
        rcases Nat.lt_or_gt_of_ne hii with hlt | hlt
        · have : (i + 1) * sz' ≤ i' * sz' := Nat.mul_le_mul_right _ hlt
          rw [Nat.add_mul, Nat.one_mul] at this; omega
        · have : (i' + 1) * sz' ≤ i * sz' := Nat.mul_le_mul_right _ hlt
          rw [Nat.add_mul, Nat.one_mul] at this; omega
      rw [if_neg hout, ← List.getD_eq_getElem?_getD]
      exact hrep i' q j' d' hi' hj'
  · intro b' hb'
    refine ⟨(hblk b' hb').1, fun off => ?_⟩
    rw [(hblk b' hb').2 off]
    simp
end

/-- A store: where it must lie ahead of what, the object, what the object becomes. -/
def stO (sk : SK) (x y : D) (obs : Nat → Option Ob) : Option (Nat × Nat × Nat × Ob) := match x with
  | .ptr id off => match sk with
    | .c sz => match obs id with
      | some (.cells cs) => if D.flat y = true ∧ y.cells.length = sz ∧ off + sz ≤ cs.length then some (0, 1, id, .cells (setAt cs off y.cells)) else none
      | _ => none
    | _ => none
  | .vptr id i j sz' => match sk with
    | .c sz => match obs id with
      | some (.arr false sz2 e es) => if sz2 = sz' ∧ D.flat y = true ∧ y.cells.all D.pur = true ∧ y.cells.length = sz ∧ j + sz ≤ sz' then some (i, es.length, id, .arr false sz' e (es.set i (if j = 0 ∧ sz = sz' then y.cells else setAt (es.getD i []) j y.cells))) else none
      | _ => none
    | _ => none
  | .map id => match sk with
    | .m key => match obs id with
      | some (.gen (.map ks) ds) => match mfind key ks ds with
        | some none => some (0, 1, id, .gen (.map (ks ++ [key])) (ds ++ [y]))
        | _ => none
      | _ => none
    | _ => none
  | _ => none

/-- A map's key in the code. -/
def mapK (P : Program) (t : TypeId) (k : Operand) : Option D := match k, P.underlying t with
  | .const v, some (.map kt _) => match keyK P kt with
    | some kd => if isKD kd (constD v) = true then some (constD v) else none
    | none => none
  | _, _ => none

/-- The store in the code. -/
def StOp (P : Program) (o : Oper) (sk : SK) (x y : Operand) : Prop :=
  (∃ t sz, sk = .c sz ∧ o.op = .store t x y ∧ szT P t = some sz) ∨ ∃ t k key, sk = .m key ∧ (o.op = .insert t x k y ∨ o.op = .mapUpdate t x k y) ∧ mapK P t k = some key

theorem keyV_ok {kd : Option IntKind} {v : Value} (h : isKD kd (constD v) = true) : keyV (constD v) = v := by
  unfold constD at h ⊢
  split <;> simp_all [isKD, keyV]

theorem setAt_full : ∀ (ds cs : List D), cs.length = ds.length → setAt cs 0 ds = ds := fun ds cs h => by
  refine List.ext_getElem? fun k => ?_
  by_cases hk : k < ds.length
  · have h1 : k < (setAt cs 0 ds).length := by rw [setAt_length]; omega
    rcases setAt_get ds 0 cs k _ (List.getElem?_eq_getElem h1) with ⟨_, _, h3⟩ | ⟨h3, _⟩
    · rw [List.getElem?_eq_getElem h1]; exact h3.symm
    · omega
  · rw [List.getElem?_eq_none (by rw [setAt_length]; omega), List.getElem?_eq_none (by omega)]

section
variable {cx : Cx} {s : St} {φ φ' : Mem} {h : Nat → Value} {tmps : Array Value} {w w' : World}
theorem insert_sound {P : Program} {o : Oper} {ρ : Operand → Value} {t : TypeId} {x k y : Operand} {key d : D} {id : Nat} {ks ds : List D} (hρc : ∀ v, ρ (.const v) = v) (ho : o.op = .insert t x k y ∨ o.op = .mapUpdate t x k y) (hk : mapK P t k = some key) (hm : Mod cx s φ h tmps w)
    (hx : RV φ h (ρ x) (.map id)) (hy : RV φ h (ρ y) d) (hl : lk s.ob id = some (.gen (.map ks) ds)) (hf : mfind key ks ds = some none) :
    ∃ w', (execOp ρ o).run P w = .ok .skip w' ∧ Mod cx { s with ob := (id, .gen (.map (ks ++ [key])) (ds ++ [d])) :: s.ob } φ h tmps w' := by
  unfold mapK at hk
  split at hk
  · rename_i v kt et hu
    split at hk
    · rename_i kd hkd
      split at hk
      · rename_i hik
        cases hk
        obtain ⟨b, vals, oo, hblk, hown, hheap, ⟨⟨b', hb'⟩, es, clock, rfl, h1, h2, h3, h4⟩, hlen, hrv, hnone⟩ := hm.ob id _ hl
        rw [hb'] at hblk
        cases hblk
        have hrl : RVL φ h (es.toList.map MapEntry.val) ds := RVL_of_get _ _ (by rw [h2, hlen]) (fun j d hd => by rw [h2]; exact hrv j d hd)
        have hu2 := keyK_ok hkd
        have hkv : RV φ h v (constD v) := rv_const φ h v
        have hik2 := isKD_key hik hkv
        have hc := fun e => MapKept.run_checkKey (w := w) hu2 hik2 e 9999
        rcases find_key hik hkv es.toList ks ds 0 none h1 hrl hf with ⟨_, hfn⟩ | ⟨_, _, _, h9, _⟩
        · have hrun : (execOp ρ o).run P w = .ok .skip { w with heap := w.heap.setIfInBounds b (.map (es.push { key := v, val := ρ y, born := clock }) (clock + 1)) } := by
            rcases ho with ho | ho <;>
              simp [execOp, ho, hx.map_inv.1, hb', hρc, Instr.mapUpdate, run_underlying hu, MapKept.run_getObj_map hheap, hc, MapKept.run_findKey hu2 hfn, MapKept.run_setObj_map _ hheap, Result.andThen]
          refine ⟨_, hrun, hm.turn (fun k hk => (MapKept.heap_set hheap).2 k hk) rfl rfl rfl (by simp) hl (by rw [hb']; rfl) hnone ?_⟩
          refine ⟨b, vals ++ [ρ y], _, by rw [hb']; rfl, hown, (MapKept.heap_set hheap).1, ⟨⟨b, hb'⟩, _, _, rfl, ?_, ?_, ?_, ?_⟩, by simp [hlen], ?_, hnone⟩
          · simp [h1, keyV_ok hik]
          · simp [h2]
          · simp only [Array.toList_push, List.map_append, List.map_cons, List.map_nil]
            rw [List.nodup_append]
            refine ⟨h3, by simp, fun a ha a' ha' e => ?_⟩
            simp only [List.mem_singleton] at ha'
            obtain ⟨x, hx, rfl⟩ := List.mem_map.1 ha
            have := h4 x (by simpa using hx)
            omega
          · intro x hx
            rw [Array.mem_push] at hx
            rcases hx with hx | rfl
            · have := h4 x hx; omega
            · simp
          · intro j d' hd'
            rw [List.getElem?_append] at hd'
            split at hd'
            · rename_i hj
              rw [List.getD_eq_getElem?_getD, List.getElem?_append_left (by omega), ← List.getD_eq_getElem?_getD]
              exact hrv j d' hd'
            · rename_i hj
              have hj2 : j = ds.length := by
                have := (List.getElem?_eq_some_iff.1 hd').1
                simp at this; omega
              subst hj2
              simp only [Nat.sub_self, List.getElem?_cons_zero, Option.some.injEq] at hd'
              subst hd'
              rw [List.getD_eq_getElem?_getD, List.getElem?_append_right (by omega)]
              simpa [hlen] using hy
        · cases h9
      · cases hk
    · cases hk
  · cases hk

theorem stO_sound {P : Program} {o : Oper} {ρ : Operand → Value} {x y : Operand} {sk : SK} {a b id : Nat} {dx d : D} {ob : Ob} (hρc : ∀ v, ρ (.const v) = v) (ho : StOp P o sk x y) (hm : Mod cx s φ h tmps w)
    (hx : RV φ h (ρ x) dx) (hy : RV φ h (ρ y) d) (hst : stO sk dx d (lk s.ob) = some (a, b, id, ob)) (hab : a < b) :
    ∃ w', (execOp ρ o).run P w = .ok .skip w' ∧ Mod cx { s with ob := (id, ob) :: s.ob } φ h tmps w' := by
  unfold stO at hst
  rcases ho with ⟨t, sz, rfl, ho, hs⟩ | ⟨t, k, key, rfl, ho, hk⟩
  · split at hst
    · rename_i id' off
      simp only at hst
      split at hst
      · rename_i cs hl
        split at hst
        · rename_i hc
          cases hst
          exact store_sound ho hs hm hx hy hl hc.1 hc.2.1 hc.2.2
        · cases hst
      · cases hst
    · rename_i id' i j sz'
      simp only at hst
      split at hst
      · rename_i sz2 e es hl
        split at hst
        · rename_i hc
          obtain ⟨rfl, h1, h2, h3, h4⟩ := hc
          cases hst
          have hi : es[a]? = some (es.getD a []) := by rw [List.getD_eq_getElem?_getD, List.getElem?_eq_getElem hab]; rfl
          have hcl : (es.getD a []).length = sz2 := (hm.ob _ _ hl).2.1 _ (List.mem_of_getElem? hi)
          have := vstore_sound ho hs hm hx hy hl hi h1 h2 h3 h4
          by_cases hf : j = 0 ∧ sz = sz2
          · rw [if_pos hf]
            obtain ⟨rfl, rfl⟩ := hf
            rw [setAt_full _ _ (by omega)] at this
            exact this
          · rw [if_neg hf]; exact this
        · cases hst
      · cases hst
    · cases hst
    · cases hst
  · split at hst
    · cases hst
    · cases hst
    · rename_i id'
      simp only at hst
      split at hst
      · rename_i ks ds hl
        split at hst
        · rename_i hf
          cases hst
          exact insert_sound hρc ho hk hm hx hy hl hf
        · cases hst
      · cases hst
    · cases hst
end
end Go.Sx

namespace Go.Sx
open Go.RowKit
variable [Globs] [Codes]

section
variable {P : Program} {w : World}

/-- append, told apart: in place (or nothing is done), or into a new block. -/
theorem run_append_cases (t ty e : TypeId) (i : TypeInfo) (z : Value) (size bytes : Nat) (ht : P.underlying t = some (.slice e)) (hi : P.info? e = some i) (hz : i.zero = some z)
    (hsize : i.size = size) (hby : i.bytes = bytes) (hzs : z.cells.size = size) (hsz : 0 < size)
    (v : Value) (n : Nat) (xs : List Value) (hown : w.ownsRow 0 e size v n xs)
    (y : Value) (m : Nat) (news : List Value) (hy : (y = .slice none 0 0 ∧ m = 0) ∨ ∃ a c, y = .slice (some a) m c ∧ ∀ j u, news[j]? = some u → w.cell? (a.add j) = some u)
    (hl : news.length = m * size) (h1 : ∀ u ∈ news, u.oneCell' = true)
    (h63 : n + m ≤ maxLen) (hbytes : (n + m) * bytes ≤ 140737488355328) :
    ∃ v' w', (Builtin.append_ #[t, t] ty #[v, y]).run P w = .ok v' w' ∧ w'.ownsRow 0 e size v' (n + m) (xs ++ news) ∧ v'.oneCell' = true ∧
      ((blk v' = blk v ∧ w'.os = w.os ∧ w'.tape = w.tape ∧ w'.output = w.output ∧ w'.heap.size = w.heap.size ∧ ∀ k, blk v ≠ some k → w'.heap[k]? = w.heap[k]?) ∨
       (blk v' = some w.heap.size ∧ Below w.heap.size w w')) := by
  subst hsize
  subst hby
  rcases hy with ⟨rfl, rfl⟩ | ⟨a, c, rfl, hnews⟩
  · have hn : news = [] := List.eq_nil_of_length_eq_zero (by simpa using hl)
    subst hn
    refine ⟨v, w, run_append_owned_none w 0 t ty e i i.size ht hi v n xs hown, by simpa using hown, ?_, .inl ⟨rfl, rfl, rfl, rfl, rfl, fun _ _ => rfl⟩⟩
    rcases hown.2 with ⟨rfl, _⟩ | ⟨g, cap, cur, rfl, _⟩ <;> rfl
  have hsmall : n + m ≤ 9223372036854775807 := by simp only [maxLen] at h63; omega
  have hlen : (xs ++ news).length = (n + m) * i.size := by rw [List.length_append, hown.1, hl, Nat.add_mul]
  have grown : ∀ (old : Nat), old < n + m →
      (w.drew.alloc (.cells (xs.toArray ++ news.toArray ++ Builtin.zeroCells z.cells (grownCap w (n + m) old e - (n + m))) e)).ownsRow 0 e i.size
        (.slice (some ⟨w.heap.size, 0, none⟩) (n + m) (grownCap w (n + m) old e)) (n + m) (xs ++ news) := by
    intro old ho
    have hge := grownCap_ge w (n + m) old e
    have hcm : grownCap w (n + m) old e ≤ maxLen := grownCap_le_maxLen w (n + m) old e h63
    refine ⟨hlen, .inr ⟨w.heap.size, _, _, rfl, Nat.zero_le _, heap_alloc_new w.drew _, hge, hcm, ?_, ?_⟩⟩
    · simp only [Array.size_append, List.size_toArray, size_zeroCells, hzs, hown.1, hl, ← Nat.add_mul]
      congr 1
      omega
    · simp only [Array.toList_append, List.append_assoc]
      rw [← List.append_assoc, ← hlen]
      exact List.take_left
  have hbel : ∀ ob, Below w.heap.size w (w.drew.alloc ob) := fun ob => ((Below.refl _ w).drew).alloc (Nat.le_refl _) _
  rcases hown.2 with ⟨rfl, rfl⟩ | ⟨g, cap, cur, rfl, hbg, hg, hnc, hcm, hcs, htake⟩
  · have hx : xs = [] := List.eq_nil_of_length_eq_zero (by simpa using hown.1)
    subst hx
    by_cases hm : m = 0
    · subst hm
      have hn : news = [] := List.eq_nil_of_length_eq_zero (by simpa using hl)
      subst hn
      refine ⟨.slice none 0 0, w, ?_, World.ownsRow_nil w 0 e i.size, rfl, .inl ⟨rfl, rfl, rfl, rfl, rfl, fun _ _ => rfl⟩⟩
      simp [Builtin.append_, run_underlying ht, sizeOf, typeInfo, hi, Builtin.lenOf, Builtin.firstCells, loadCells, loadCellsFrom]
    · have hr := run_append_nil (P := P) w t ty e i z ht hi hz a m c news hl hnews (by omega) (by omega) (by have hb := hbytes; simp only [Nat.zero_add] at hb; omega)
      have hgr := grown 0 (by omega)
      simp only [Nat.zero_add, List.nil_append, Array.empty_append] at hgr ⊢
      exact ⟨_, _, hr, hgr, rfl, .inr ⟨rfl, hbel _⟩⟩
  · by_cases hroom : n + m ≤ cap
    · have hfit : n * i.size + news.length ≤ cur.size := by rw [hl, hcs, ← Nat.add_mul]; exact Nat.mul_le_mul_right _ hroom
      have hr := run_append_room (P := P) w t ty e i ht hi g n cap cur hg a m c news hl hnews h1 hroom hfit
      refine ⟨_, _, hr, ⟨hlen, .inr ⟨g, cap, _, rfl, hbg, setRow_heap w g cur _ e _ hg, hroom, hcm, ?_, ?_⟩⟩, rfl, .inl ⟨rfl, rfl, rfl, rfl, by simp, fun k hk => setRow_other w g k _ (fun e => hk (by simp [blk, e]))⟩⟩
      · simp only [List.size_toArray, List.length_append, List.length_take, List.length_drop, Array.length_toList]
        omega
      · rw [htake, ← hlen]
        exact List.take_left
    · have holds : ∀ j u, xs[j]? = some u → w.cell? ((⟨g, 0, none⟩ : Addr).add j) = some u := hown.cells (g := g) rfl
      have hr := run_append_grow (P := P) w t ty e i z ht hi hz ⟨g, 0, none⟩ n cap xs hown.1 holds a m c news hl hnews (by omega) (by omega) (growslice_fits (by omega) hbytes)
      exact ⟨_, _, hr, grown cap (by omega), rfl, .inr ⟨rfl, hbel _⟩⟩

end

/-- The places that hold the array 'id' hold what it was. -/
def D.dem (id : Nat) (r : D) : D → D
  | .vec j => if j = id then r else .vec j
  | d => d
def Ob.dem (id : Nat) (r : D) : Ob → Ob
  | .cells cs => .cells (cs.map (D.dem id r))
  | .gen g cs => .gen g (cs.map (D.dem id r))
  | o => o
def eraseId {α : Type} (id : Nat) : List (Nat × α) → List (Nat × α)
  | [] => []
  | (j, a) :: l => if j = id then eraseId id l else (j, a) :: eraseId id l

def St.dem (id : Nat) (r : D) (s : St) : St :=
  { tm := s.tm.map fun p => (p.1, D.dem id r p.2), ob := eraseId id (s.ob.map fun p => (p.1, Ob.dem id r p.2)) }

theorem look_map {α β : Type} (f : α → β) : ∀ (l : List (Nat × α)) (i : Nat), lk (l.map fun p => (p.1, f p.2)) i = (lk l i).map f
  | [], _ => rfl
  | (j, a) :: l, i => by
    simp only [List.map_cons, lk]
    split
    · rfl
    · exact look_map f l i

theorem look_erase {α : Type} (id : Nat) : ∀ (l : List (Nat × α)) (i : Nat), lk (eraseId id l) i = if i = id then none else lk l i
  | [], _ => by simp [eraseId, lk]
  | (j, a) :: l, i => by
    simp only [eraseId]
    split
    · rename_i hj
      rw [look_erase id l i]
      split
      · rfl
      · rename_i hi
        simp only [lk]
        rw [if_neg (by omega)]
    · rename_i hj
      simp only [lk]
      by_cases hi : i = j
      · subst hi
        simp [hj]
      · rw [if_neg hi, if_neg hi, look_erase id l i]

section
variable {cx : Cx} {s : St} {φ φ' : Mem} {h : Nat → Value} {tmps : Array Value} {w w' : World}

theorem RV.demote {id : Nat} {r : D} (hr : RV φ h (h id) r) {v : Value} {d : D} (hv : RV φ h v d) : RV φ h v (D.dem id r d) := by
  unfold D.dem
  split
  · split
    · rename_i e; subst e; rw [hv.vec_inv]; exact hr
    · exact hv
  · exact hv

/-- An array is let go: its places hold what is known of its value. -/
theorem Mod.drop (hm : Mod cx s φ h tmps w) {id : Nat} {r : D} (hr : RV φ h (h id) r) : Mod cx (s.dem id r) φ h tmps w := by
  have hob : ∀ i o, lk (s.dem id r).ob i = some o → i ≠ id ∧ ∃ o', lk s.ob i = some o' ∧ o = Ob.dem id r o' := fun i o ho => by
    simp only [St.dem] at ho
    rw [look_erase] at ho
    split at ho
    · cases ho
    · rename_i hi
      rw [look_map] at ho
      cases hq : lk s.ob i with
      | none => rw [hq] at ho; cases ho
      | some o' => rw [hq] at ho; simp at ho; exact ⟨hi, o', rfl, ho.symm⟩
  refine ⟨hm.size, ?_, hm.mem, hm.ext, hm.new, ?_, ?_, hm.os, hm.tape, hm.output, hm.grow, hm.one, hm.frame, hm.hfix, fun b o hb => ⟨(hm.kept b o hb).1, (hm.kept b o hb).2.1, fun i hi => ?_⟩⟩
  · intro t d hd
    simp only [St.dem] at hd
    rw [look_map] at hd
    cases hq : lk s.tm t with
    | none => rw [hq] at hd; cases hd
    | some d' => rw [hq] at hd; simp at hd; subst hd; exact RV.demote hr (hm.tm t d' hq)
  · intro i o ho
    obtain ⟨_, o', ho', rfl⟩ := hob i o ho
    have := hm.ob i o' ho'
    cases o' with
    | arr => exact this
    | cells cs =>
      obtain ⟨b, vals, e, h1, h2, h3, h4, h5, h6⟩ := this
      refine ⟨b, vals, e, h1, h2, h3, by simpa using h4, fun j d hd => ?_, h6⟩
      rw [List.getElem?_map] at hd
      cases hq : cs[j]? with
      | none => rw [hq] at hd; cases hd
      | some d' => rw [hq] at hd; simp at hd; subst hd; exact RV.demote hr (h5 j d' hq)
    | gen g cs =>
      obtain ⟨b, vals, o, h1, h2, h3, h4, h5, h6, h7⟩ := this
      refine ⟨b, vals, o, h1, h2, h3, h4, by simpa using h5, fun j d hd => ?_, h7⟩
      rw [List.getElem?_map] at hd
      cases hq : cs[j]? with
      | none => rw [hq] at hd; cases hd
      | some d' => rw [hq] at hd; simp at hd; subst hd; exact RV.demote hr (h6 j d' hq)
  · intro i j b hi hj
    obtain ⟨o, ho⟩ := Option.isSome_iff_exists.1 hi
    obtain ⟨o2, ho2⟩ := Option.isSome_iff_exists.1 hj
    obtain ⟨_, o', ho', _⟩ := hob i o ho
    obtain ⟨_, o3, ho3, _⟩ := hob j o2 ho2
    exact hm.sep i j b (by simp [ho']) (by simp [ho3])
  · obtain ⟨o, ho⟩ := Option.isSome_iff_exists.1 hi
    obtain ⟨_, o', ho', _⟩ := hob i o ho
    exact (hm.kept b _ hb).2.2 i (by simp [ho'])

/-- Another block is written, in which nothing known has turned. -/
theorem Mod.world (hm : Mod cx s φ h tmps w) {g : Nat} (hg : cx.own g) (hfree : ∀ i, (lk s.ob i).isSome → blk (h i) ≠ some g) (hnk : ¬ (cx.kp g).isSome) (hos : w'.os = w.os) (htape : w'.tape = w.tape) (hout : w'.output = w.output)
    (hsize : w'.heap.size = w.heap.size) (hk : ∀ k, k ≠ g → w'.heap[k]? = w.heap[k]?) (hsub : Sub φ w') : Mod cx s φ h tmps w' := by
  refine ⟨hm.size, hm.tm, hsub, hm.ext, hm.new, fun i o ho => ?_, hm.sep, hos.trans hm.os, htape.trans hm.tape, hout.trans hm.output, by rw [hsize]; exact hm.grow, hm.one, fun b hb hz => ?_, hm.hfix, fun b o hb => ⟨by rw [hk b (fun e => hnk (e ▸ by rw [hb]; rfl))]; exact (hm.kept b o hb).1, (hm.kept b o hb).2⟩⟩
  · refine (hm.ob i o ho).keep (fun _ hb => hb) (fun b hb => hk b ?_) (fun _ _ _ h => h) (fun _ _ _ => rfl) (fun _ _ _ r => r)
    intro e
    subst e
    exact hfree i (by simp [ho]) hb
  · rw [hk b (fun e => by subst e; exact hg.elim (fun h => by omega) hz)]
    exact hm.frame b hb hz

/-- An array is taken in. -/
theorem Mod.arr (hm : Mod cx s φ h tmps w) {dst id : Nat} {fz : Bool} {sz : Nat} {e : TypeId} {es : List (List D)} {hv : Value} (hd : dst < cx.N) (hid : cx.bs ≤ id) (hcl : s.clean id = true) (hone : hv.oneCell' = true)
    (hob : ObR cx.own φ' h w hv (.arr fz sz e es)) (hmono : ∀ b o u, φ b o = some u → φ' b o = some u) (hsub : Sub φ' w) (hnew : ∀ b o u, φ' b o = some u → φ b o = none → blk hv = some b)
    (hfree : ∀ i b, (lk s.ob i).isSome → blk (h i) = some b → blk hv ≠ some b) (hnk : ∀ b, blk hv = some b → ¬ (cx.kp b).isSome) :
    Mod cx (s.add dst id (.vec id) (some (.arr fz sz e es))) φ' (updH h id hv) (tmps.setIfInBounds dst hv) w := by
  have hown : ∀ b, blk hv = some b → cx.own b := fun b hb => (hob.2.2.choose_spec.2.2 b hb).1
  refine ⟨by simp [hm.size], ?_, hsub, fun b o v hb => hmono b o v (hm.ext b o v hb), ?_, ?_, ?_, hm.os, hm.tape, hm.output, hm.grow, ?_, hm.frame, fun i hi => by rw [← hm.hfix i hi]; exact upd_other _ _ (by omega), ?_⟩
  · intro t d hl
    simp only [St.add, lk] at hl
    split at hl
    · rename_i ht
      cases hl
      have : (tmps.setIfInBounds dst hv).getD t Go.undef = hv := by
        subst ht
        have : t < tmps.size := by rw [hm.size]; exact hd
        simp [Array.getD, this]
      rw [this]
      have r := RV.vec (φ := φ') (h := updH h id hv) id (by rw [upd_same]; obtain ⟨a, c, hv'⟩ := ob_arr_val hob; rw [hv']; rfl)
      rw [upd_same] at r
      exact r
    · rename_i ht
      have : (tmps.setIfInBounds dst hv).getD t Go.undef = tmps.getD t Go.undef := by
        simp [Array.getD_eq_getD_getElem?, Ne.symm ht]
      rw [this]
      exact ((hm.tm t d hl).mono hmono).upd id hv (St.clean_tm hcl hl)
  · intro b o u hu h0
    cases hq : φ b o with
    | some u' => exact hm.new b o u' hq h0
    | none => exact hown b (hnew b o u hu hq)
  · intro i o ho
    simp only [St.add, lk] at ho
    split at ho
    · rename_i hi
      cases ho
      subst hi
      have e1 : updH h i hv i = hv := upd_same _ _ _
      rw [e1]
      exact hob.keep (fun _ hb => hb) (fun _ _ => rfl) (fun _ _ _ h => h) (fun _ _ _ => rfl) (fun _ _ he => by cases he)
    · rename_i hi
      have e1 : updH h id hv i = h i := upd_other _ _ hi
      rw [e1]
      refine (hm.ob i o ho).keep (fun _ hb => hb) (fun _ _ => rfl) hmono (fun b hb off => ?_) (fun v d hdm r => ?_)
      · cases hq : φ b off with
        | some u => exact hmono b off u hq
        | none =>
          cases hq' : φ' b off with
          | none => rfl
          | some u => exact absurd (hnew b off u hq' hq) (hfree i b (by simp [ho]) hb)
      · have hmen := St.clean_ob hcl ho
        obtain ⟨j, hj⟩ := List.mem_iff_getElem?.1 hdm
        exact (r.mono hmono).upd id hv (menL_get hmen j d hj)
  · intro i j b hi hj hbi hbj
    have hlk : ∀ i, i ≠ id → (lk (s.add dst id (.vec id) (some (.arr fz sz e es))).ob i).isSome → (lk s.ob i).isSome := fun i hne hi => by
      simpa only [St.add, lk, if_neg hne] using hi
    by_cases h1 : i = id <;> by_cases h2 : j = id
    · rw [h1, h2]
    · subst h1
      simp only [upd_same] at hbi
      simp only [upd_other h hv h2] at hbj
      exact absurd hbi (hfree j b (hlk j h2 hj) hbj)
    · subst h2
      simp only [upd_same] at hbj
      simp only [upd_other h hv h1] at hbi
      exact absurd hbj (hfree i b (hlk i h1 hi) hbi)
    · simp only [upd_other h hv h1] at hbi
      simp only [upd_other h hv h2] at hbj
      exact hm.sep i j b (hlk i h1 hi) (hlk j h2 hj) hbi hbj
  · intro i
    simp only [updH]
    split
    · exact hone
    · exact hm.one i
  · intro b o hb
    obtain ⟨h1, h2, h3⟩ := hm.kept b o hb
    have hne : blk hv ≠ some b := fun he => hnk b he (by rw [hb]; rfl)
    refine ⟨h1, fun off => ?_, fun i hi => ?_⟩
    · cases hq : φ' b off with
      | none => rfl
      | some u => exact absurd (hnew b off u hq (h2 off)) hne
    · by_cases hi' : i = id
      · subst hi'; simp only [upd_same]; exact hne
      · simp only [upd_other h hv hi']
        simp only [St.add, lk, if_neg hi'] at hi
        exact h3 i hi

end
end Go.Sx

namespace Go.Sx
open Go.RowKit
variable [Globs] [Codes]

section
variable {P : Program} {cx : Cx} {s : St} {φ : Mem} {h : Nat → Value} {tmps : Array Value} {w : World}

/-- What stands in the cells of a slice that is read. -/
theorem slice_news {v : Value} {ys ext : List (List D)} (hsub : Sub φ w) (hy : Rep φ v (.slice ys ext)) {sz : Nat} (hsz : 0 < sz) (hlen : ∀ q ∈ ys, q.length = sz) :
    ∃ news : List Value, ((v = .slice none 0 0 ∧ ys.length = 0) ∨ ∃ a c, v = .slice (some a) ys.length c ∧ ∀ j u, news[j]? = some u → w.cell? (a.add j) = some u) ∧ news.length = ys.length * sz ∧
      (∀ u ∈ news, u.oneCell' = true) ∧ ∀ i x j d, ys[i]? = some x → x[j]? = some d → Rep φ (news.getD (i * sz + j) Go.undef) d := by
  rcases hy.slice_inv with ⟨⟨a, c, rfl, hac⟩, rfl, rfl⟩ | ⟨b, off, cap, sz', vals, rfl, hcap, hsz', hmem, hrep⟩
  · cases a with
    | none => obtain rfl := hac rfl; exact ⟨[], .inl ⟨rfl, rfl⟩, by simp, by simp, by simp⟩
    | some a => exact ⟨[], .inr ⟨a, c, rfl, by simp⟩, by simp, by simp, by simp⟩
  · by_cases hn : ys = []
    · subst hn
      exact ⟨[], .inr ⟨_, cap, rfl, by simp⟩, by simp, by simp, by simp⟩
    · have e1 : sz' = sz := by
        obtain ⟨q, hq⟩ := List.exists_mem_of_ne_nil _ hn
        rw [← hsz' q (List.mem_append_left _ hq), hlen q hq]
      subst e1
      have hget : ∀ q, q < ys.length * sz' → ∃ x d, (ys ++ ext)[q / sz']? = some x ∧ x[q % sz']? = some d := fun q hq => by
        have h1 : q / sz' < ys.length := (Nat.div_lt_iff_lt_mul hsz).2 hq
        have h2 : (ys ++ ext)[q / sz']? = some ys[q / sz'] := by rw [List.getElem?_append_left h1, List.getElem?_eq_getElem h1]
        have h3 : ys[q / sz'].length = sz' := hlen _ (List.getElem_mem h1)
        have h4 : q % sz' < ys[q / sz'].length := by rw [h3]; exact Nat.mod_lt _ hsz
        exact ⟨_, _, h2, List.getElem?_eq_getElem h4⟩
      refine ⟨(List.range (ys.length * sz')).map fun q => vals (q / sz') (q % sz'), .inr ⟨_, cap, rfl, ?_⟩, by simp, ?_, ?_⟩
      · intro j u hu
        rw [List.getElem?_map] at hu
        by_cases hj : j < ys.length * sz'
        · simp [hj] at hu
          subst hu
          obtain ⟨x, d, hx, hd⟩ := hget j hj
          have := hmem _ _ _ _ hx hd
          rw [Addr.add_lit]
          have e2 : off + j / sz' * sz' + j % sz' = off + j := by
            have := Nat.div_add_mod j sz'
            rw [Nat.mul_comm] at this; omega
          rw [e2] at this
          exact hsub _ _ _ this
        · rw [List.getElem?_eq_none (by simp; omega)] at hu; cases hu
      · intro u hu
        simp only [List.mem_map, List.mem_range] at hu
        obtain ⟨q, hq, rfl⟩ := hu
        obtain ⟨x, d, hx, hd⟩ := hget q hq
        exact (hrep _ _ _ _ hx hd).one
      · intro i x j d hi hj
        have h1 : i < ys.length := (List.getElem?_eq_some_iff.1 hi).1
        have h2 : j < sz' := by
          have := (List.getElem?_eq_some_iff.1 hj).1
          rwa [hlen x (List.mem_of_getElem? hi)] at this
        have h3 : i * sz' + j < ys.length * sz' := by
          have : (i + 1) * sz' ≤ ys.length * sz' := Nat.mul_le_mul_right _ h1
          rw [Nat.add_mul, Nat.one_mul] at this; omega
        have e3 : (i * sz' + j) / sz' = i := by
          rw [Nat.add_comm, Nat.add_mul_div_right _ _ hsz, Nat.div_eq_of_lt h2, Nat.zero_add]
        have e4 : (i * sz' + j) % sz' = j := by
          rw [Nat.add_comm, Nat.add_mul_mod_self_right, Nat.mod_eq_of_lt h2]
        have e5 : ((List.range (ys.length * sz')).map fun q => vals (q / sz') (q % sz')).getD (i * sz' + j) Go.undef = vals i j := by
          simp [List.getD, h3, e3, e4]
        rw [e5]
        exact hrep _ _ _ _ (by rw [List.getElem?_append_left h1]; exact hi) hj

def rowOpt (φ : Mem) (g : Option Nat) (xs : List Value) : Mem := fun b o => if g = some b then xs[o]? else φ b o

/-- Cells of what was there and of what comes behind it. -/
theorem rep_append {φ : Mem} {es ys : List (List D)} {xs news : List Value} {sz : Nat} (hx : xs.length = es.length * sz) (hlen : ∀ q ∈ es, q.length = sz) (h1 : ∀ i x j d, es[i]? = some x → x[j]? = some d → Rep φ (xs.getD (i * sz + j) Go.undef) d)
    (h2 : ∀ i x j d, ys[i]? = some x → x[j]? = some d → Rep φ (news.getD (i * sz + j) Go.undef) d) :
    ∀ i x j d, (es ++ ys)[i]? = some x → x[j]? = some d → Rep φ ((xs ++ news).getD (i * sz + j) Go.undef) d := by
  intro i x j d hi hj
  by_cases hlt : i < es.length
  · rw [List.getElem?_append_left hlt] at hi
    have hq : j < sz := by
      have := (List.getElem?_eq_some_iff.1 hj).1
      rwa [hlen x (List.mem_of_getElem? hi)] at this
    have h3 : i * sz + j < xs.length := by
      rw [hx]
      have : (i + 1) * sz ≤ es.length * sz := Nat.mul_le_mul_right _ hlt
      rw [Nat.add_mul, Nat.one_mul] at this; omega
    have e : (xs ++ news).getD (i * sz + j) Go.undef = xs.getD (i * sz + j) Go.undef := by
      simp only [List.getD]; rw [List.getElem?_append_left h3]
    rw [e]; exact h1 i x j d hi hj
  · rw [List.getElem?_append_right (by omega)] at hi
    have e : (xs ++ news).getD (i * sz + j) Go.undef = news.getD ((i - es.length) * sz + j) Go.undef := by
      simp only [List.getD]
      have h4 : es.length * sz ≤ i * sz := Nat.mul_le_mul_right _ (by omega)
      rw [List.getElem?_append_right (by rw [hx]; omega), hx, Nat.sub_mul]
      congr 2
      omega
    rw [e]; exact h2 _ x j d hi hj

/-- THE APPEND, from the state's side; s1: the state without the array that is extended. -/
theorem append_core {t ty e : TypeId} {i : TypeInfo} {z : Value} {sz bytes dst id : Nat} (ht : P.underlying t = some (.slice e)) (hi : P.info? e = some i) (hz : i.zero = some z) (hsize : i.size = sz) (hby : i.bytes = bytes)
    (hzs : z.cells.size = sz) (hsz : 0 < sz) {s1 : St} (hm : Mod cx s1 φ h tmps w) (hd : dst < cx.N) (hid : cx.bs ≤ id) (hcl : s1.clean id = true) {fz : Bool} {v : Value} {es ys ext : List (List D)} (hob : ObR cx.own φ h w v (.arr fz sz e es))
    (hfree : ∀ i b, (lk s1.ob i).isSome → blk (h i) = some b → blk v ≠ some b) (hnk : ∀ b, blk v = some b → ¬ (cx.kp b).isSome)
    {y : Value} (hy : Rep φ y (.slice ys ext)) (hylen : ∀ q ∈ ys, q.length = sz) (h63 : es.length + ys.length ≤ maxLen) (hbytes : (es.length + ys.length) * bytes ≤ 140737488355328) :
    ∃ v' w' φ', (Builtin.append_ #[t, t] ty #[v, y]).run P w = .ok v' w' ∧ Mod cx (s1.add dst id (.vec id) (some (.arr fz sz e (es ++ ys)))) φ' (updH h id v') (tmps.setIfInBounds dst v') w' := by
  obtain ⟨_, hlen, xs, hown, hrep, hblk⟩ := hob
  obtain ⟨news, hya, hnl, hone, hnrep⟩ := slice_news hm.mem hy hsz hylen
  obtain ⟨v', w', hrun, hown', hone', hcase⟩ := run_append_cases (P := P) t ty e i z sz bytes ht hi hz hsize hby hzs hsz v es.length xs hown y ys.length news hya hnl hone h63 hbytes
  have hlen' : ∀ q ∈ es ++ ys, q.length = sz := fun q hq => (List.mem_append.1 hq).elim (hlen q) (hylen q)
  have hown2 : w'.ownsRow 0 e sz v' (es ++ ys).length (xs ++ news) := by rw [List.length_append]; exact hown'
  have hxl : xs.length = es.length * sz := hown.1
  have hcells : ∀ g, blk v' = some g → ∀ j u, (xs ++ news)[j]? = some u → w'.cell? ⟨g, j, none⟩ = some u := fun g hg j u hu => by
    have hg' : v'.ownBlock = some g := by
      rcases hown'.2 with ⟨rfl, _⟩ | ⟨g2, c2, cur2, rfl, _⟩
      · cases hg
      · cases hg; rfl
    have := hown'.cells hg' j u hu
    rwa [Addr.add_lit, Nat.zero_add] at this
  have hrep' := rep_append (es := es) (ys := ys) (xs := xs) (news := news) hxl hlen hrep hnrep
  rcases hcase with ⟨hb, hos, htape, hout, hhs, hk⟩ | ⟨hb, hbel⟩
  · -- in place
    have hsub' : Sub φ w' := fun b o u hu => by
      by_cases hbv : blk v = some b
      · have := (hblk b hbv).2 o
        rw [hu] at this
        split at this
        · rename_i hc
          refine hcells b (by rw [hb]; exact hbv) o u ?_
          rw [List.getElem?_append_left (by rw [hxl]; exact hc.2)]; exact this.symm
        · cases this
      · rw [World.cell?_of_block (w := w) (a := ⟨b, o, none⟩) (hk b hbv)]
        exact hm.mem b o u hu
    have hm' : Mod cx s1 φ h tmps w' := by
      cases hv : blk v with
      | none =>
        refine ⟨hm.size, hm.tm, hsub', hm.ext, hm.new, fun i o ho => ?_, hm.sep, hos.trans hm.os, htape.trans hm.tape, hout.trans hm.output, by rw [hhs]; exact hm.grow, hm.one, fun b h1 h2 => ?_, hm.hfix, fun b o hb => ⟨by rw [hk b (by rw [hv]; simp)]; exact (hm.kept b o hb).1, (hm.kept b o hb).2⟩⟩
        · exact (hm.ob i o ho).keep (fun _ hb => hb) (fun b _ => hk b (by rw [hv]; simp)) (fun _ _ _ h => h) (fun _ _ _ => rfl) (fun _ _ _ r => r)
        · rw [hk b (by rw [hv]; simp)]; exact hm.frame b h1 h2
      | some g => exact hm.world (hblk g hv).1 (fun i hi e' => hfree i g hi e' hv) (hnk g hv) hos htape hout hhs (fun k hkg => hk k (by rw [hv]; simp; omega)) hsub'
    have hmono : ∀ b o u, φ b o = some u → (if fz then rowOpt φ (blk v') (xs ++ news) else φ) b o = some u := by
      intro b o u hu
      cases fz
      · exact hu
      · simp only [if_true, rowOpt]
        split
        · rename_i hg
          have := (hblk b (by rw [← hb]; exact hg)).2 o
          rw [hu] at this
          split at this
          · rename_i hc
            rw [List.getElem?_append_left (by rw [hxl]; exact hc.2)]; exact this.symm
          · cases this
        · exact hu
    refine ⟨v', w', if fz then rowOpt φ (blk v') (xs ++ news) else φ, hrun, hm'.arr hd hid hcl hone' ?_ hmono ?_ ?_ (fun i b h1 h2 => by rw [hb]; exact hfree i b h1 h2) (fun b hbv => hnk b (by rw [← hb]; exact hbv))⟩
    · refine ⟨hsz, hlen', xs ++ news, hown2, fun i x j d h1 h2 => (hrep' i x j d h1 h2).mono hmono, fun b hbv => ⟨(hblk b (by rw [← hb]; exact hbv)).1, fun o => ?_⟩⟩
      cases fz
      · simp only [Bool.false_eq_true, false_and, if_false]
        have := (hblk b (by rw [← hb]; exact hbv)).2 o
        simpa using this
      · simp only [if_true, hbv, rowOpt, true_and]
        split
        · rfl
        · rename_i hnlt
          exact List.getElem?_eq_none (by rw [hown2.1]; omega)
    · intro b o u hu
      cases fz
      · exact hsub' b o u hu
      · simp only [if_true, rowOpt] at hu
        split at hu
        · rename_i hg
          exact hcells b hg o u hu
        · exact hsub' b o u hu
    · intro b o u hu hn
      cases fz
      · simp only [Bool.false_eq_true, if_false] at hu; rw [hn] at hu; cases hu
      · simp only [if_true, rowOpt] at hu
        split at hu
        · rename_i hg; exact hg
        · rw [hn] at hu; cases hu
  · -- a new block
    rcases hown'.2 with ⟨rfl, _⟩ | ⟨g, cap, cur, rfl, _⟩
    · cases hb
    · simp only [blk, Option.some.injEq] at hb
      have hst := AStep.arr (h := h) (dst := id) hm.mem (w' := w') hbel (fz := fz) (sz := sz) (e := e) (es := es ++ ys) (g := g) (cap := cap) (xs := xs ++ news) (by omega) hsz hlen' (by rw [List.length_append]; exact hown') hrep'
      have := hm.astep hst hd hid (fun _ _ _ h => St.clean_tm hcl h) (fun _ _ _ h => St.clean_ob hcl h) (fun _ => rfl)
      rw [List.length_append] at this
      exact ⟨_, w', _, hrun, this⟩

end
end Go.Sx

namespace Go.Sx
open Go.RowKit
variable [Globs] [Codes]

/-- A fence that fences nothing in. -/
structure Fence.Open (F : Fence) : Prop where
  fn : ∀ f, F.fn f
  depth : F.depth = none
  calls : ∀ {P f args w R}, Calls P f args w R → ∀ n, CallsIn F n P f args w R

theorem open_wide : Fence.Open Fence.wide := ⟨fun _ => trivial, rfl, fun h _ => callsIn_wide.2 h⟩
theorem Fence.Open.inRound {F : Fence} (hF : Fence.Open F) (l : Nat) : Fence.Open (F.inRound l) := ⟨hF.fn, hF.depth, fun h n => hF.calls h n⟩

theorem Fence.Open.room {F : Fence} (hF : Fence.Open F) (k : Nat) : F.room k := by
  unfold Fence.room
  rw [hF.depth]
  intro d h
  cases h

theorem Fence.Open.lessCall {F : Fence} (hF : Fence.Open F) {n m : Nat} {P : Program} {f : FuncId} {args : Array Value} {w : World} {R : Ending → World → Prop} (h : CallsIn F n P f args w R) : CallsIn F m P f args w R :=
  ⟨h.1, fun cs _ => h.2 cs (hF.room _)⟩
theorem Fence.Open.lessRound {F : Fence} (hF : Fence.Open F) {n m l : Nat} {P : Program} {f : FuncId} {tmps : Array Value} {a b : Code} {w : World} {R : Ending → World → Prop} (h : RoundIn F n P l f tmps a b w R) : RoundIn F m P l f tmps a b w R :=
  ⟨h.1, fun c cs _ => h.2 c cs (hF.room _)⟩

/-- A call of a value. -/
def callv (v : Value) (vs : Array Value) : Sem Next := do
  let d ← Deferred.ofValue v vs
  invoke d.target d.args

def DynOut (F : Fence) (n : Nat) (P : Program) (R : Ending → World → Prop) : Result Next → Prop
  | .ok (.enter f a) w => CallsIn F n P f a w R
  | .ok (.round l f t a b) w => RoundIn F n P l f t a b w R
  | _ => False

mutual
def D.top : D → Nat
  | .ptr j _ => j + 1
  | .vec j => j + 1
  | .vptr j _ _ _ => j + 1
  | .map j => j + 1
  | .yld j => j + 1
  | .agg cs => D.topL cs
  | .tuple cs => D.topL cs
  | .func _ f c => max (D.topL f) (D.topL c)
  | _ => 0
def D.topL : List D → Nat
  | [] => 0
  | d :: r => max (D.top d) (D.topL r)
end

mutual
theorem D.top_men (i : Nat) : ∀ d : D, D.top d ≤ i → D.men i d = false
  | .ptr j _, h => by simp only [D.top] at h; simp only [D.men, beq_eq_false_iff_ne]; omega
  | .vec j, h => by simp only [D.top] at h; simp only [D.men, beq_eq_false_iff_ne]; omega
  | .vptr j _ _ _, h => by simp only [D.top] at h; simp only [D.men, beq_eq_false_iff_ne]; omega
  | .map j, h => by simp only [D.top] at h; simp only [D.men, beq_eq_false_iff_ne]; omega
  | .yld j, h => by simp only [D.top] at h; simp only [D.men, beq_eq_false_iff_ne]; omega
  | .agg cs, h => by simp only [D.top] at h; simp only [D.men]; exact D.topL_men i cs h
  | .tuple cs, h => by simp only [D.top] at h; simp only [D.men]; exact D.topL_men i cs h
  | .func _ f c, h => by
    simp only [D.top] at h
    simp only [D.men, Bool.or_eq_false_iff]
    exact ⟨D.topL_men i f (by omega), D.topL_men i c (by omega)⟩
  | .undef, _ => rfl
  | .bool _, _ => rfl
  | .int _ _, _ => rfl
  | .str _, _ => rfl
  | .slice _ _, _ => rfl
  | .nilp, _ => rfl
  | .nilf, _ => rfl
  | .fptr _, _ => rfl
  | .raw _, _ => rfl
  | .nils, _ => rfl
  | .own _ _ _, _ => rfl
  | .ifc, _ => rfl
theorem D.topL_men (i : Nat) : ∀ l : List D, D.topL l ≤ i → D.menL i l = false
  | [], _ => rfl
  | d :: r, h => by
    simp only [D.topL] at h
    simp only [D.menL, Bool.or_eq_false_iff]
    exact ⟨D.top_men i d (by omega), D.topL_men i r (by omega)⟩
end

def Env.top : Env → Nat
  | [] => 0
  | (_, d) :: r => max (D.top d) (Env.top r)

def Obs.top : Obs → Nat
  | [] => 0
  | (i, o) :: r => max (max (i + 1) (D.topL o.parts)) (Obs.top r)

theorem Env.top_men {i : Nat} : ∀ {tm : Env}, Env.top tm ≤ i → ∀ {t d}, lk tm t = some d → D.men i d = false
  | [], _, t, d, hl => by simp [lk] at hl
  | (j, a) :: r, h, t, d, hl => by
    simp only [Env.top] at h
    simp only [lk] at hl
    split at hl
    · cases hl; exact D.top_men i a (by omega)
    · exact Env.top_men (tm := r) (by omega) hl

theorem Obs.top_men {i : Nat} : ∀ {ob : Obs}, Obs.top ob ≤ i → ∀ {t o}, lk ob t = some o → t < i ∧ Ob.men i o = false
  | [], _, t, d, hl => by simp [lk] at hl
  | (j, a) :: r, h, t, d, hl => by
    simp only [Obs.top] at h
    simp only [lk] at hl
    split at hl
    · rename_i e; cases hl; exact ⟨by omega, D.topL_men i _ (by omega)⟩
    · exact Obs.top_men (ob := r) (by omega) hl

/-- What is known of the handles that a value names suffices. -/
theorem RV.congr {φ : Mem} {h h' : Nat → Value} {v : Value} {d : D} (r : RV φ h v d) : (∀ i, D.men i d = true → h' i = h i) → RV φ h' v d := by
  have hget : ∀ {cs : List D} {j : Nat} {d : D} {i : Nat}, cs[j]? = some d → D.men i d = true → D.menL i cs = true := fun {cs j d i} hd hm => by
    cases hq : D.menL i cs with
    | true => rfl
    | false => rw [menL_get hq j d hd] at hm; cases hm
  induction r with
  | undef v => exact fun _ => .undef v
  | pure hr => exact fun _ => .pure hr
  | agg vs cs hs _ ih => exact fun hm => .agg vs cs hs fun j d hd => ih j d hd fun i hi => hm i (by simpa only [D.men] using hget hd hi)
  | tuple vs cs hs _ ih => exact fun hm => .tuple vs cs hs fun j d hd => ih j d hd fun i hi => hm i (by simpa only [D.men] using hget hd hi)
  | ptr id off b hh => exact fun hm => .ptr id off b (by rw [hm id (by simp [D.men])]; exact hh)
  | fptr b off cs vals hm hr => exact fun _ => .fptr b off cs vals hm hr
  | vec id hl => intro hm; have := hm id (by simp [D.men]); rw [← this] at hl ⊢; exact .vec id hl
  | vptr id a j sz b len cap hsz hh => exact fun hm => .vptr id a j sz b len cap hsz (by rw [hm id (by simp [D.men])]; exact hh)
  | map id hl => intro hm; have := hm id (by simp [D.men]); rw [← this] at hl ⊢; exact .map id hl
  | yld id b hh => exact fun hm => .yld id b (by rw [hm id (by simp [D.men])]; exact hh)
  | func f vf vc df dc hf hc _ _ ih1 ih2 =>
    exact fun hm => .func f vf vc df dc hf hc (fun j d hd => ih1 j d hd fun i hi => hm i (by simp only [D.men, Bool.or_eq_true]; exact .inl (hget hd hi)))
      (fun j d hd => ih2 j d hd fun i hi => hm i (by simp only [D.men, Bool.or_eq_true]; exact .inr (hget hd hi)))

theorem RV.under {φ : Mem} {h h' : Nat → Value} {v : Value} {d : D} {n : Nat} (r : RV φ h v d) (hn : D.top d ≤ n) (he : ∀ i, i < n → h' i = h i) : RV φ h' v d :=
  r.congr fun i hi => he i (Nat.lt_of_not_le fun hle => by rw [D.top_men i d (by omega)] at hi; cases hi)

theorem topL_get {n : Nat} : ∀ {cs : List D}, D.topL cs ≤ n → ∀ {d : D}, d ∈ cs → D.top d ≤ n
  | [], _, d, hd => by cases hd
  | c :: cs, h, d, hd => by
    simp only [D.topL] at h
    rcases List.mem_cons.1 hd with rfl | hd
    · omega
    · exact topL_get (cs := cs) (by omega) hd

theorem Env.top_get {n : Nat} : ∀ {tm : Env}, Env.top tm ≤ n → ∀ {t d}, lk tm t = some d → D.top d ≤ n
  | [], _, t, d, hl => by simp [lk] at hl
  | (j, a) :: r, h, t, d, hl => by
    simp only [Env.top] at h
    simp only [lk] at hl
    split at hl
    · cases hl; omega
    · exact Env.top_get (tm := r) (by omega) hl

theorem Obs.top_get {n : Nat} : ∀ {ob : Obs}, Obs.top ob ≤ n → ∀ {t o}, lk ob t = some o → t < n ∧ D.topL o.parts ≤ n
  | [], _, t, d, hl => by simp [lk] at hl
  | (j, a) :: r, h, t, d, hl => by
    simp only [Obs.top] at h
    simp only [lk] at hl
    split at hl
    · rename_i e; cases hl; exact ⟨by omega, by omega⟩
    · exact Obs.top_get (ob := r) (by omega) hl

theorem lk_append {α : Type} (a b : List (Nat × α)) (i : Nat) : lk (a ++ b) i = (lk a i).or (lk b i) := by
  induction a with
  | nil => simp [lk]
  | cons p a ih =>
    obtain ⟨j, x⟩ := p
    simp only [List.cons_append, lk]
    split
    · simp
    · exact ih

/-- The blocks of some objects. -/
def ZOf (ob : Obs) (h : Nat → Value) (b : Nat) : Prop := ∃ i, (lk ob i).isSome ∧ blk (h i) = some b

/-- These objects lie in the world. -/
structure Loc (own : Nat → Prop) (ob : Obs) (φ : Mem) (h : Nat → Value) (w : World) : Prop where
  one : HOne h
  glob : GlobC φ w (ZOf ob h)
  mem : Sub φ w
  obj : ∀ i o, lk ob i = some o → ObR own φ h w (h i) o
  sep : ∀ i j b, (lk ob i).isSome → (lk ob j).isSome → blk (h i) = some b → blk (h j) = some b → i = j

/-- What a call leaves. -/
structure After (ob : Obs) (φ : Mem) (h : Nat → Value) (w : World) (ob' : Obs) (φ' : Mem) (h' : Nat → Value) (w' : World) : Prop where
  loc : Loc (fun b => w.heap.size ≤ b ∨ ZOf ob h b) ob' φ' h' w'
  ext : ∀ b o v, φ b o = some v → φ' b o = some v
  new : ∀ b o v, φ' b o = some v → φ b o = none → w.heap.size ≤ b ∨ ZOf ob h b
  frame : ∀ b, b < w.heap.size → ¬ ZOf ob h b → w'.heap[b]? = w.heap[b]?
  hfix : ∀ i, (lk ob i).isSome → h' i = h i
  os : w'.os = w.os
  tape : w'.tape = w.tape
  output : w'.output = w.output
  grow : w.heap.size ≤ w'.heap.size

def Post (ob : Obs) (φ : Mem) (h : Nat → Value) (w : World) (R : D → Obs → Prop) (e : Ending) (w' : World) : Prop :=
  ∃ v r ob' φ' h', e = .returned v ∧ R r ob' ∧ RV φ' h' v r ∧ After ob φ h w ob' φ' h' w'

/-- A CALL OF A VALUE, with the objects 'ob' at hand; the names are its own. -/
def CallL (P : Program) (d : D) (args : List D) (ob : Obs) (R : D → Obs → Prop) : Prop :=
  ∀ (F : Fence) (_ : Fence.Open F) (n : Nat) (φ : Mem) (h : Nat → Value) (w : World) (v : Value) (vs : Array Value),
    Loc (fun _ => True) ob φ h w → RV φ h v d → RVL φ h vs.toList args → DynOut F n P (Post ob φ h w R) ((callv v vs).run P w)

theorem DynOut.mono {F : Fence} {n : Nat} {P : Program} {R R' : Ending → World → Prop} {r : Result Next} (hr : ∀ e w, R e w → R' e w) (h : DynOut F n P R r) : DynOut F n P R' r := by
  unfold DynOut at h ⊢
  split at h
  · exact CallsIn.mono h hr
  · exact RoundIn.mono h hr
  · exact h.elim

theorem CallL.mono {P : Program} {d : D} {args : List D} {ob : Obs} {R R' : D → Obs → Prop} (h : CallL P d args ob R) (hr : ∀ r ob', R r ob' → R' r ob') : CallL P d args ob R' :=
  fun F hF n φ h' w v vs hp hv hvs => (h F hF n φ h' w v vs hp hv hvs).mono fun _ _ ⟨v, r, ob', φ', h'', he, hR, h1, h2⟩ => ⟨v, r, ob', φ', h'', he, hr r ob' hR, h1, h2⟩

/- NAMES: at a call the objects at hand get names of their own. -/

def idx (i : Nat) : List Nat → Option Nat
  | [] => none
  | j :: r => if i = j then some 0 else (idx i r).map (· + 1)

theorem idx_get {i : Nat} : ∀ {nm : List Nat} {k : Nat}, idx i nm = some k → nm[k]? = some i
  | [], k, h => by simp [idx] at h
  | j :: r, k, h => by
    simp only [idx] at h
    split at h
    · rename_i e; cases h; simp [e]
    · cases hq : idx i r with
      | none => rw [hq] at h; cases h
      | some q => rw [hq] at h; simp at h; subst h; simpa using idx_get hq

theorem idx_none {i : Nat} : ∀ {nm : List Nat}, idx i nm = none → i ∉ nm
  | [], _ => by simp
  | j :: r, h => by
    simp only [idx] at h
    split at h
    · cases h
    · rename_i hne
      have : idx i r = none := by
        cases hq : idx i r with
        | none => rfl
        | some q => rw [hq] at h; cases h
      simp only [List.mem_cons, not_or]
      exact ⟨hne, idx_none this⟩

theorem get_idx {nm : List Nat} (hnd : nm.Nodup) {k i : Nat} (h : nm[k]? = some i) : idx i nm = some k := by
  cases hq : idx i nm with
  | none => exact absurd (List.mem_of_getElem? h) (idx_none hq)
  | some q =>
    have h2 := idx_get hq
    have e := List.getElem?_inj (i := q) (j := k) (List.getElem?_eq_some_iff.1 h2).1 hnd |>.1 (h2.trans h.symm)
    rw [e]

/- Names are turned by 'f'; what has no new name is no longer known. -/
mutual
def D.ren (f : Nat → Option Nat) : D → D
  | .ptr j o => match f j with | some k => .ptr k o | none => .undef
  | .vec j => match f j with | some k => .vec k | none => .undef
  | .vptr j a b c => match f j with | some k => .vptr k a b c | none => .undef
  | .map j => match f j with | some k => .map k | none => .undef
  | .yld j => match f j with | some k => .yld k | none => .undef
  | .agg cs => .agg (D.renL f cs)
  | .tuple cs => .tuple (D.renL f cs)
  | .func g a c => .func g (D.renL f a) (D.renL f c)
  | d => d
def D.renL (f : Nat → Option Nat) : List D → List D
  | [] => []
  | d :: r => D.ren f d :: D.renL f r
end

theorem renL_length (f : Nat → Option Nat) : ∀ cs : List D, (D.renL f cs).length = cs.length
  | [] => rfl
  | d :: r => by simp [D.renL, renL_length f r]

theorem renL_get (f : Nat → Option Nat) : ∀ (cs : List D) (j : Nat) (d : D), (D.renL f cs)[j]? = some d → ∃ d0, cs[j]? = some d0 ∧ d = D.ren f d0
  | [], j, d, h => by simp [D.renL] at h
  | c :: r, 0, d, h => by simp [D.renL] at h; exact ⟨c, rfl, h.symm⟩
  | c :: r, j + 1, d, h => by simpa using renL_get f r j d (by simpa [D.renL] using h)

theorem RV.ren {φ : Mem} {h h' : Nat → Value} {f : Nat → Option Nat} {v : Value} {d : D} (r : RV φ h v d) : (∀ i k, f i = some k → D.men i d = true → h' k = h i) → RV φ h' v (D.ren f d) := by
  have hget : ∀ {cs : List D} {j : Nat} {d : D} {i : Nat}, cs[j]? = some d → D.men i d = true → D.menL i cs = true := fun {cs j d i} hd hm => by
    cases hq : D.menL i cs with
    | true => rfl
    | false => rw [menL_get hq j d hd] at hm; cases hm
  induction r with
  | undef v => exact fun _ => .undef v
  | pure hr => exact fun _ => by cases hr <;> exact .pure (by constructor <;> assumption)
  | agg vs cs hs _ ih =>
    intro hm
    refine .agg vs _ (by rw [renL_length]; exact hs) fun j d hd => ?_
    obtain ⟨d0, h0, rfl⟩ := renL_get f cs j d hd
    exact ih j d0 h0 fun i k hk hi => hm i k hk (by simpa only [D.men] using hget h0 hi)
  | tuple vs cs hs _ ih =>
    intro hm
    refine .tuple vs _ (by rw [renL_length]; exact hs) fun j d hd => ?_
    obtain ⟨d0, h0, rfl⟩ := renL_get f cs j d hd
    exact ih j d0 h0 fun i k hk hi => hm i k hk (by simpa only [D.men] using hget h0 hi)
  | ptr id off b hh =>
    intro hm
    simp only [D.ren]
    split
    · rename_i k hk; exact .ptr k off b (by rw [hm id k hk (by simp [D.men])]; exact hh)
    · exact .undef _
  | fptr b off cs vals hm hr => exact fun _ => .fptr b off cs vals hm hr
  | vec id hl =>
    intro hm
    simp only [D.ren]
    split
    · rename_i k hk
      have := hm id k hk (by simp [D.men])
      rw [← this] at hl ⊢; exact .vec k hl
    · exact .undef _
  | vptr id a j sz b len cap hsz hh =>
    intro hm
    simp only [D.ren]
    split
    · rename_i k hk; exact .vptr k a j sz b len cap hsz (by rw [hm id k hk (by simp [D.men])]; exact hh)
    · exact .undef _
  | map id hl =>
    intro hm
    simp only [D.ren]
    split
    · rename_i k hk
      have := hm id k hk (by simp [D.men])
      rw [← this] at hl ⊢; exact .map k hl
    · exact .undef _
  | yld id b hh =>
    intro hm
    simp only [D.ren]
    split
    · rename_i k hk; exact .yld k b (by rw [hm id k hk (by simp [D.men])]; exact hh)
    · exact .undef _
  | func g vf vc df dc hf hc _ _ ih1 ih2 =>
    intro hm
    refine .func g vf vc _ _ (by rw [renL_length]; exact hf) (by rw [renL_length]; exact hc) (fun j d hd => ?_) fun j d hd => ?_
    · obtain ⟨d0, h0, rfl⟩ := renL_get f df j d hd
      exact ih1 j d0 h0 fun i k hk hi => hm i k hk (by simp only [D.men, Bool.or_eq_true]; exact .inl (hget h0 hi))
    · obtain ⟨d0, h0, rfl⟩ := renL_get f dc j d hd
      exact ih2 j d0 h0 fun i k hk hi => hm i k hk (by simp only [D.men, Bool.or_eq_true]; exact .inr (hget h0 hi))

def Ob.ren (f : Nat → Option Nat) : Ob → Ob
  | .cells cs => .cells (D.renL f cs)
  | .gen g cs => .gen g (D.renL f cs)
  | o => o

theorem menL_mem {i : Nat} {cs : List D} {j : Nat} {d : D} (hd : cs[j]? = some d) (hm : D.men i d = true) : D.menL i cs = true := by
  cases hq : D.menL i cs with
  | true => rfl
  | false => rw [menL_get hq j d hd] at hm; cases hm

theorem ObR.ren {own own' : Nat → Prop} {φ : Mem} {h h' : Nat → Value} {w : World} {hv : Value} {o : Ob} {f : Nat → Option Nat} (hob : ObR own φ h w hv o) (hown : ∀ b, blk hv = some b → own' b) (hm : ∀ i k, f i = some k → Ob.men i o = true → h' k = h i) : ObR own' φ h' w hv (o.ren f) := by
  cases o with
  | cells cs =>
    obtain ⟨b, vals, e, rfl, ho, hh, hs, hc, hn⟩ := hob
    refine ⟨b, vals, e, rfl, hown b rfl, hh, by rw [renL_length]; exact hs, fun j d hd => ?_, hn⟩
    obtain ⟨d0, h0, rfl⟩ := renL_get f cs j d hd
    exact (hc j d0 h0).ren fun i k hk hi => hm i k hk (menL_mem h0 hi)
  | gen g cs =>
    obtain ⟨b, vals, o, hbk, ho, hh, hg, hs, hc, hn⟩ := hob
    refine ⟨b, vals, o, hbk, hown b hbk, hh, hg, by rw [renL_length]; exact hs, fun j d hd => ?_, hn⟩
    obtain ⟨d0, h0, rfl⟩ := renL_get f cs j d hd
    exact (hc j d0 h0).ren fun i k hk hi => hm i k hk (menL_mem h0 hi)
  | arr fz sz e es =>
    obtain ⟨q1, q2, xs, q3, q4, q5⟩ := hob
    exact ⟨q1, q2, xs, q3, q4, fun b hb => ⟨hown b hb, (q5 b hb).2⟩⟩

/-- The objects that are handed over, under their new names. -/
def handO (ob : Obs) (g : Nat → Option Nat) : Nat → List Nat → Obs
  | _, [] => []
  | k, i :: r => match lk ob i with
    | some o => (k, o.ren g) :: handO ob g (k + 1) r
    | none => handO ob g (k + 1) r

theorem handO_lk {ob : Obs} {g : Nat → Option Nat} : ∀ (r : List Nat) (k : Nat) (j : Nat) (o : Ob), lk (handO ob g k r) j = some o → ∃ i o0, k ≤ j ∧ r[j - k]? = some i ∧ lk ob i = some o0 ∧ o = o0.ren g
  | [], k, j, o, h => by simp [handO, lk] at h
  | i :: r, k, j, o, h => by
    have next : lk (handO ob g (k + 1) r) j = some o → ∃ i' o0, k ≤ j ∧ (i :: r)[j - k]? = some i' ∧ lk ob i' = some o0 ∧ o = o0.ren g := fun h => by
      obtain ⟨i', o0, h1, h2, h3, h4⟩ := handO_lk r (k + 1) j o h
      refine ⟨i', o0, by omega, ?_, h3, h4⟩
      rw [show j - k = (j - (k + 1)) + 1 by omega]
      simpa using h2
    simp only [handO] at h
    split at h
    · rename_i o0 ho0
      simp only [lk] at h
      split at h
      · rename_i e; cases h; subst e; exact ⟨i, o0, Nat.le_refl _, by simp, ho0, rfl⟩
      · exact next h
    · exact next h

theorem handO_some {ob : Obs} {g : Nat → Option Nat} : ∀ (r : List Nat) (k : Nat) (j i : Nat), k ≤ j → r[j - k]? = some i → (lk ob i).isSome → (lk (handO ob g k r) j).isSome
  | [], k, j, i, _, h, _ => by simp at h
  | x :: r, k, j, i, hk, h, hi => by
    have next : k < j → (lk (handO ob g (k + 1) r) j).isSome := fun hlt => handO_some r (k + 1) j i (by omega) (by
      rw [show j - k = (j - (k + 1)) + 1 by omega] at h
      simpa using h) hi
    simp only [handO]
    split
    · simp only [lk]
      split
      · rfl
      · exact next (by omega)
    · rename_i hn
      refine next ?_
      rcases Nat.lt_or_ge k j with h' | h'
      · exact h'
      · exfalso
        have : j = k := by omega
        subst this
        simp at h
        subst h
        rw [hn] at hi; cases hi

/-- Back to the names of the caller. -/
def bkN (base : Nat) (nm : List Nat) (j : Nat) : Option Nat := match nm[j]? with
  | some i => some i
  | none => some (base + j)

def dropO (nm : List Nat) : Obs → Obs
  | [] => []
  | (j, o) :: r => if nm.contains j then dropO nm r else (j, o) :: dropO nm r

theorem dropO_lk {nm : List Nat} : ∀ (ob : Obs) (i : Nat), lk (dropO nm ob) i = if i ∈ nm then none else lk ob i
  | [], i => by simp [dropO, lk]
  | (j, o) :: r, i => by
    simp only [dropO, List.contains_iff_mem]
    split
    · rename_i hj
      rw [dropO_lk r i]
      split
      · rfl
      · rename_i hi
        simp only [lk]
        rw [if_neg (fun e => hi (by rw [e]; exact hj))]
    · rename_i hj
      simp only [lk]
      by_cases e : i = j
      · subst e; simp [hj]
      · rw [if_neg e, if_neg e, dropO_lk r i]

def renO (f : Nat → Nat) (g : Nat → Option Nat) : Obs → Obs
  | [] => []
  | (j, o) :: r => (f j, o.ren g) :: renO f g r

theorem renO_lk {f : Nat → Nat} {g : Nat → Option Nat} : ∀ {ob : Obs} {i : Nat} {o : Ob}, lk (renO f g ob) i = some o → (∀ j k, f j = f k → j = k) → ∃ j o0, f j = i ∧ lk ob j = some o0 ∧ o = o0.ren g
  | [], i, o, h, _ => by simp [renO, lk] at h
  | (j, x) :: r, i, o, h, hf => by
    simp only [renO, lk] at h
    split at h
    · rename_i e; cases h; exact ⟨j, x, e.symm, by simp [lk], rfl⟩
    · rename_i e
      obtain ⟨j', o0, h1, h2, h3⟩ := renO_lk (ob := r) h hf
      refine ⟨j', o0, h1, ?_, h3⟩
      simp only [lk]
      rw [if_neg (fun e' => e (by rw [← h1, e']))]
      exact h2

/-- The state behind a call. -/
def St.back (s : St) (base : Nat) (nm : List Nat) (ob' : Obs) : St :=
  ⟨s.tm, dropO nm s.ob ++ renO (fun j => match nm[j]? with | some i => i | none => base + j) (bkN base nm) ob'⟩

def St.top (s : St) : Nat := max (Env.top s.tm) (Obs.top s.ob)

/- The names that a state leads to. -/
mutual
def D.coll : D → List Nat → List Nat
  | .ptr j _, acc => if acc.contains j then acc else acc ++ [j]
  | .vec j, acc => if acc.contains j then acc else acc ++ [j]
  | .vptr j _ _ _, acc => if acc.contains j then acc else acc ++ [j]
  | .map j, acc => if acc.contains j then acc else acc ++ [j]
  | .yld j, acc => if acc.contains j then acc else acc ++ [j]
  | .agg cs, acc => D.collL cs acc
  | .tuple cs, acc => D.collL cs acc
  | .func _ a c, acc => D.collL c (D.collL a acc)
  | _, acc => acc
def D.collL : List D → List Nat → List Nat
  | [], acc => acc
  | d :: r, acc => D.collL r (D.coll d acc)
end

def reachGo (ob : Obs) : Nat → Nat → List Nat → List Nat
  | 0, _, acc => acc
  | f + 1, k, acc => match acc[k]? with
    | none => acc
    | some i => match lk ob i with
      | some o => reachGo ob f (k + 1) (D.collL o.parts acc)
      | none => reachGo ob f (k + 1) acc

def reach (ob : Obs) (acc : List Nat) : List Nat := reachGo ob 1000 0 acc

def oldO (bs : Nat) (g : Nat → Option Nat) : Obs → Obs
  | [] => []
  | (j, o) :: r => if j < bs then (j, o.ren g) :: oldO bs g r else oldO bs g r

theorem oldO_lk {bs : Nat} {g : Nat → Option Nat} : ∀ (ob : Obs) (i : Nat) (o : Ob), lk (oldO bs g ob) i = some o → i < bs ∧ ∃ o0, lk ob i = some o0 ∧ o = o0.ren g
  | [], i, o, h => by simp [oldO, lk] at h
  | (j, x) :: r, i, o, h => by
    simp only [oldO] at h
    split at h
    · rename_i hj
      simp only [lk] at h
      split at h
      · rename_i e; cases h; subst e; exact ⟨hj, x, by simp [lk], rfl⟩
      · rename_i e
        obtain ⟨h1, o0, h2, h3⟩ := oldO_lk r i o h
        exact ⟨h1, o0, by simp only [lk]; rw [if_neg e]; exact h2, h3⟩
    · rename_i hj
      obtain ⟨h1, o0, h2, h3⟩ := oldO_lk r i o h
      exact ⟨h1, o0, by simp only [lk]; rw [if_neg (by omega)]; exact h2, h3⟩

def renE (g : Nat → Option Nat) : Env → Env
  | [] => []
  | (t, d) :: r => (t, d.ren g) :: renE g r

theorem renE_lk {g : Nat → Option Nat} : ∀ {tm : Env} {t : Nat} {d : D}, lk (renE g tm) t = some d → ∃ d0, lk tm t = some d0 ∧ d = d0.ren g
  | [], t, d, h => by simp [renE, lk] at h
  | (j, x) :: r, t, d, h => by
    simp only [renE, lk] at h
    split at h
    · rename_i e; cases h; exact ⟨x, by simp [lk, e], rfl⟩
    · rename_i e
      obtain ⟨d0, h1, h2⟩ := renE_lk (tm := r) h
      exact ⟨d0, by simp only [lk]; rw [if_neg e]; exact h1, h2⟩

def Env.coll : Env → List Nat → List Nat
  | [], acc => acc
  | (_, d) :: r, acc => Env.coll r (d.coll acc)

def Obs.olds (bs : Nat) : Obs → List Nat
  | [] => []
  | (j, _) :: r => if j < bs then j :: Obs.olds bs r else Obs.olds bs r

/-- What is kept of a state: these temporaries, these objects, in this order. -/
def kept {α : Type} (l : List (Nat × α)) : List Nat → List (Nat × α)
  | [] => []
  | t :: ts => match lk l t with
    | some d => (t, d) :: kept l ts
    | none => kept l ts

theorem kept_lk {α : Type} {l : List (Nat × α)} {i : Nat} {d : α} : ∀ {ts : List Nat}, lk (kept l ts) i = some d → lk l i = some d
  | [], h => by simp [kept, lk] at h
  | t :: ts, h => by
    simp only [kept] at h
    split at h
    · rename_i x hx
      simp only [lk] at h
      split at h
      · rename_i e; cases h; rw [e]; exact hx
      · exact kept_lk h
    · exact kept_lk h

/-- The new names, in their order. -/
def newN (bs : Nat) (ob : Obs) (tm : Env) : List Nat := (reach ob (Env.coll tm (Obs.olds bs ob))).filter fun i => decide (bs ≤ i) && (lk ob i).isSome

def canG (bs : Nat) (nw : List Nat) (i : Nat) : Option Nat := if i < bs then some i else (idx i nw).map (bs + ·)

def newO (ob : Obs) (g : Nat → Option Nat) : Nat → List Nat → Obs
  | _, [] => []
  | k, i :: r => match lk ob i, g i with
    | some o, some q => if q = k then (k, o.ren g) :: newO ob g (k + 1) r else newO ob g (k + 1) r
    | _, _ => newO ob g (k + 1) r

theorem newO_lk {ob : Obs} {g : Nat → Option Nat} : ∀ (r : List Nat) (k : Nat) (j : Nat) (o : Ob), lk (newO ob g k r) j = some o → ∃ i o0, g i = some j ∧ lk ob i = some o0 ∧ o = o0.ren g
  | [], k, j, o, h => by simp [newO, lk] at h
  | i :: r, k, j, o, h => by
    simp only [newO] at h
    split at h
    · rename_i o0 q ho0 hq
      split at h
      · rename_i e
        simp only [lk] at h
        split at h
        · rename_i e2; cases h; exact ⟨i, o0, by rw [hq, e, e2], ho0, rfl⟩
        · exact newO_lk r (k + 1) j o h
      · exact newO_lk r (k + 1) j o h
    · exact newO_lk r (k + 1) j o h

def insO (i : Nat) (o : Ob) : Obs → Obs
  | [] => [(i, o)]
  | (j, p) :: r => if j < i then (j, p) :: insO i o r else (i, o) :: (j, p) :: r
def sortO : Obs → Obs
  | [] => []
  | (i, o) :: r => insO i o (sortO r)
theorem lk_insO (i : Nat) (o : Ob) (k : Nat) : ∀ l : Obs, lk (insO i o l) k = if k = i then some o else lk l k
  | [] => rfl
  | (j, p) :: r => by
    simp only [insO]
    split
    · rename_i h
      simp only [lk]
      by_cases hk : k = j
      · rw [if_pos hk, if_pos hk, if_neg (by omega)]
      · rw [if_neg hk, if_neg hk]; exact lk_insO i o k r
    · rfl
theorem lk_sortO (k : Nat) : ∀ l : Obs, lk (sortO l) k = lk l k
  | [] => rfl
  | (i, o) :: r => by simp only [sortO, lk_insO, lk, lk_sortO k r]
def canS (bs : Nat) (nw : List Nat) (tm : Env) (ob : Obs) : St := ⟨renE (canG bs nw) tm, sortO (oldO bs (canG bs nw) ob) ++ newO ob (canG bs nw) bs nw⟩

/-- These temporaries and what they lead to, under their first names. -/
def St.canon (s : St) (bs : Nat) (ts : List Nat) : St := canS bs (newN bs s.ob (kept s.tm ts)) (kept s.tm ts) s.ob

end Go.Sx

namespace Go.Sx
open Go.RowKit
variable [Globs] [Codes]

def hcal (h : Nat → Value) (nm : List Nat) : Nat → Value := fun j => match nm[j]? with | some i => h i | none => .pointer none
def hbak (h h' : Nat → Value) (base : Nat) : Nat → Value := fun i => if base ≤ i then h' (i - base) else h i

section
variable {cx : Cx} {s : St} {φ φ' : Mem} {h h' : Nat → Value} {tmps : Array Value} {w w' : World} {nm : List Nat}

theorem hcal_get {k i : Nat} (hk : nm[k]? = some i) : hcal h nm k = h i := by simp [hcal, hk]

theorem ren_hand {d : D} {v : Value} (r : RV φ h v d) : RV φ (hcal h nm) v (d.ren (idx · nm)) := r.ren fun i k hk _ => hcal_get (idx_get hk)

theorem ObR.own_blk {own : Nat → Prop} {hv : Value} {o : Ob} {b : Nat} (ho : ObR own φ h w hv o) (hb : blk hv = some b) : own b := by
  cases o with
  | cells cs =>
    obtain ⟨b', _, _, rfl, hown, _⟩ := ho
    simp only [blk, Option.some.injEq] at hb
    exact hb ▸ hown
  | arr fz sz e es =>
    obtain ⟨_, _, _, _, _, h1⟩ := ho
    exact (h1 b hb).1
  | gen g ds =>
    obtain ⟨b', _, _, h1, hown, _⟩ := ho
    rw [h1] at hb
    cases hb
    exact hown

theorem Mod.zof (hm : Mod cx s φ h tmps w) {b : Nat} (hz : ZOf s.ob h b) : cx.own b := by
  obtain ⟨i, hi, hb⟩ := hz
  obtain ⟨o, ho⟩ := Option.isSome_iff_exists.1 hi
  exact (hm.ob i o ho).own_blk hb

theorem Mod.loc (hm : Mod cx s φ h tmps w) (hg : GlobC φ w cx.own) (hnd : nm.Nodup) : Loc (fun _ => True) (handO s.ob (idx · nm) 0 nm) φ (hcal h nm) w := by
  refine ⟨fun i => ?_, hg.sub fun b ⟨j, hj, hb⟩ => ?_, hm.mem, fun j o ho => ?_, fun i j b hi hj hbi hbj => ?_⟩
  · simp only [hcal]
    split
    · exact hm.one _
    · rfl
  · obtain ⟨o, ho⟩ := Option.isSome_iff_exists.1 hj
    obtain ⟨i, o0, _, h1, h2, rfl⟩ := handO_lk nm 0 j o ho
    rw [Nat.sub_zero] at h1
    rw [hcal_get h1] at hb
    exact (hm.ob i o0 h2).own_blk hb
  · obtain ⟨i, o0, _, h1, h2, rfl⟩ := handO_lk nm 0 j o ho
    rw [Nat.sub_zero] at h1
    rw [hcal_get h1]
    exact (hm.ob i o0 h2).ren (fun _ _ => trivial) fun i k hk _ => hcal_get (idx_get hk)
  · obtain ⟨oi, hoi⟩ := Option.isSome_iff_exists.1 hi
    obtain ⟨oj, hoj⟩ := Option.isSome_iff_exists.1 hj
    obtain ⟨i1, o1, _, q1, q2, _⟩ := handO_lk nm 0 i oi hoi
    obtain ⟨j1, o2, _, r1, r2, _⟩ := handO_lk nm 0 j oj hoj
    rw [Nat.sub_zero] at q1 r1
    rw [hcal_get q1] at hbi
    rw [hcal_get r1] at hbj
    have := hm.sep i1 j1 b (by rw [q2]; rfl) (by rw [r2]; rfl) hbi hbj
    subst this
    exact (List.getElem?_inj (i := i) (j := j) (List.getElem?_eq_some_iff.1 q1).1 hnd).1 (q1.trans r1.symm)

/-- BACK IN THE CALLER. -/
theorem Mod.back (hm : Mod cx s φ h tmps w) {base : Nat} (hb1 : cx.bs ≤ base) (hb2 : s.top ≤ base) (hnd : nm.Nodup) (hin : ∀ i ∈ nm, (lk s.ob i).isSome) {ob' : Obs} (ha : After (handO s.ob (idx · nm) 0 nm) φ (hcal h nm) w ob' φ' h' w') :
    Mod cx (s.back base nm ob') φ' (hbak h h' base) tmps w' ∧ ∀ v r, RV φ' h' v r → RV φ' (hbak h h' base) v (r.ren (bkN base nm)) := by
  have htt : Env.top s.tm ≤ base := Nat.le_trans (Nat.le_max_left _ _) hb2
  have hto : Obs.top s.ob ≤ base := Nat.le_trans (Nat.le_max_right _ _) hb2
  have hnm : ∀ i ∈ nm, i < base := fun i hi => by
    obtain ⟨o, ho⟩ := Option.isSome_iff_exists.1 (hin i hi)
    exact (Obs.top_get hto ho).1
  have hag : ∀ i, i < base → hbak h h' base i = h i := fun i hi => by simp only [hbak]; rw [if_neg (by omega)]
  have hZ : ∀ b, ZOf (handO s.ob (idx · nm) 0 nm) (hcal h nm) b → ∃ i, i ∈ nm ∧ (lk s.ob i).isSome ∧ blk (h i) = some b := fun b ⟨j, hj, hbj⟩ => by
    obtain ⟨o, ho⟩ := Option.isSome_iff_exists.1 hj
    obtain ⟨i, o0, _, h1, h2, _⟩ := handO_lk nm 0 j o ho
    rw [Nat.sub_zero] at h1
    rw [hcal_get h1] at hbj
    exact ⟨i, List.mem_of_getElem? h1, by rw [h2]; rfl, hbj⟩
  have hown : ∀ i b, (lk s.ob i).isSome → blk (h i) = some b → cx.own b ∧ b < w.heap.size := fun i b hi hb => by
    obtain ⟨o, ho⟩ := Option.isSome_iff_exists.1 hi
    exact ⟨((hm.ob i o ho).blk_lt hb).2, ((hm.ob i o ho).blk_lt hb).1⟩
  have hZown : ∀ b, ZOf (handO s.ob (idx · nm) 0 nm) (hcal h nm) b → cx.own b ∧ b < w.heap.size := fun b hz => by
    obtain ⟨i, _, h2, h3⟩ := hZ b hz
    exact hown i b h2 h3
  have hown' : ∀ b, (w.heap.size ≤ b ∨ ZOf (handO s.ob (idx · nm) 0 nm) (hcal h nm) b) → cx.own b := fun b hb => hb.elim (fun hb => .inl (Nat.le_trans hm.grow hb)) fun hb => (hZown b hb).1
  have hφs : ∀ b, b < w.heap.size → ¬ ZOf (handO s.ob (idx · nm) 0 nm) (hcal h nm) b → ∀ off, φ' b off = φ b off := fun b hb hz off => by
    cases hq : φ b off with
    | some u => exact ha.ext b off u hq
    | none =>
      cases hq' : φ' b off with
      | none => rfl
      | some u => exact ((ha.new b off u hq' hq).elim (fun h => by omega) hz).elim
  have hfr : ∀ i b, i ∉ nm → (lk s.ob i).isSome → blk (h i) = some b → ¬ ZOf (handO s.ob (idx · nm) 0 nm) (hcal h nm) b := fun i b hi ho hb hz => by
    obtain ⟨j, h1, h2, h3⟩ := hZ b hz
    exact hi (hm.sep i j b ho h2 hb h3 ▸ h1)
  -- the handles
  have hinj : ∀ j k, (match nm[j]? with | some i => i | none => base + j) = (match nm[k]? with | some i => i | none => base + k) → j = k := fun j k e => by
    cases hj : nm[j]? with
    | none =>
      cases hk : nm[k]? with
      | none => rw [hj, hk] at e; simp only at e; omega
      | some i =>
        rw [hj, hk] at e
        have := hnm i (List.mem_of_getElem? hk)
        simp only at e
        omega
    | some i =>
      cases hk : nm[k]? with
      | none =>
        rw [hj, hk] at e
        have := hnm i (List.mem_of_getElem? hj)
        simp only at e
        omega
      | some i' =>
        rw [hj, hk] at e
        simp only at e
        subst e
        exact (List.getElem?_inj (List.getElem?_eq_some_iff.1 hj).1 hnd).1 (hj.trans hk.symm)
  have hh : ∀ j, hbak h h' base (match nm[j]? with | some i => i | none => base + j) = h' j := fun j => by
    cases hj : nm[j]? with
    | none => simp only [hbak]; rw [if_pos (by omega)]; congr 1; omega
    | some i =>
      have hi := List.mem_of_getElem? hj
      rw [hag i (hnm i hi), ha.hfix j (handO_some nm 0 j i (Nat.zero_le _) (by simpa using hj) (hin i hi)), hcal_get hj]
  have hg : ∀ i k, bkN base nm i = some k → hbak h h' base k = h' i := fun i k hk => by
    have : k = (match nm[i]? with | some i => i | none => base + i) := by
      unfold bkN at hk
      cases hq : nm[i]? with
      | none => rw [hq] at hk; simpa using hk.symm
      | some q => rw [hq] at hk; simpa using hk.symm
    rw [this]; exact hh i
  have hcase : ∀ i o, lk (s.back base nm ob').ob i = some o → (i ∉ nm ∧ lk s.ob i = some o) ∨ ∃ j o0, (match nm[j]? with | some i => i | none => base + j) = i ∧ lk ob' j = some o0 ∧ o = o0.ren (bkN base nm) := fun i o ho => by
    simp only [St.back] at ho
    rw [lk_append, dropO_lk] at ho
    by_cases hi : i ∈ nm
    · rw [if_pos hi] at ho
      simp only [Option.none_or] at ho
      exact .inr (renO_lk ho hinj)
    · rw [if_neg hi] at ho
      cases hq : lk s.ob i with
      | some o' => rw [hq] at ho; simp at ho; subst ho; exact .inl ⟨hi, rfl⟩
      | none => rw [hq] at ho; simp only [Option.none_or] at ho; exact .inr (renO_lk ho hinj)
  refine ⟨⟨hm.size, fun t d hd => ((hm.tm t d hd).mono ha.ext).under (Env.top_get htt hd) hag, ha.loc.mem, fun b o v hv => ha.ext b o v (hm.ext b o v hv), fun b o v hv h0 => ?_, fun i o ho => ?_, fun i j b hi hj hbi hbj => ?_,
    ha.os.trans hm.os, ha.tape.trans hm.tape, ha.output.trans hm.output, Nat.le_trans hm.grow ha.grow, fun i => ?_, fun b hb hz => ?_, fun i hi => ?_, fun b o hk => ?_⟩, fun v r hr => hr.ren fun i k hk _ => hg i k hk⟩
  · cases hq : φ b o with
    | some u => exact hm.new b o u hq h0
    | none => exact hown' b (ha.new b o v hv hq)
  · rcases hcase i o ho with ⟨h1, h2⟩ | ⟨j, o0, h1, h2, rfl⟩
    · have hlt := (Obs.top_get hto h2).1
      rw [hag i hlt]
      have hob := hm.ob i o h2
      refine hob.keep (fun _ hb => hb) (fun b hb => ha.frame b (hob.blk_lt hb).1 (hfr i b h1 (by rw [h2]; rfl) hb)) ha.ext (fun b hb => hφs b (hob.blk_lt hb).1 (hfr i b h1 (by rw [h2]; rfl) hb)) (fun v d hd r => ?_)
      exact (r.mono ha.ext).under (topL_get (Obs.top_get hto h2).2 hd) hag
    · have hob := ha.loc.obj j o0 h2
      rw [← h1, hh j]
      exact hob.ren (fun b hb => hown' b (hob.blk_lt hb).2) fun i k hk _ => hg i k hk
  · obtain ⟨oi, hoi⟩ := Option.isSome_iff_exists.1 hi
    obtain ⟨oj, hoj⟩ := Option.isSome_iff_exists.1 hj
    have mix : ∀ i j oj, i ∉ nm → (lk s.ob i).isSome → lk ob' j = some oj → blk (h i) = some b → blk (h' j) = some b → False := fun i j oj h1 h2 h3 hb1 hb2 => by
      rcases ((ha.loc.obj j oj h3).blk_lt hb2).2 with h4 | h4
      · have := (hown i b h2 hb1).2; omega
      · exact hfr i b h1 h2 hb1 h4
    rcases hcase i oi hoi with ⟨h1, h2⟩ | ⟨i', o0, h1, h2, rfl⟩ <;> rcases hcase j oj hoj with ⟨q1, q2⟩ | ⟨j', o1, q1, q2, rfl⟩
    · rw [hag i (Obs.top_get hto h2).1] at hbi
      rw [hag j (Obs.top_get hto q2).1] at hbj
      exact hm.sep i j b (by rw [h2]; rfl) (by rw [q2]; rfl) hbi hbj
    · rw [hag i (Obs.top_get hto h2).1] at hbi
      rw [← q1, hh j'] at hbj
      exact (mix i j' o1 h1 (by rw [h2]; rfl) q2 hbi hbj).elim
    · rw [hag j (Obs.top_get hto q2).1] at hbj
      rw [← h1, hh i'] at hbi
      exact (mix j i' o0 q1 (by rw [q2]; rfl) h2 hbj hbi).elim
    · rw [← h1, hh i'] at hbi
      rw [← q1, hh j'] at hbj
      have := ha.loc.sep i' j' b (by rw [h2]; rfl) (by rw [q2]; rfl) hbi hbj
      rw [← h1, ← q1, this]
  · simp only [hbak]
    split
    · exact ha.loc.one _
    · exact hm.one _
  · have hlt : b < w.heap.size := Nat.lt_of_lt_of_le hb hm.grow
    rw [ha.frame b hlt (fun hzz => (hZown b hzz).1.elim (fun h => by omega) hz)]
    exact hm.frame b hb hz
  · rw [hag i (by omega)]; exact hm.hfix i hi
  · obtain ⟨q1, q2, q3⟩ := hm.kept b o hk
    have hlt := (Array.getElem?_eq_some_iff.1 q1).1
    have hnz : ¬ ZOf (handO s.ob (idx · nm) 0 nm) (hcal h nm) b := fun hz => by
      obtain ⟨i, _, h2, h3⟩ := hZ b hz
      exact q3 i h2 h3
    refine ⟨by rw [ha.frame b hlt hnz]; exact q1, fun off => by rw [hφs b hlt hnz]; exact q2 off, fun i hi hb => ?_⟩
    obtain ⟨oi, hoi⟩ := Option.isSome_iff_exists.1 hi
    rcases hcase i oi hoi with ⟨h1, h2⟩ | ⟨j, o0, h1, h2, rfl⟩
    · rw [hag i (Obs.top_get hto h2).1] at hb
      exact q3 i (by rw [h2]; rfl) hb
    · rw [← h1, hh j] at hb
      rcases ((ha.loc.obj j o0 h2).blk_lt hb).2 with h3 | h3
      · omega
      · exact hnz h3

/-- Other names for what is new. -/
theorem Mod.names (hm : Mod cx s φ h tmps w) {f : Nat → Nat} {g : Nat → Option Nat} {h2 : Nat → Value} (hinj : ∀ j k, (g j).isSome → (g k).isSome → f j = f k → j = k) (hfg : ∀ j k, g j = some k → k = f j) (hh : ∀ j k, g j = some k → h2 k = h j) (hone : HOne h2)
    (hfix : ∀ i, i < cx.bs → h2 i = h i) {tm : Env} {ob : Obs} (htm : ∀ t d, lk tm t = some d → ∃ d0, lk s.tm t = some d0 ∧ d = d0.ren g) (hob : ∀ i o, lk ob i = some o → ∃ j o0, g j = some i ∧ lk s.ob j = some o0 ∧ o = o0.ren g) : Mod cx ⟨tm, ob⟩ φ h2 tmps w := by
  refine ⟨hm.size, fun t d hd => ?_, hm.mem, hm.ext, hm.new, fun i o ho => ?_, fun i j b hi hj hbi hbj => ?_, hm.os, hm.tape, hm.output, hm.grow, hone, hm.frame, fun i hi => (hfix i hi).trans (hm.hfix i hi), fun b o hk => ?_⟩
  · obtain ⟨d0, h0, rfl⟩ := htm t d hd
    exact (hm.tm t d0 h0).ren fun i k hk _ => hh i k hk
  · obtain ⟨j, o0, h1, h3, rfl⟩ := hob i o ho
    rw [hh j i h1]
    have := hm.ob j o0 h3
    exact this.ren (fun b hb => (this.blk_lt hb).2) fun i k hk _ => hh i k hk
  · obtain ⟨oi, hoi⟩ := Option.isSome_iff_exists.1 hi
    obtain ⟨oj, hoj⟩ := Option.isSome_iff_exists.1 hj
    obtain ⟨i', o0, q1, q3, _⟩ := hob i oi hoi
    obtain ⟨j', o1, r1, r3, _⟩ := hob j oj hoj
    rw [hh i' i q1] at hbi
    rw [hh j' j r1] at hbj
    have := hm.sep i' j' b (by rw [q3]; rfl) (by rw [r3]; rfl) hbi hbj
    subst this
    rw [q1] at r1
    exact Option.some.inj r1
  · obtain ⟨q1, q2, q3⟩ := hm.kept b o hk
    refine ⟨q1, q2, fun i hi hb => ?_⟩
    obtain ⟨oi, hoi⟩ := Option.isSome_iff_exists.1 hi
    obtain ⟨j, o0, r1, r3, _⟩ := hob i oi hoi
    rw [hh j i r1] at hb
    exact q3 j (by rw [r3]; rfl) hb

/-- Under the first names. -/
theorem Mod.canS (hm : Mod cx s φ h tmps w) {tm : Env} (htm : ∀ t d, lk tm t = some d → lk s.tm t = some d) {nw : List Nat} : ∃ h2, (∀ v d, RV φ h v d → RV φ h2 v (d.ren (canG cx.bs nw))) ∧ Mod cx (canS cx.bs nw tm s.ob) φ h2 tmps w := by
  let f : Nat → Nat := fun i => if i < cx.bs then i else cx.bs + (idx i nw).getD 0
  let h2 : Nat → Value := fun k => if k < cx.bs then h k else match nw[k - cx.bs]? with | some i => h i | none => .pointer none
  have hgf : ∀ j k, canG cx.bs nw j = some k → k = f j := fun j k hk => by
    simp only [canG] at hk
    simp only [f]
    split at hk
    · rename_i hj; cases hk; rw [if_pos hj]
    · rename_i hj
      rw [if_neg hj]
      cases hq : idx j nw with
      | none => rw [hq] at hk; cases hk
      | some q => rw [hq] at hk; simp at hk; simp [hk]
  have hg2 : ∀ j k, canG cx.bs nw j = some k → h2 k = h j := fun j k hk => by
    simp only [canG] at hk
    simp only [h2]
    split at hk
    · rename_i hj; cases hk; rw [if_pos hj]
    · rename_i hj
      cases hq : idx j nw with
      | none => rw [hq] at hk; cases hk
      | some q =>
        rw [hq] at hk
        simp at hk
        subst hk
        rw [if_neg (by omega), Nat.add_sub_cancel_left, idx_get hq]
  have hinj : ∀ j k, (canG cx.bs nw j).isSome → (canG cx.bs nw k).isSome → f j = f k → j = k := fun j k hj hk e => by
    simp only [f] at e
    simp only [canG] at hj hk
    by_cases h1 : j < cx.bs <;> by_cases h2 : k < cx.bs
    · simpa [h1, h2] using e
    · rw [if_pos h1, if_neg h2] at e; omega
    · rw [if_neg h1, if_pos h2] at e; omega
    · rw [if_neg h1] at hj
      rw [if_neg h2] at hk
      rw [if_neg h1, if_neg h2] at e
      cases hq : idx j nw with
      | none => rw [hq] at hj; cases hj
      | some q =>
        cases hq' : idx k nw with
        | none => rw [hq'] at hk; cases hk
        | some q' =>
          rw [hq, hq'] at e
          simp at e
          have e1 := idx_get hq
          have e2 := idx_get hq'
          rw [e] at e1
          exact Option.some.inj (e1.symm.trans e2)
  refine ⟨h2, fun v d r => r.ren fun i k hk _ => hg2 i k hk, hm.names hinj hgf hg2 (fun i => ?_) (fun i hi => by simp only [h2]; rw [if_pos hi]) (fun t d hd => ?_) (fun i o ho => ?_)⟩
  · simp only [h2]
    split
    · exact hm.one _
    · split
      · exact hm.one _
      · rfl
  · obtain ⟨d0, h0, rfl⟩ := renE_lk hd
    exact ⟨d0, htm t d0 h0, rfl⟩
  · have ho' : lk (sortO (oldO cx.bs (canG cx.bs nw) s.ob) ++ newO s.ob (canG cx.bs nw) cx.bs nw) i = some o := ho
    rw [lk_append, lk_sortO] at ho'
    cases hq : lk (oldO cx.bs (canG cx.bs nw) s.ob) i with
    | some o' =>
      rw [hq] at ho'
      simp at ho'
      subst ho'
      obtain ⟨h1, o0, h3, h4⟩ := oldO_lk s.ob i o' hq
      exact ⟨i, o0, by simp [canG, h1], h3, h4⟩
    | none =>
      rw [hq] at ho'
      simp only [Option.none_or] at ho'
      exact newO_lk nw cx.bs i o ho'


end
end Go.Sx

namespace Go.Sx
open Go.RowKit
variable [Globs] [Codes]

def St.get (s : St) : X → D
  | .t n => (lk s.tm n).getD .undef
  | .c d => d

def St.put (s : St) (dst : Option Nat) (d : D) : St :=
  match dst with
  | some t => { s with tm := (t, d) :: eraseId t s.tm }
  | none => s

def St.put2 (s : St) (dst id : Nat) (d : D) (o : Ob) : St := { tm := (dst, d) :: eraseId dst s.tm, ob := (id, o) :: eraseId id s.ob }

def gud (g : Option (Nat × Bool)) (s : St) (body skip : Prop) : Prop :=
  match g with
  | none => body
  | some (t, want) => match lk s.tm t with
    | some (.bool b) => if b = want then body else skip
    | some (.tuple []) => skip
    | _ => False

/-- An argument: what is only grown by us is handed over as what it holds. -/
def dva (obs : Nat → Option Ob) : D → D
  | .vec id => match obs id with
    | some (.arr true _ _ es) => .slice es []
    | _ => .vec id
  | .nils => .slice [] []
  | d => d

/-- A number from which on all is free; below it there is room for the places of a region. -/
def St.base (s : St) (bs : Nat) : Nat := max (bs + 4096) s.top

def stp (P : Program) (bs : Nat) (o : SOp) (s : St) (K : St → Prop) : Prop :=
  match o with
  | .a dst g op xs => gud g s
      (evl P (bs + dst.getD 0) op (xs.map s.get) (lk s.ob) fun d nb => match nb with
        | none => K (s.put dst d)
        | some ob => match dst with
          | some t => s.clean (bs + t) = true ∧ K (s.put2 t (bs + t) d ob)
          | none => False)
      (K (s.put dst .nov))
  | .st g sz x y => gud g s
      (match stO sz (s.get x) (s.get y) (lk s.ob) with
        | some (a, b, id, o) => a < b ∧ K { s with ob := (id, o) :: eraseId id s.ob }
        | none => False)
      (K s)
  | .app dst g fz sz e x y => gud g s
      (match sliceOf (lk s.ob) (s.get y) with
        | some (ys, _) => (∀ q ∈ ys, q.length = sz) ∧ (match s.get x with
          | .nils => ys.length ≤ 1073741824 ∧ s.clean (bs + dst) = true ∧ K (s.put2 dst (bs + dst) (.vec (bs + dst)) (.arr fz sz e ys))
          | .vec id => match lk s.ob id with
            | some (.arr fz' sz' e' es) => sz' = sz ∧ e' = e ∧ es.length + ys.length ≤ 1073741824 ∧ s.clean (bs + dst) = true ∧
                K (St.put2 ⟨s.tm, eraseId id s.ob⟩ dst (bs + dst) (.vec (bs + dst)) (.arr fz' sz e (es ++ ys)))
            | _ => False
          | _ => False)
        | none => False)
      (K (s.put (some dst) .nov))
  | .cd dst g x xs => gud g s
      (∃ nm R base, nm.Nodup ∧ (∀ i ∈ nm, (lk s.ob i).isSome) ∧ bs + 4096 ≤ base ∧ s.top ≤ base ∧
        CallL P ((s.get x).ren (idx · nm)) ((xs.map fun x => dva (lk s.ob) (s.get x)).map (D.ren (idx · nm))) (handO s.ob (idx · nm) 0 nm) R ∧
        ∀ r ob', R r ob' → K ((s.back base nm ob').put dst (r.ren (bkN base nm))))
      (K (s.put dst .nov))

def stps (P : Program) (bs : Nat) : List SOp → St → (St → Prop) → Prop
  | [], s, K => K s
  | o :: r, s, K => stp P bs o s fun s' => stps P bs r s' K

/- FROM THE PROGRAM's OPERATIONS. -/

/-- A variable of the program: what is known of it. -/
def glx (g : Nat) : D := match Globs.G g with
  | some cs => .fptr cs
  | none => .undef

def compX : Operand → Option X
  | .tmp t => some (.t t)
  | .const v => some (.c (constD v))
  | .func f => some (.c (.func (.func f) [] []))
  | .global g => some (.c (glx g))

def pureF (P : Program) (f : FuncId) : Bool :=
  match P.funcs[f]? with
  | some fn => !fn.body.isNone && !(fn.name == "runtime.NumGoroutine")
  | none => false

def compCall (P : Program) (c : Call) : Option (AOp × List Operand) :=
  match c.callee with
  | .builtin .len => match c.args.toList, c.argTypes.toList with
    | [x], [t] => match P.underlying t with
      | some .string => some (.len true, [x])
      | some (.slice _) => some (.len false, [x])
      | _ => none
    | _, _ => none
  | .value (.func f) => if pureF P f then some (.call f, c.args.toList) else none
  | .builtin .max => some (.mm true, c.args.toList)
  | .builtin .min => some (.mm false, c.args.toList)
  | _ => none

/-- Calls that may reach our objects. -/
def compCd (bt : Nat → Bool) (c : Call) : Option (Operand × List Operand) :=
  match c.callee with
  | .value (.func f) => if bt f then some (.func f, c.args.toList) else none
  | .value g => some (g, c.args.toList)
  | _ => none

/-- A nil slice that is laid into a temporary: a row of ours, as yet without elements. -/
def nilT (P : Program) (o : Oper) (x : Operand) : Option (Nat × TypeId) :=
  match x with
  | .const (.slice none 0 0) => match P.underlying o.type with
    | some (.slice e) => match szT P e with
      | some sz => if 0 < sz then some (sz, e) else none
      | none => none
    | _ => none
  | _ => none
/-- 1: the same operand; 2: the first is nought. -/
def sameOp : Operand → Operand → Nat
  | .tmp a, .tmp b => if a = b then 1 else 0
  | .const (.int .i64 n), .const (.int .i64 m) => if n = m then 1 else if n = 0 then 2 else 0
  | .const (.int .i64 n), .tmp _ => if n = 0 then 2 else 0
  | _, _ => 0
theorem sameOp_1 {l c : Operand} (h : sameOp l c = 1) : l = c := by
  unfold sameOp at h
  split at h
  · split at h
    · rename_i e; rw [e]
    · cases h
  · split at h
    · rename_i e; rw [e]
    · split at h <;> cases h
  · split at h <;> cases h
  · cases h
theorem sameOp_2 {l c : Operand} (h : sameOp l c = 2) : l = .const (.int .i64 0) := by
  unfold sameOp at h
  split at h
  · split at h <;> cases h
  · split at h
    · cases h
    · split at h
      · rename_i e; rw [e]
      · cases h
  · split at h
    · rename_i e; rw [e]
    · cases h
  · cases h
/-- The operation without its place. -/
def compA (P : Program) (fz : Bool) (o : Oper) : Option (AOp × List Operand) :=
  match o.op with
  | .move x => match nilT P o x with
    | some (sz, e) => some (.nilv fz sz e, [x])
    | none => some (.mv, [x])
  | .assign x => match nilT P o x with
    | some (sz, e) => some (.nilv fz sz e, [x])
    | none => some (.mv, [x])
  | .pick c a b => some (.pick, [c, a, b])
  | .binOp .shl _ x y _ => some (.sh true, [x, y])
  | .binOp .shr _ x y _ => some (.sh false, [x, y])
  | .binOp op t x y _ => match P.underlying t with
    | some .bool => some (.binb op, [x, y])
    | some (.int _) => some (.bin op, [x, y])
    | some .string => some (.bin op, [x, y])
    | some (.struct fs) => match flatKs P fs.toList 0 with
      | some ks => if P.stoodInHeld t = false ∧ P.eqGuardType P.depth t = false then (match op with
        | .eql => some (.eqs false ks, [x, y])
        | .neq => some (.eqs true ks, [x, y])
        | _ => none) else none
      | none => none
    | _ => match kdOf P t with
      | some kd => if cst x || cst y then some (.eqn op kd, [x, y]) else none
      | none => none
  | .unOp op _ x => some (.un op, [x])
  | .convert s d x => match P.underlying s, P.underlying d with
    | some _, some (.int k) => some (.conv k, [x])
    | some (.slice e), some .string => match P.underlying e with
      | some (.int .u8) => some (.b2s, [x])
      | _ => none
    | _, _ => none
  | .makeSlice t l c => match P.underlying t with
    | some (.slice e) => match P.info? e, zeroOf P e with
      | some i, some z => if 0 < i.size then (match sameOp l c with
        | 1 => some (.mks fz i.size e (z.map unnil) i.bytes, [l])
        | 2 => some (.mke fz i.size e i.bytes, [c])
        | _ => none) else none
      | _, _ => none
    | _ => none
  | .box _ x => some (.box, [x])
  | .alloc e => (zeroOf P e).map fun z => (.alloc z, [])
  | .build t parts => match zeroOf P t, placesOf P t (parts.toList.map (·.1)) with
    | some z, some ps => some (.build (z.map unnil) ps, parts.toList.map (·.2))
    | _, _ => none
  | .buildSlice t n parts => match P.underlying t with
    | some (.slice e) => match zeroOf P e, szT P e with
      | some z, some sz => if 0 < sz ∧ n * sz ≤ 16777216 then some (.bslice fz sz n e ((List.replicate n (z.map unnil)).flatten) (parts.toList.map fun x => (x.1 * sz, sz)), parts.toList.map (·.2)) else none
      | _, _ => none
    | _ => none
  | .load t x => match aggB P t, szT P t with
    | some ag, some sz => some (.load ag sz, [x])
    | _, _ => none
  | .fieldAddr s x f => (fldOff P s f).map fun r => (.faddr r.1, [x])
  | .field s x f => (fldOff P s f).map fun r => (.field r.1 r.2.1 r.2.2, [x])
  | .indexAddr t x y => match P.underlying t with
    | some (.slice e) => (szT P e).map fun sz => (.iaddr sz, [x, y])
    | some (.array len e) => (szT P e).map fun sz => (.iaddrA len sz, [x, y])
    | _ => none
  | .index t x y => match P.underlying t with
    | some .string => some (.index, [x, y])
    | _ => none
  | .slice t x lo hi none => match P.underlying t with
    | some .string => some (.sliceS lo.isSome hi.isSome, [x] ++ lo.toList ++ hi.toList)
    | some (.slice e) => (szT P e).map fun sz => (.slice sz lo.isSome hi.isSome, [x] ++ lo.toList ++ hi.toList)
    | _ => none
  | .extract x i => some (.extract i, [x])
  | .call c => match compCall P c with
    | some r => some r
    | none => some (.bad, [])
  | .nilCheck x => some (.nilck, [x])
  | .makeFunc f first caps => some (.mkfn f first.size, first.toList ++ caps.toList)
  | .makeMap _ none => some (.mkmap, [])
  | .lookup t m k false => match P.underlying t with
    | some (.map kt et) => match keyK P kt, zeroE P et with
      | some kd, some z => some (.mlook kd z, [m, k])
      | _, _ => none
    | _ => none
  | _ => some (.bad, [])

def guardOf (ops : Array Oper) (o : Oper) : Option (Option (Nat × Bool)) :=
  match o.guard with
  | none => some none
  | some (j, want) => ((ops[j]?).bind (·.dst)).map fun t => some (t, want)

def compO (P : Program) (bt : Nat → Bool) (fz : Bool) (ops : Array Oper) (o : Oper) : Option SOp :=
  match guardOf ops o with
  | none => none
  | some g =>
    match o.op with
    | .store t x y => match szT P t, compX x, compX y, o.dst with
      | some sz, some x, some y, none => some (.st g (.c sz) x y)
      | _, _, _, _ => none
    | .insert t m k x => match mapK P t k, compX m, compX x, o.dst with
      | some key, some m, some x, none => some (.st g (.m key) m x)
      | _, _, _, _ => none
    | .mapUpdate t m k x => match mapK P t k, compX m, compX x, o.dst with
      | some key, some m, some x, none => some (.st g (.m key) m x)
      | _, _, _, _ => none
    | .call { callee := .builtin .append, args, argTypes } => match o.dst, args.toList, argTypes.toList with
      | some dst, [x, y], [t, u] => match P.underlying t, compX x, compX y with
        | some (.slice e), some x, some y => match P.info? e, zeroOf P e with
          | some i, some _ => if t = u ∧ 0 < i.size ∧ i.bytes ≤ 131072 then some (.app dst g fz i.size e x y) else none
          | _, _ => none
        | _, _, _ => none
      | _, _, _ => none
    | .call c => match compCd bt c with
      | some (x, xs) => match compX x, xs.mapM compX with
        | some x, some xs => some (.cd o.dst g x xs)
        | _, _ => none
      | none => match compA P fz o with
        | some (op, xs) => (xs.mapM compX).map fun xs => .a o.dst g op xs
        | none => none
    | _ => match compA P fz o with
      | some (op, xs) => (xs.mapM compX).map fun xs => .a o.dst g op xs
      | none => none

end Go.Sx

namespace Go.Sx
open Go.RowKit
variable [Globs] [Codes]

section
variable {P : Program} {o : Oper} {ρ : Operand → Value} {w : World} {φ : Mem} {h : Nat → Value} {dst : Nat} {K : D → Option Ob → Prop} {obs : Nat → Option Ob} {own : Nat → Prop}

theorem pureF_spec {f : FuncId} (hp : pureF P f = true) : ∃ fn, P.funcs[f]? = some fn ∧ fn.body.isNone = false ∧ (fn.name == "runtime.NumGoroutine") = false := by
  unfold pureF at hp
  split at hp
  · rename_i fn hf
    simp only [Bool.and_eq_true, Bool.not_eq_true'] at hp
    exact ⟨fn, hf, hp.1, hp.2⟩
  · cases hp

theorem compA_sound {fz : Bool} {op : AOp} {xs : List Operand} (hc : compA P fz o = some (op, xs)) (hρ : ∀ f, ρ (.func f) = .func (.func f) #[] #[]) (hρc : ∀ v, ρ (.const v) = v) (hh : HOne h) (hgl : GlobC φ w (fun _ => False)) (hφ : Sub φ w)
    (hobs : ∀ i ob, obs i = some ob → live (h i) = true → ObR own φ h w (h i) ob) {ds : List D} (hr : RVL φ h (xs.map ρ) ds) (hm : ∀ d ob, K d (some ob) → D.menL dst ds = false) (hev : evl P dst op ds obs K) : OpOut P o ρ w (APost φ h w dst K) := by
  unfold compA at hc
  split at hc
  case h_1 x ho =>
    split at hc
    · cases hc; exact s_nilv (.inl ho) hφ hr hev
    · cases hc; exact s_mv (.inl ho) hφ hr hev
  case h_2 x ho =>
    split at hc
    · cases hc; exact s_nilv (.inr ho) hφ hr hev
    · cases hc; exact s_mv (.inr ho) hφ hr hev
  case h_3 c a b ho => cases hc; exact s_pick ho hφ hr hev
  case h_4 _ x y _ ho => cases hc; exact s_sh (left := true) ho hφ hr hev
  case h_5 _ x y _ ho => cases hc; exact s_sh (left := false) ho hφ hr hev
  case h_6 op t x y yt _ _ ho =>
    split at hc
    · rename_i ht; cases hc; exact s_binb ho ht hφ hr hev
    · cases hc; exact s_bin ho hφ hr hev
    · cases hc; exact s_bin ho hφ hr hev
    · rename_i fs hu
      split at hc
      · rename_i ks hks
        split at hc
        · rename_i hfl
          split at hc
          · cases hc; exact s_eqs (neg := false) (by rw [ho]; rfl) hu hks hfl.1 hfl.2 hφ hr hev
          · cases hc; exact s_eqs (neg := true) (by rw [ho]; rfl) hu hks hfl.1 hfl.2 hφ hr hev
          · cases hc
        · cases hc
      · cases hc
    · split at hc
      · rename_i kd hkd
        split at hc
        · rename_i hcs; cases hc; exact s_eqn ho hkd hcs hφ hr hev
        · cases hc
      · cases hc
  case h_7 op t x ho => cases hc; exact s_un ho hφ hr hev
  case h_8 s d x ho =>
    split at hc
    · rename_i u k hs hd; cases hc; exact s_conv ho (by rw [hs]; rfl) hd hφ hr hev
    · rename_i e hs hd
      split at hc
      · rename_i he; cases hc; exact s_b2s ho hs he hd hφ (fun i ob h1 h2 => ⟨_, hobs i ob h1 h2⟩) hr hev
      · cases hc
    · cases hc
  case h_9 t l c ho =>
    split at hc
    · rename_i e hu
      split at hc
      · rename_i i z hi hz
        split at hc
        · rename_i hsz
          split at hc
          · rename_i hs1
            cases hc
            obtain rfl := sameOp_1 hs1
            exact s_mks ho hu hz hi rfl hsz hφ hr hev
          · rename_i hs2
            cases hc
            obtain rfl := sameOp_2 hs2
            exact s_mke ho (hρc _) hu hz hi rfl hsz hφ hr hev
          · cases hc
        · cases hc
      · cases hc
    · cases hc
  case h_10 e x ho => cases hc; exact s_box ho hh hφ hr hm hev
  case h_11 e ho =>
    cases hz : zeroOf P e with
    | none => rw [hz] at hc; cases hc
    | some z =>
      rw [hz] at hc; cases hc
      match ds, hr, hev with
      | [], _, hev => exact s_alloc ho hz hφ hev
  case h_12 t parts ho =>
    split at hc
    · rename_i z ps hz hp
      cases hc
      exact s_build ho hz hp hh hφ hobs (by rw [List.map_map] at hr; exact hr) hev
    · cases hc
  case h_13 t n parts ho =>
    split at hc
    · rename_i e hu
      split at hc
      · rename_i z sz hz hs
        split at hc
        · rename_i hcond
          cases hc
          exact s_bslice ho hu hz hs hcond.1 hcond.2 hh hφ hobs (by rw [List.map_map] at hr; exact hr) hev
        · cases hc
      · cases hc
    · cases hc
  case h_14 t x ho =>
    split at hc
    · rename_i ag sz ha hs; cases hc; exact s_load ho ha hs hφ hobs hr hev
    · cases hc
  case h_15 s x f ho =>
    cases hf : fldOff P s f with
    | none => rw [hf] at hc; cases hc
    | some r => rw [hf] at hc; cases hc; exact s_faddr (ag := r.2.1) (n := r.2.2) ho hf hφ hr hev
  case h_16 s x f ho =>
    cases hf : fldOff P s f with
    | none => rw [hf] at hc; cases hc
    | some r => rw [hf] at hc; cases hc; exact s_field ho hf hφ hr hev
  case h_17 t x y ho =>
    split at hc
    · rename_i e hu
      cases hs : szT P e with
      | none => rw [hs] at hc; cases hc
      | some sz => rw [hs] at hc; cases hc; exact s_iaddr ho hu hs hφ hobs hr hev
    · rename_i len e hu
      cases hs : szT P e with
      | none => rw [hs] at hc; cases hc
      | some sz => rw [hs] at hc; cases hc; exact s_iaddrA ho hu hs hφ hr hev
    · cases hc
  case h_18 t x y ho =>
    split at hc
    · rename_i hu; cases hc; exact s_index ho hu hφ hr hev
    · cases hc
  case h_19 t x lo hi ho =>
    split at hc
    · rename_i hu; cases hc; exact s_slice_str ho hu hφ hr hev
    · rename_i e hu
      cases hs : szT P e with
      | none => rw [hs] at hc; cases hc
      | some sz => rw [hs] at hc; cases hc; exact s_slice ho hu hs hφ hobs hr hev
    · cases hc
  case h_20 x i ho => cases hc; exact s_extract ho hφ hr hev
  case h_21 c ho =>
    obtain ⟨cal, args, ts⟩ := c
    cases hcc : compCall P { callee := cal, args := args, argTypes := ts } with
    | none => rw [hcc] at hc; cases hc; exact hev.elim
    | some r =>
    rw [hcc] at hc
    obtain rfl := Option.some.inj hc
    clear hc
    have hc := hcc; clear hcc
    simp only [compCall] at hc
    split at hc
    · split at hc
      · rename_i x t hx ht
        have hx' : args = #[x] := Array.ext' hx
        have ht' : ts = #[t] := Array.ext' ht
        subst hx'
        subst ht'
        split at hc
        · rename_i hu; cases hc; exact s_len (str := true) ho hu hφ hobs hr hev
        · rename_i e hu; cases hc; exact s_len (str := false) ho ⟨e, hu⟩ hφ hobs hr hev
        · cases hc
      · cases hc
    · rename_i f
      split at hc
      · rename_i hp
        cases hc
        obtain ⟨fn, hf, hb, hn⟩ := pureF_spec hp
        exact s_call ho hf hb hn (hρ f) hh hgl hφ hobs hr hev
      · cases hc
    · cases hc; exact s_mm (big := true) ho hφ hr hev
    · cases hc; exact s_mm (big := false) ho hφ hr hev
    · cases hc
  case h_22 x ho => cases hc; exact s_nilck ho hφ hr hev
  case h_23 f first caps ho => cases hc; exact s_mkfn ho hφ hr hev
  case h_24 t ho =>
    cases hc
    match ds, hr, hev with
    | [], _, hev => exact s_mkmap ho hφ hev
  case h_25 t m k ho =>
    split at hc
    · rename_i kt et hu
      split at hc
      · rename_i kd z hkd hz; cases hc; exact s_mlook ho hu hkd hz hφ (fun i ob h1 h2 => ⟨_, hobs i ob h1 h2⟩) hr hev
      · cases hc
    · cases hc
  case h_26 => cases hc; exact hev.elim

end

theorem OpOut.wpIn {F : Fence} (hF : Fence.Open F) {n : Nat} {P : Program} {o : Oper} {a : Act} {w : World} {next : Act → World → Prop} {Q : Exit → Act → World → Prop} (hnd : ∀ c, o.op ≠ .defer c)
    {R : Value → World → Prop} (hout : OpOut P o a.eval w R) (hnext : ∀ v w', R v w' → next (a.put o.dst v) w') : o.wpIn F n P a w next Q := by
  refine ⟨fun f _ => hF.fn f, ?_⟩
  rw [Oper.semAt_eq _ _ _ hnd]
  rcases hout with ⟨v, w', he, hr⟩ | ⟨f, vs, he, hcall⟩
  · rw [he]; exact hnext v w' hr
  · rw [he, Oper.uponIn_enter]
    refine ⟨(fun h => by rw [hF.depth] at h; cases h), (hF.calls hcall _).mono ?_⟩
    rintro e w' ⟨v, rfl, hr⟩
    exact hnext v w' hr

theorem wpIn_skipped {F : Fence} (hF : Fence.Open F) {n : Nat} {P : Program} {o : Oper} {a : Act} {w w' : World} {next : Act → World → Prop} {Q : Exit → Act → World → Prop} (hnd : ∀ c, o.op ≠ .defer c)
    (he : (execOp a.eval o).run P w = .ok .skip w') (hnext : next (a.put o.dst Go.undef) w') : o.wpIn F n P a w next Q := by
  refine ⟨fun f _ => hF.fn f, ?_⟩
  rw [Oper.semAt_eq _ _ _ hnd, he]
  exact hnext

end Go.Sx

namespace Go.Sx
open Go.RowKit
variable [Globs] [Codes]

section
variable {cx : Cx} {s s' : St} {φ φ' : Mem} {h : Nat → Value} {tmps : Array Value} {w w' : World}

/-- What is forgotten is no longer known. -/
theorem Mod.weaken (hm : Mod cx s φ h tmps w) (h1 : ∀ t d, lk s'.tm t = some d → lk s.tm t = some d) (h2 : ∀ i o, lk s'.ob i = some o → lk s.ob i = some o) : Mod cx s' φ h tmps w := by
  have h3 : ∀ i, (lk s'.ob i).isSome → (lk s.ob i).isSome := fun i hi => by
    obtain ⟨o, ho⟩ := Option.isSome_iff_exists.1 hi
    rw [h2 i o ho]; rfl
  exact ⟨hm.size, fun t d hd => hm.tm t d (h1 t d hd), hm.mem, hm.ext, hm.new, fun i o ho => hm.ob i o (h2 i o ho), fun i j b hi hj => hm.sep i j b (h3 i hi) (h3 j hj), hm.os, hm.tape, hm.output, hm.grow, hm.one, hm.frame, hm.hfix, fun b o hb => ⟨(hm.kept b o hb).1, (hm.kept b o hb).2.1, fun i hi => (hm.kept b o hb).2.2 i (h3 i hi)⟩⟩

theorem Mod.grown (hm : Mod cx s φ h tmps w) (hb : Below w.heap.size w w') (hmono : ∀ b o u, φ b o = some u → φ' b o = some u) (hsub : Sub φ' w') (hnew : ∀ b o u, φ' b o = some u → φ b o = none → w.heap.size ≤ b) :
    Mod cx s φ' h tmps w' := by
  refine ⟨hm.size, fun t d hd => (hm.tm t d hd).mono hmono, hsub, fun b o v hb => hmono b o v (hm.ext b o v hb), fun b o u hu h0 => ?_, fun i o ho => ?_, hm.sep, hb.os.trans hm.os, hb.tape.trans hm.tape, hb.output.trans hm.output,
    Nat.le_trans hm.grow hb.size, hm.one, fun b h1 h2 => ?_, hm.hfix, fun b o hbk => ?_⟩
  · cases hq : φ b o with
    | some u' => exact hm.new b o u' hq h0
    | none => exact .inl (Nat.le_trans hm.grow (hnew b o u hu hq))
  · have hob := hm.ob i o ho
    exact hob.keep (fun _ hb => hb) (fun b hbk => hb.block b (hob.blk_lt hbk).1) hmono (fun b hbk off => phi_same hmono hnew (hob.blk_lt hbk).1 off) (fun v d _ r => r.mono hmono)
  · rw [hb.block b (Nat.lt_of_lt_of_le h1 hm.grow)]
    exact hm.frame b h1 h2
  · obtain ⟨h1, h2, h3⟩ := hm.kept b o hbk
    have hlt := (Array.getElem?_eq_some_iff.1 h1).1
    exact ⟨by rw [hb.block b hlt]; exact h1, fun off => by rw [phi_same hmono hnew hlt off]; exact h2 off, h3⟩

theorem Mod.drew (hm : Mod cx s φ h tmps w) : Mod cx s φ h tmps w.drew :=
  hm.grown ((Below.refl _ w).drew) (fun _ _ _ h => h) hm.mem (fun _ _ _ h h' => by rw [h] at h'; cases h')

theorem Mod.glob (hm : Mod cx s φ h tmps w) (hg : GlobC cx.φ0 cx.w0 cx.Z) : GlobC φ w cx.own := by
  refine ⟨fun g cs hgc => (hg.ok g cs hgc).mono hm.ext, fun g arr hx => ?_, fun g hx => ?_⟩
  rotate_left
  · obtain ⟨⟨arr, ty, fr, m, h1, h3⟩, h2⟩ := hg.i g hx
    have hlt := (Array.getElem?_eq_some_iff.1 h1).1
    exact ⟨⟨arr, ty, fr, m, by rw [hm.frame g hlt h2]; exact h1, h3⟩, fun ho => ho.elim (fun h => by omega) h2⟩
  obtain ⟨⟨ty, fr, h1⟩, h2⟩ := hg.x g arr hx
  have hlt := (Array.getElem?_eq_some_iff.1 h1).1
  exact ⟨⟨ty, fr, by rw [hm.frame g hlt h2]; exact h1⟩, fun ho => ho.elim (fun h => by omega) h2⟩

theorem fptr_noH {v : Value} {cs : List D} (r : RV φ noH v (.fptr cs)) : RV φ h v (.fptr cs) := by
  obtain ⟨b, o, vals, rfl, h1, h2⟩ := r.fptr_inv
  exact .fptr b o cs vals h1 h2

theorem Mod.get (hm : Mod cx s φ h tmps w) (hg : GlobC cx.φ0 cx.w0 cx.Z) {ds : List Deferred} {x : Operand} {y : X} (hx : compX x = some y) : RV φ h (Act.eval ⟨tmps, ds⟩ x) (s.get y) := by
  cases x with
  | tmp t =>
    cases hx
    simp only [Act.eval, St.get]
    cases hl : lk s.tm t with
    | none => exact .undef _
    | some d => exact hm.tm t d hl
  | const v => cases hx; exact rv_const φ h v
  | func f => cases hx; exact .func _ _ _ _ _ rfl rfl (by simp) (by simp)
  | global g =>
    cases hx
    simp only [St.get, glx]
    cases hq : Globs.G g with
    | none => exact .undef _
    | some cs => exact fptr_noH ((hm.glob hg).ok g cs hq)

theorem Mod.gets (hm : Mod cx s φ h tmps w) (hg : GlobC cx.φ0 cx.w0 cx.Z) {ds : List Deferred} : ∀ {xs : List Operand} {ys : List X}, xs.mapM compX = some ys → RVL φ h (xs.map (Act.eval ⟨tmps, ds⟩)) (ys.map s.get)
  | [], ys, hx => by simp at hx; subst hx; trivial
  | x :: xs, ys, hx => by
    simp only [List.mapM_cons, Option.bind_eq_bind, Option.bind_eq_some_iff, Option.pure_def, Option.some.injEq] at hx
    obtain ⟨y, h1, ys', h2, rfl⟩ := hx
    exact ⟨hm.get hg h1, hm.gets hg h2⟩

theorem men_const (i : Nat) (v : Value) : D.men i (constD v) = false := by
  unfold constD
  split <;> rfl

theorem men_get {t : Nat} (hcl : s.clean t = true) {x : Operand} {y : X} (hx : compX x = some y) : D.men t (s.get y) = false := by
  cases x with
  | tmp n =>
    cases hx
    simp only [St.get]
    cases hl : lk s.tm n with
    | none => rfl
    | some d => exact St.clean_tm hcl hl
  | const v => cases hx; exact men_const t v
  | func f => cases hx; rfl
  | global g =>
    cases hx
    simp only [St.get, glx]
    cases hq : Globs.G g <;> rfl

theorem men_gets {t : Nat} (hcl : s.clean t = true) : ∀ {xs : List Operand} {ys : List X}, xs.mapM compX = some ys → D.menL t (ys.map s.get) = false
  | [], ys, hx => by simp at hx; subst hx; rfl
  | x :: xs, ys, hx => by
    simp only [List.mapM_cons, Option.bind_eq_bind, Option.bind_eq_some_iff, Option.pure_def, Option.some.injEq] at hx
    obtain ⟨y, h1, ys', h2, rfl⟩ := hx
    simp only [List.map_cons, D.menL, men_get hcl h1, men_gets hcl h2, Bool.or_self]

theorem look_put {α : Type} (t : Nat) (d : α) (l : List (Nat × α)) (i : Nat) : lk ((t, d) :: eraseId t l) i = lk ((t, d) :: l) i := by
  simp only [lk]
  split
  · rfl
  · rename_i hi; rw [look_erase, if_neg hi]

theorem gen_one {own : Nat → Prop} {hv : Value} {g : Gen} {ds : List D} (hob : ObR own φ h w hv (.gen g ds)) : hv.oneCell' = true := by
  obtain ⟨b, vals, o, _, _, _, hg, _⟩ := hob
  cases g with
  | loop => obtain ⟨⟨b, rfl⟩, _⟩ := hg; rfl
  | map => obtain ⟨⟨b, rfl⟩, _⟩ := hg; rfl

theorem dva_sound {own : Nat → Prop} {obs : Nat → Option Ob} (hobs : ∀ i ob, obs i = some ob → ObR own φ h w (h i) ob) {v : Value} {d : D} (r : RV φ h v d) : RV φ h v (dva obs d) := by
  unfold dva
  split
  · split
    · rename_i ho
      rw [r.vec_inv]; exact .pure (ob_rep (hobs _ _ ho))
    · exact r
  · rw [r.nils_inv]; exact .pure .nil
  · exact r

theorem RVL_dva {own : Nat → Prop} (hobs : ∀ i ob, lk s.ob i = some ob → ObR own φ h w (h i) ob) : ∀ {vs : List Value} {xs : List X}, RVL φ h vs (xs.map s.get) → RVL φ h vs (xs.map fun x => dva (lk s.ob) (s.get x))
  | [], [], _ => trivial
  | v :: vs, x :: xs, hr => ⟨dva_sound hobs hr.1, RVL_dva hobs hr.2⟩
  | [], _ :: _, hr => hr.elim
  | _ :: _, [], hr => hr.elim

/-- A temporary is written. -/
theorem Mod.setTmp (hm : Mod cx s φ h tmps w) {dst : Nat} {d : D} {v : Value} (hd : dst < cx.N) (hr : RV φ h v d) : Mod cx { s with tm := (dst, d) :: s.tm } φ h (tmps.setIfInBounds dst v) w := by
  have := hm.astep (dst := dst) (id := cx.bs) (d := d) (nb := none) (v := v) (hv := Go.undef) ⟨Below.refl _ _, fun _ _ _ h => h, hm.mem, (fun _ _ _ h h' => by rw [h] at h'; cases h'), hr, (fun _ h => by cases h)⟩ hd (Nat.le_refl _)
    (fun h => absurd rfl h) (fun h => absurd rfl h) (fun h => absurd rfl h)
  exact this

def NextM (cx : Cx) (ds : List Deferred) (K : St → Prop) (a : Act) (w' : World) : Prop := a.defers = ds ∧ ∃ s' φ' h', K s' ∧ Mod cx s' φ' h' a.tmps w'

/-- THE STEP OF THE STATE IS A STEP OF THE MACHINE. -/
theorem clean_erase {i id : Nat} {s : St} (h : s.clean i = true) : St.clean i ⟨s.tm, eraseId id s.ob⟩ = true := by
  simp only [St.clean, Bool.and_eq_true] at h ⊢
  refine ⟨h.1, ?_⟩
  have h2 := h.2
  clear h
  generalize s.ob = l at *
  induction l with
  | nil => rfl
  | cons p l ih =>
    obtain ⟨j, o⟩ := p
    simp only [List.all_cons, Bool.and_eq_true] at h2
    simp only [eraseId]
    split
    · exact ih h2.2
    · simp only [List.all_cons, Bool.and_eq_true]; exact ⟨h2.1, ih h2.2⟩

theorem RVL_ren {nm : List Nat} : ∀ {vs : List Value} {xs : List D}, RVL φ h vs xs → RVL φ (hcal h nm) vs (xs.map (D.ren (idx · nm)))
  | [], [], _ => trivial
  | _ :: _, _ :: _, hr => ⟨ren_hand hr.1, RVL_ren hr.2⟩
  | [], _ :: _, hr => hr.elim
  | _ :: _, [], hr => hr.elim

theorem step_sound {F : Fence} (hF : Fence.Open F) {n : Nat} {P : Program} {fz : Bool} {ops : Array Oper} {o : Oper} {so : SOp} {K : St → Prop} {Q : Exit → Act → World → Prop} {ds : List Deferred} {bt : Nat → Bool} {bs : Nat} (hbs : cx.bs ≤ bs) (hgl : GlobC cx.φ0 cx.w0 cx.Z) (hc : compO P bt fz ops o = some so)
    (hd : ∀ d, o.dst = some d → d < cx.N) (hm : Mod cx s φ h tmps w) (hst : stp P bs so s K) :
    if Region.wanted o (yielded ops tmps) then o.wpIn F n P ⟨tmps, ds⟩ w (NextM cx ds K) Q
    else (∀ f, o.about P w (Act.eval ⟨tmps, ds⟩) = some f → F.fn f) ∧ NextM cx ds K (Act.put ⟨tmps, ds⟩ o.dst Go.undef) w := by
  have hundef : ∀ dst : Option Nat, (∀ d, dst = some d → d < cx.N) → Mod cx (s.put dst .nov) φ h (Act.put ⟨tmps, ds⟩ dst Go.undef).tmps w := fun dst hdd => by
    cases dst with
    | none => exact hm
    | some t =>
      have := hm.astep (dst := t) (id := cx.bs) (d := .nov) (nb := none) (v := Go.undef) (hv := Go.undef) ⟨Below.refl _ _, fun _ _ _ h => h, hm.mem, (fun _ _ _ h h' => by rw [h] at h'; cases h'), .tuple #[] [] rfl (by simp), (fun _ h => by cases h)⟩ (hdd t rfl) (Nat.le_refl _)
        (fun h => absurd rfl h) (fun h => absurd rfl h) (fun h => absurd rfl h)
      exact this.weaken (fun i d hi => by simp only [St.put, look_put] at hi; exact hi) (fun i o hi => hi)
  unfold compO at hc
  cases hg : guardOf ops o with
  | none => rw [hg] at hc; cases hc
  | some g =>
  rw [hg] at hc
  -- the guard
  have hguard : ∀ {body skip : Prop}, gud g s body skip → (Region.wanted o (yielded ops tmps) = true ∧ body) ∨ (Region.wanted o (yielded ops tmps) = false ∧ skip) := fun {body skip} hgd => by
    unfold guardOf at hg
    cases hog : o.guard with
    | none =>
      rw [hog] at hg
      cases hg
      exact .inl ⟨by simp [Region.wanted, hog], hgd⟩
    | some jw =>
      obtain ⟨j, want⟩ := jw
      rw [hog] at hg
      simp only [] at hg
      cases hj : (ops[j]?).bind (·.dst) with
      | none => rw [hj] at hg; cases hg
      | some t =>
        rw [hj] at hg
        cases hg
        simp only [gud] at hgd
        split at hgd
        · rename_i b hb
          have hv : tmps.getD t Go.undef = .bool b := (hm.tm t _ hb).bool_inv
          have ht : tmps[t]? = some (.bool b) := by
            cases hq : tmps[t]? with
            | none => simp [Array.getD_eq_getD_getElem?, hq, Go.undef] at hv
            | some v => simp [Array.getD_eq_getD_getElem?, hq] at hv; rw [hv]
          have hy : yielded ops tmps j = some b := by simp [yielded, hj, ht]
          split at hgd
          · rename_i hbw; exact .inl ⟨by simp [Region.wanted, hog, hy, hbw], hgd⟩
          · rename_i hbw; exact .inr ⟨by simp [Region.wanted, hog, hy, hbw], hgd⟩
        · rename_i hb
          obtain ⟨vs, hv, hvs, _⟩ := (hm.tm t _ hb).tuple_inv
          have hv0 : tmps.getD t Go.undef = .tuple #[] := by
            rw [hv]; congr 1; exact Array.eq_empty_of_size_eq_zero (by simpa using hvs)
          have hy : yielded ops tmps j = none := by
            cases hq : tmps[t]? with
            | none => simp [yielded, hj, hq]
            | some v =>
              have : v = .tuple #[] := by simpa [Array.getD_eq_getD_getElem?, hq] using hv0
              simp [yielded, hj, hq, this]
          exact .inr ⟨by simp [Region.wanted, hog, hy], hgd⟩
        · exact hgd.elim
  have other : (match compA P fz o with
      | some (op, xs) => (xs.mapM compX).map fun xs => SOp.a o.dst g op xs
      | none => none) = some so → if Region.wanted o (yielded ops tmps) then o.wpIn F n P ⟨tmps, ds⟩ w (NextM cx ds K) Q
    else (∀ f, o.about P w (Act.eval ⟨tmps, ds⟩) = some f → F.fn f) ∧ NextM cx ds K (Act.put ⟨tmps, ds⟩ o.dst Go.undef) w := by
    intro hc
    split at hc
    · rename_i op xs hca
      cases hxs : xs.mapM compX with
      | none => rw [hxs] at hc; cases hc
      | some ys =>
        rw [hxs] at hc
        cases hc
        rcases hguard hst with ⟨hw, hb⟩ | ⟨hw, hk⟩
        · rw [if_pos hw]
          have hnd : ∀ c, o.op ≠ .defer c := fun c hdf => by
            unfold compA at hca
            rw [hdf] at hca
            cases hca
            exact False.elim hb
          refine OpOut.wpIn hF hnd (compA_sound (own := cx.own) (obs := lk s.ob) hca (fun f => rfl) (fun v => rfl) hm.one ((hm.glob hgl).sub fun _ h => h.elim) hm.mem (fun i ob hi _ => hm.ob i ob hi) (hm.gets hgl hxs) ?_ hb) ?_
          · intro d ob hk
            cases hdst : o.dst with
            | none => rw [hdst] at hk; exact hk.elim
            | some t => rw [hdst] at hk; exact men_gets hk.1 hxs
          · rintro v w' ⟨d, nb, φ', hv, hk, hstep⟩
            cases hdst : o.dst with
            | none =>
              rw [hdst] at hk
              cases nb with
              | none => exact ⟨rfl, s, φ', h, hk, hm.grown hstep.below hstep.mono hstep.mem hstep.new⟩
              | some ob => exact hk.elim
            | some t =>
              rw [hdst] at hk hstep
              cases nb with
              | none =>
                have := hm.astep hstep (hd t hdst) (Nat.le_trans hbs (Nat.le_add_right _ _)) (fun h => absurd rfl h) (fun h => absurd rfl h) (fun h => absurd rfl h)
                exact ⟨rfl, _, φ', h, hk, this.weaken (fun i d hi => by simp only [St.put, look_put] at hi; exact hi) (fun i o hi => hi)⟩
              | some ob =>
                have hone : hv.oneCell' = true := by
                  have hob := hstep.ob ob rfl
                  cases ob with
                  | cells cs => obtain ⟨b, vals, e, rfl, _⟩ := hob; rfl
                  | arr fz sz e es =>
                    obtain ⟨a, c, rfl⟩ := ob_arr_val hob
                    rfl
                  | gen gg gds => exact gen_one hob
                have := hm.astep hstep (hd t hdst) (Nat.le_trans hbs (Nat.le_add_right _ _)) (fun _ _ _ h => St.clean_tm hk.1 h) (fun _ _ _ h => St.clean_ob hk.1 h) (fun _ => hone)
                exact ⟨rfl, _, φ', _, hk.2, this.weaken (fun i d hi => by simp only [St.put2, look_put] at hi; exact hi) (fun i o hi => by simp only [St.put2, look_put] at hi; exact hi)⟩
        · rw [if_neg (by rw [hw]; simp)]
          exact ⟨fun f _ => hF.fn f, by cases o.dst <;> rfl, _, φ, h, hk, hundef o.dst hd⟩
    · cases hc

  simp only [] at hc
  split at hc
  · -- a store
    rename_i t x y ho
    split at hc
    · rename_i sz x' y' hs hx hy hdst
      cases hc
      rcases hguard hst with ⟨hw, hb⟩ | ⟨hw, hk⟩
      · rw [if_pos hw]
        split at hb
        · rename_i a b id ob hst'
          obtain ⟨hab, hk⟩ := hb
          obtain ⟨w', he, hm'⟩ := stO_sound (o := o) (ρ := Act.eval ⟨tmps, ds⟩) (fun _ => rfl) (.inl ⟨_, _, rfl, ho, hs⟩) hm (hm.get hgl (ds := ds) hx) (hm.get hgl hy) hst' hab
          refine wpIn_skipped hF (by rw [ho]; intro c h; cases h) he ⟨by rw [hdst]; rfl, _, φ, h, hk, ?_⟩
          rw [hdst]
          exact hm'.weaken (fun _ _ h => h) (fun i o' hi => by simp only [look_put] at hi; exact hi)
        · exact hb.elim
      · rw [if_neg (by rw [hw]; simp)]
        exact ⟨fun f _ => hF.fn f, by rw [hdst]; rfl, s, φ, h, hk, by rw [hdst]; exact hm⟩
    · cases hc
  · -- an insert
    rename_i t x k y ho
    split at hc
    · rename_i key x' y' hkey hx hy hdst
      cases hc
      rcases hguard hst with ⟨hw, hb⟩ | ⟨hw, hk⟩
      · rw [if_pos hw]
        split at hb
        · rename_i a b id ob hst'
          obtain ⟨hab, hk⟩ := hb
          obtain ⟨w', he, hm'⟩ := stO_sound (o := o) (ρ := Act.eval ⟨tmps, ds⟩) (fun _ => rfl) (.inr ⟨_, _, _, rfl, .inl ho, hkey⟩) hm (hm.get hgl (ds := ds) hx) (hm.get hgl hy) hst' hab
          refine wpIn_skipped hF (by rw [ho]; intro c h; cases h) he ⟨by rw [hdst]; rfl, _, φ, h, hk, ?_⟩
          rw [hdst]
          exact hm'.weaken (fun _ _ h => h) (fun i o' hi => by simp only [look_put] at hi; exact hi)
        · exact hb.elim
      · rw [if_neg (by rw [hw]; simp)]
        exact ⟨fun f _ => hF.fn f, by rw [hdst]; rfl, s, φ, h, hk, by rw [hdst]; exact hm⟩
    · cases hc
  · -- an insert
    rename_i t x k y ho
    split at hc
    · rename_i key x' y' hkey hx hy hdst
      cases hc
      rcases hguard hst with ⟨hw, hb⟩ | ⟨hw, hk⟩
      · rw [if_pos hw]
        split at hb
        · rename_i a b id ob hst'
          obtain ⟨hab, hk⟩ := hb
          obtain ⟨w', he, hm'⟩ := stO_sound (o := o) (ρ := Act.eval ⟨tmps, ds⟩) (fun _ => rfl) (.inr ⟨_, _, _, rfl, .inr ho, hkey⟩) hm (hm.get hgl (ds := ds) hx) (hm.get hgl hy) hst' hab
          refine wpIn_skipped hF (by rw [ho]; intro c h; cases h) he ⟨by rw [hdst]; rfl, _, φ, h, hk, ?_⟩
          rw [hdst]
          exact hm'.weaken (fun _ _ h => h) (fun i o' hi => by simp only [look_put] at hi; exact hi)
        · exact hb.elim
      · rw [if_neg (by rw [hw]; simp)]
        exact ⟨fun f _ => hF.fn f, by rw [hdst]; rfl, s, φ, h, hk, by rw [hdst]; exact hm⟩
    · cases hc
  · -- an append
    rename_i args ts ho
    split at hc
    · rename_i dst x y t u hdst hargs hts
      split at hc
      · rename_i e x' y' hu hx hy
        split at hc
        · rename_i i z hi hz
          split at hc
          · rename_i hcond
            obtain ⟨rfl, hsz, hby⟩ := hcond
            cases hc
            have hargs' : args = #[x, y] := Array.ext' hargs
            have hts' : ts = #[t, t] := Array.ext' hts
            subst hargs'
            subst hts'
            obtain ⟨i', zv, hi', hzv, hzs, _⟩ := zeroOf_spec hz
            rw [hi] at hi'
            cases hi'
            rcases hguard hst with ⟨hw, hb⟩ | ⟨hw, hk⟩
            · rw [if_pos hw]
              split at hb
              · rename_i ys ext hso
                obtain ⟨hyl, hb⟩ := hb
                have hyv : Rep φ (Act.eval ⟨tmps, ds⟩ y) (.slice ys ext) := by
                  have hyr := hm.get hgl (ds := ds) hy
                  generalize s.get y' = dy at *
                  cases dy <;> simp only [sliceOf] at hso <;> try (cases hso; done)
                  case slice => cases hso; exact hyr.slice_inv
                  case vec id =>
                    split at hso
                    · rename_i sz' e' es' hob
                      cases hso
                      have hv := hyr.vec_inv
                      rw [hv]; exact ob_rep (hm.ob id _ hob)
                    · cases hso
                  case nils => cases hso; rw [hyr.nils_inv]; exact .nil
                have hbts : ∀ k : Nat, k ≤ 1073741824 → k ≤ maxLen ∧ k * i.bytes ≤ 140737488355328 := fun k hk => by
                  refine ⟨by unfold maxLen; omega, ?_⟩
                  calc k * i.bytes ≤ 1073741824 * 131072 := Nat.mul_le_mul hk hby
                    _ = 140737488355328 := rfl
                have finish : ∀ {s1 : St} {fz' : Bool} {es : List (List D)}, Mod cx s1 φ h tmps w → s1.clean (bs + dst) = true → ObR cx.own φ h w (Act.eval ⟨tmps, ds⟩ x) (.arr fz' i.size e es) →
                    (∀ j b, (lk s1.ob j).isSome → blk (h j) = some b → blk (Act.eval ⟨tmps, ds⟩ x) ≠ some b) → (∀ b, blk (Act.eval ⟨tmps, ds⟩ x) = some b → ¬ (cx.kp b).isSome) → es.length + ys.length ≤ 1073741824 → K (s1.put2 dst (bs + dst) (.vec (bs + dst)) (.arr fz' i.size e (es ++ ys))) →
                    o.wpIn F n P ⟨tmps, ds⟩ w (NextM cx ds K) Q := fun {s1 fz' es} hm1 hcl hob hfree hnk hlen hk => by
                  obtain ⟨v', w', φ', hrun, hm'⟩ := append_core (P := P) (ty := o.type) (dst := dst) (id := bs + dst) hu hi hzv rfl rfl hzs hsz hm1 (hd dst hdst) (Nat.le_trans hbs (Nat.le_add_right _ _)) hcl hob hfree hnk hyv hyl (hbts _ hlen).1 (hbts _ hlen).2
                  have hex : (execOp (Act.eval ⟨tmps, ds⟩) o).run P w = .ok (.value v') w' := by
                    refine exec_builtin ho ?_
                    simp [builtin, hrun]
                  refine OpOut.wpIn hF (by rw [ho]; intro c h; cases h) (R := fun v w2 => v = v' ∧ w2 = w') (.inl ⟨v', w', hex, rfl, rfl⟩) ?_
                  rintro v2 w2 ⟨e1, e2⟩
                  rw [e1, e2]
                  refine ⟨by rw [hdst]; rfl, _, φ', updH h (bs + dst) v', hk, ?_⟩
                  rw [hdst]
                  exact hm'.weaken (fun j d hj => by simp only [St.put2, look_put] at hj; exact hj) (fun j d hj => by simp only [St.put2, look_put] at hj; exact hj)
                split at hb
                · rename_i hxd
                  obtain ⟨h1, h2, hk⟩ := hb
                  have hxv := hm.get hgl (ds := ds) hx
                  rw [hxd] at hxv
                  have hx0 := hxv.nils_inv
                  refine finish (s1 := s) (es := []) hm h2 ?_ ?_ (by rw [hx0]; intro b hb; cases hb) (by simpa using h1) (by simpa using hk)
                  · rw [hx0]
                    exact ⟨hsz, by simp, [], World.ownsRow_nil w 0 e i.size, by simp, fun b hb => by cases hb⟩
                  · intro j b _ _ hb; rw [hx0] at hb; cases hb
                · rename_i id hxd
                  have hxv := hm.get hgl (ds := ds) hx
                  rw [hxd] at hxv
                  have hx0 := hxv.vec_inv
                  split at hb
                  · rename_i fz' sz' e' es hob
                    obtain ⟨rfl, rfl, h1, h2, hk⟩ := hb
                    refine finish (s1 := ⟨s.tm, eraseId id s.ob⟩) (hm.weaken (fun _ _ h => h) fun i o hi => ?_) (clean_erase h2) ?_ ?_ ?_ h1 hk
                    · rw [look_erase] at hi
                      split at hi
                      · cases hi
                      · exact hi
                    · rw [hx0]; exact hm.ob id _ hob
                    · intro j b hj hbj hbx
                      rw [hx0] at hbx
                      rw [look_erase] at hj
                      split at hj
                      · cases hj
                      · rename_i hne
                        exact hne (hm.sep j id b hj (by simp [hob]) hbj hbx)
                    · intro b hb hkb
                      rw [hx0] at hb
                      obtain ⟨ko, hko⟩ := Option.isSome_iff_exists.1 hkb
                      exact (hm.kept b ko hko).2.2 id (by simp [hob]) hb
                  · exact hb.elim
                · exact hb.elim
              · exact hb.elim
            · rw [if_neg (by rw [hw]; simp)]
              exact ⟨fun f _ => hF.fn f, by rw [hdst]; rfl, _, φ, h, hk, by rw [hdst]; exact hundef (some dst) (fun d hd' => by cases hd'; exact hd dst hdst)⟩
          · cases hc
        · cases hc
      · cases hc
    · cases hc
  · -- a call
    rename_i c _ ho
    split at hc
    · rename_i cx' cxs hcd
      split at hc
      · rename_i x' xs' hx hxs
        cases hc
        -- the value called and the arguments
        have hcall : ∃ g', c.callee = .value g' ∧ cx' = g' ∧ cxs = c.args.toList := by
          obtain ⟨cal, args, ts⟩ := c
          unfold compCd at hcd
          cases cal with
          | value g' =>
            cases g' <;> simp only [] at hcd <;> first | (split at hcd; all_goals first | (cases hcd; exact ⟨_, rfl, rfl, rfl⟩) | cases hcd) | (cases hcd; exact ⟨_, rfl, rfl, rfl⟩)
          | builtin b => cases hcd
          | invoke _ _ => cases hcd
        obtain ⟨g', hg', rfl, rfl⟩ := hcall
        rcases hguard hst with ⟨hw, hb⟩ | ⟨hw, hk⟩
        · rw [if_pos hw]
          obtain ⟨nm, R, base, hnd, hin, hb1, hb2, hcd2, hK⟩ := hb
          have hrun : (execOp (Act.eval ⟨tmps, ds⟩) o).run P w = (callv (Act.eval ⟨tmps, ds⟩ cx') (c.args.map (Act.eval ⟨tmps, ds⟩))).run P w := by
            simp only [execOp, ho, resolve, hg', callv]
          have hargs : RVL φ h (c.args.map (Act.eval ⟨tmps, ds⟩)).toList (xs'.map fun x => dva (lk s.ob) (s.get x)) := by
            have := hm.gets hgl (ds := ds) hxs
            rw [Array.toList_map]
            exact RVL_dva (own := cx.own) (fun i ob hi => hm.ob i ob hi) this
          have hout := hcd2 F hF n φ (hcal h nm) w _ _ (hm.loc (hm.glob hgl) hnd) (ren_hand (hm.get hgl (ds := ds) hx)) (RVL_ren hargs)
          rw [← hrun] at hout
          refine ⟨fun f _ => hF.fn f, ?_⟩
          rw [Oper.semAt_eq _ _ _ (by rw [ho]; intro c h; cases h)]
          have fin : ∀ e w', Post (handO s.ob (idx · nm) 0 nm) φ (hcal h nm) w R e w' → ∃ v, e = .returned v ∧ NextM cx ds K (Act.put ⟨tmps, ds⟩ o.dst v) w' := by
            rintro e w' ⟨v, r, ob', φ', h', rfl, hR, hrv, ha⟩
            obtain ⟨q6, q5⟩ := hm.back (base := base) (by omega) hb2 hnd hin ha
            refine ⟨v, rfl, by cases o.dst <;> rfl, _, φ', hbak h h' base, hK r ob' hR, ?_⟩
            cases hdst : o.dst with
            | none => exact q6
            | some t => exact (q6.setTmp (hd t hdst) (q5 v r hrv)).weaken (fun i d hi => by simp only [St.put, look_put] at hi; exact hi) (fun i o hi => hi)
          unfold DynOut at hout
          split at hout
          · rename_i f a w1 hrr
            rw [hrr, Oper.uponIn_enter]
            refine ⟨(fun h => by rw [hF.depth] at h; cases h), CallsIn.mono (hF.lessCall hout) ?_⟩
            intro e w' hp
            obtain ⟨v, rfl, hn⟩ := fin e w' hp
            exact hn
          · rename_i l f a asg body w1 hrr
            rw [hrr, Oper.uponIn_round]
            refine ⟨(fun h => by rw [hF.depth] at h; cases h), RoundIn.mono (hF.lessRound hout) ?_⟩
            intro e w' hp
            obtain ⟨v, rfl, hn⟩ := fin e w' hp
            exact hn
          · exact hout.elim
        · rw [if_neg (by rw [hw]; simp)]
          exact ⟨fun f _ => hF.fn f, by cases o.dst <;> rfl, _, φ, h, hk, hundef o.dst hd⟩
      · cases hc
    · exact other hc
  · exact other hc

end
end Go.Sx
