/- Own work: a layer over the kit: plain data, a walk over it, its soundness. -/
import Derived.Test.YtdkbjkccpnhjgaaDoorSxJ
set_option linter.unusedSectionVars false
set_option linter.unusedVariables false
set_option linter.unusedSimpArgs false
set_option linter.deprecated false
namespace Go.Sx
open Go.RowKit
variable [Globs] [Codes]

theorem setAt_get : ∀ (ds : List D) (off : Nat) (cs : List D) (j : Nat) (d : D), (setAt cs off ds)[j]? = some d → (off ≤ j ∧ j < off + ds.length ∧ ds[j - off]? = some d) ∨ (¬ (off ≤ j ∧ j < off + ds.length) ∧ cs[j]? = some d)
  | [], off, cs, j, d, h => .inr ⟨by simp only [List.length_nil]; omega, h⟩
  | x :: ds, off, cs, j, d, h => by
    simp only [setAt] at h
    rcases setAt_get ds (off + 1) (cs.set off x) j d h with ⟨h1, h2, h3⟩ | ⟨h1, h2⟩
    · refine .inl ⟨by omega, by simp; omega, ?_⟩
      rw [show j - off = (j - (off + 1)) + 1 by omega]
      simpa using h3
    · rw [List.getElem?_set] at h2
      split at h2
      · rename_i hj
        subst hj
        split at h2
        · cases h2
          exact .inl ⟨Nat.le_refl _, by simp, by simp⟩
        · cases h2
      · exact .inr ⟨by simp only [List.length_cons]; omega, h2⟩

section
variable {cx : Cx} {s : St} {φ φ' : Mem} {h : Nat → Value} {tmps : Array Value} {w w' : World}

/-- A STORE INTO THE CELLS OF AN OBJECT. -/
theorem Mod.setRow (hm : Mod cx s φ h tmps w) {id b : Nat} {cs cs' : List D} {vals vals' : Array Value} {e : TypeId} (hl : lk s.ob id = some (.cells cs)) (hb : h id = .pointer (some ⟨b, 0, none⟩))
    (hw : w.heap[b]? = some (.cells vals e (0, 0))) (hc : CR φ h vals' cs') : Mod cx { s with ob := (id, .cells cs') :: s.ob } φ h tmps (w.setRow b vals') := by
  have hob := hm.ob id _ hl
  obtain ⟨b', vals0, e0, hb', hown, hh, hs, hrv, hnone⟩ := hob
  rw [hb] at hb'
  cases hb'
  have hother : ∀ k, k ≠ b → (w.setRow b vals').heap[k]? = w.heap[k]? := fun k hk => setRow_other w b k _ hk
  refine ⟨hm.size, hm.tm, ?_, hm.ext, hm.new, ?_, ?_, hm.os, hm.tape, hm.output, by simpa using hm.grow, hm.one, ?_, hm.hfix, ?_⟩
  · intro g o v hv
    have hg : g ≠ b := fun e => by rw [e, hnone] at hv; cases hv
    rw [World.cell?_of_block (w := w) (a := ⟨g, o, none⟩) (hother g hg)]
    exact hm.mem g o v hv
  · intro i o ho
    simp only [lk] at ho
    split at ho
    · rename_i hi
      cases ho
      subst hi
      exact ⟨b, vals', e, hb, hown, setRow_heap w b vals vals' e _ hw, hc.1, hc.2, hnone⟩
    · rename_i hi
      refine (hm.ob i o ho).keep (fun _ hb => hb) (fun k hk => hother k ?_) (fun _ _ _ h => h) (fun _ _ _ => rfl) (fun _ _ _ r => r)
      intro e'
      subst e'
      exact hi (hm.sep i id k (by simp [ho]) (by simp [hl]) hk (by rw [hb]; rfl))
  · intro i j k hi hj hbi hbj
    have hh : ∀ i, (lk ((id, Ob.cells cs') :: s.ob) i).isSome → (lk s.ob i).isSome := fun i hi => by
      simp only [lk] at hi
      split at hi
      · rename_i e'; rw [e', hl]; rfl
      · exact hi
    exact hm.sep i j k (hh i hi) (hh j hj) hbi hbj
  · intro k hk hz
    have : k ≠ b := fun e' => by
      subst e'
      rcases hown with h1 | h1
      · omega
      · exact hz h1
    rw [hother k this]
    exact hm.frame k hk hz
  · intro k o hk
    obtain ⟨h1, h2, h3⟩ := hm.kept k o hk
    have : k ≠ b := fun e' => h3 id (by simp [hl]) (by rw [hb, e']; rfl)
    refine ⟨by rw [hother k this]; exact h1, h2, fun i hi => h3 i ?_⟩
    simp only [lk] at hi
    split at hi
    · rename_i e'; rw [e', hl]; rfl
    · exact hi

theorem CR.setAt {vals : Array Value} {cs ds : List D} {vs : List Value} (off : Nat) (hc : CR φ h vals cs) (hv : RVL φ h vs ds) (hle : off + ds.length ≤ cs.length) :
    CR φ h (vals.toList.take off ++ vs ++ vals.toList.drop (off + vs.length)).toArray (setAt cs off ds) := by
  have hl := hv.length
  have hs := hc.1
  refine ⟨by simp [setAt_length]; omega, fun j d hd => ?_⟩
  have hgd : (vals.toList.take off ++ vs ++ vals.toList.drop (off + vs.length)).toArray.getD j Go.undef = (vals.toList.take off ++ (vs ++ vals.toList.drop (off + vs.length))).getD j Go.undef := by
    simp [Array.getD_eq_getD_getElem?, List.getD]
  rw [hgd]
  rcases setAt_get ds off cs j d hd with ⟨h1, h2, h3⟩ | ⟨h1, h2⟩
  · have := hv.get (j - off) d h3
    have e1 : (vals.toList.take off ++ (vs ++ vals.toList.drop (off + vs.length))).getD j Go.undef = vs.getD (j - off) Go.undef := by
      simp only [List.getD]
      rw [List.getElem?_append_right (by simp; omega), List.getElem?_append_left (by simp; omega)]
      congr 2
      simp; omega
    rw [e1]; exact this
  · have := hc.2 j d h2
    have hj : j < cs.length := (List.getElem?_eq_some_iff.1 h2).1
    have e1 : (vals.toList.take off ++ (vs ++ vals.toList.drop (off + vs.length))).getD j Go.undef = vals.getD j Go.undef := by
      simp only [List.getD, Array.getD_eq_getD_getElem?]
      by_cases hlt : j < off
      · rw [List.getElem?_append_left (by simp; omega), List.getElem?_take, if_pos hlt]; simp
      · rw [List.getElem?_append_right (by simp; omega), List.getElem?_append_right (by simp; omega), List.getElem?_drop]
        simp only [List.length_take, Array.length_toList, Array.getElem?_toList]
        congr 2
        omega
    rw [e1]; exact this

theorem exec_store {P : Program} {o : Oper} {ρ : Operand → Value} {t : TypeId} {x y : Operand} {b off sz : Nat} {vals : Array Value} {e : TypeId} (ho : o.op = .store t x y) (hs : szT P t = some sz) (hx : ρ x = .pointer (some ⟨b, off, none⟩))
    (hw : w.heap[b]? = some (.cells vals e (0, 0))) (hsz : (ρ y).cells.size = sz) (hle : off + sz ≤ vals.size) (h1 : ∀ v ∈ (ρ y).cells.toList, v.oneCell' = true) :
    (execOp ρ o).run P w = .ok .skip (w.setRow b (vals.toList.take off ++ (ρ y).cells.toList ++ vals.toList.drop (off + (ρ y).cells.toList.length)).toArray) := by
  have hst := run_storeCells_at P b off e (ρ y).cells.toList 0 vals w hw (by simp; omega) h1
  simp only [Nat.add_zero] at hst
  simp only [execOp, ho, hx, Instr.storeAt, Instr.sureAddr, storeVar, Sem.run_bind, Sem.run_pure, Result.andThen_ok, run_sizeOf hs, hsz, ne_eq, not_true_eq_false, if_false, hst]

/-- An aggregate's parts are one cell each. -/
def D.flat : D → Bool
  | .agg cs => cs.all D.one
  | d => D.one d

theorem cells_flat {v : Value} {d : D} (hh : HOne h) (r : RV φ h v d) (hf : D.flat d = true) : ∀ u ∈ v.cells.toList, u.oneCell' = true := by
  by_cases ha : ∃ cs, d = .agg cs
  · obtain ⟨cs, rfl⟩ := ha
    obtain ⟨vs, rfl, hs, hc⟩ := r.agg_inv
    intro u hu
    obtain ⟨j, hj⟩ := List.mem_iff_getElem?.1 hu
    have hlt : j < cs.length := by
      have := (List.getElem?_eq_some_iff.1 hj).1
      rw [← hs]; simpa [Value.cells] using this
    have hcj := hc j _ (List.getElem?_eq_getElem hlt)
    have : vs.getD j Go.undef = u := by
      simp only [Value.cells, Array.getElem?_toList] at hj
      simp [Array.getD_eq_getD_getElem?, hj]
    rw [this] at hcj
    exact hcj.one hh (List.all_eq_true.1 hf _ (List.getElem_mem hlt))
  · have h1 : D.one d = true := by
      cases d <;> first | exact hf | exact absurd ⟨_, rfl⟩ ha
    have h2 := r.one hh h1
    rw [cells_one h2]
    intro u hu
    simp at hu
    subst hu
    exact h2

theorem flat_okc {d : D} (hf : D.flat d = true) : D.okc d = true := by
  cases d <;> first | exact hf | rfl

/-- The store, from the state's side. -/
theorem store_sound {P : Program} {o : Oper} {ρ : Operand → Value} {t : TypeId} {x y : Operand} {sz id off : Nat} {cs : List D} {d : D} (ho : o.op = .store t x y) (hs : szT P t = some sz) (hm : Mod cx s φ h tmps w)
    (hx : RV φ h (ρ x) (.ptr id off)) (hy : RV φ h (ρ y) d) (hl : lk s.ob id = some (.cells cs)) (hf : D.flat d = true) (hd : d.cells.length = sz) (hle : off + sz ≤ cs.length) :
    ∃ w', (execOp ρ o).run P w = .ok .skip w' ∧ Mod cx { s with ob := (id, .cells (Sx.setAt cs off d.cells)) :: s.ob } φ h tmps w' := by
  obtain ⟨b, hb, hxv⟩ := hx.ptr_inv
  have hob := hm.ob id _ hl
  obtain ⟨b', vals, e, hb', hown, hh, hsz, hrv, hnone⟩ := hob
  rw [hb] at hb'
  cases hb'
  have hcr := hy.cells hm.one (flat_okc hf)
  have hlen : (ρ y).cells.size = sz := by rw [hcr.1, hd]
  refine ⟨_, exec_store ho hs hxv hh hlen (by omega) (cells_flat hm.one hy hf), hm.setRow hl hb hh ?_⟩
  refine CR.setAt off ⟨hsz, hrv⟩ (RVL_of_get _ _ (by simpa using hcr.1) fun j d' hd' => ?_) (by omega)
  have := hcr.2 j d' hd'
  simpa [Array.getD_eq_getD_getElem?, List.getD] using this

end
end Go.Sx
