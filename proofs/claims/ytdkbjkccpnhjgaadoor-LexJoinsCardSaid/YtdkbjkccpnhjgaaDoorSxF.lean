/- Own work: a layer over the kit: plain data, a walk over it, its soundness. -/
import Derived.Test.YtdkbjkccpnhjgaaDoorSxE
set_option linter.unusedSectionVars false
set_option linter.unusedVariables false
set_option linter.unusedSimpArgs false
set_option linter.deprecated false
namespace Go.Sx
open Go.RowKit
variable [Globs] [Codes]

def aggB (P : Program) (t : TypeId) : Option Bool :=
  match P.underlying t with
  | some (.struct _) => some true
  | some (.array _ _) => some true
  | some _ => some false
  | none => none
def szT (P : Program) (t : TypeId) : Option Nat := (P.info? t).map (·.size)

section
variable {P : Program} {o : Oper} {ρ : Operand → Value} {w : World} {φ : Mem} {h : Nat → Value} {dst : Nat} {K : D → Option Ob → Prop} {obs : Nat → Option Ob} {own : Nat → Prop}

theorem run_isAgg {t : TypeId} {b : Bool} (ha : aggB P t = some b) : (isAgg t).run P w = .ok b w := by
  cases hu : P.underlying t with
  | none => simp [aggB, hu] at ha
  | some d =>
    unfold isAgg
    rw [Sem.run_bind, run_underlying hu]
    cases d <;> simp_all [aggB]

theorem run_sizeOf {t : TypeId} {n : Nat} (hs : szT P t = some n) : (sizeOf t).run P w = .ok n w := by
  unfold szT at hs
  cases hi : P.info? t with
  | none => rw [hi] at hs; cases hs
  | some i => rw [hi] at hs; simp at hs; simp [sizeOf, typeInfo, hi, hs]

theorem run_loadVar_agg {t : TypeId} {n b off : Nat} (ha : aggB P t = some true) (hs : szT P t = some n) (cs : List Value) (hl : cs.length = n)
    (hc : ∀ j v, cs[j]? = some v → w.cell? ⟨b, off + j, none⟩ = some v) : (loadVar t ⟨b, off, none⟩).run P w = .ok (.agg cs.toArray) w := by
  subst hl
  have := run_loadCells_list (P := P) w ⟨b, off, none⟩ cs (fun j v hv => by rw [Addr.add_lit]; exact hc j v hv)
  simp [loadVar, run_isAgg ha, run_sizeOf hs, this]

theorem run_loadVar_one {t : TypeId} {b off : Nat} {v : Value} (ha : aggB P t = some false) (hc : w.cell? ⟨b, off, none⟩ = some v) : (loadVar t ⟨b, off, none⟩).run P w = .ok v w := by
  simp [loadVar, run_isAgg ha, hc]

/-- The values of a list of cells. -/
theorem exec_load_agg {t : TypeId} {x : Operand} {n b off : Nat} (ho : o.op = .load t x) (hx : ρ x = .pointer (some ⟨b, off, none⟩)) (ha : aggB P t = some true) (hs : szT P t = some n)
    (f : Nat → Value) (hc : ∀ j, j < n → w.cell? ⟨b, off + j, none⟩ = some (f j)) : (execOp ρ o).run P w = .ok (.value (.agg ((List.range n).map f).toArray)) w := by
  have := run_loadVar_agg (P := P) (w := w) (b := b) (off := off) ha hs ((List.range n).map f) (by simp) (fun j v hv => by
    rw [List.getElem?_map] at hv
    by_cases hj : j < n
    · simp [hj] at hv; subst hv; exact hc j hj
    · simp [List.getElem?_eq_none (show (List.range n).length ≤ j by simp; omega)] at hv)
  simp [execOp, ho, hx, Instr.loadAt, Instr.sureAddr, this]

theorem exec_load_one {t : TypeId} {x : Operand} {b off : Nat} {v : Value} (ho : o.op = .load t x) (hx : ρ x = .pointer (some ⟨b, off, none⟩)) (ha : aggB P t = some false)
    (hc : w.cell? ⟨b, off, none⟩ = some v) : (execOp ρ o).run P w = .ok (.value v) w := by
  simp [execOp, ho, hx, Instr.loadAt, Instr.sureAddr, run_loadVar_one (P := P) ha hc]

theorem rv_agg {n : Nat} {f : Nat → Value} {cs : List D} (hl : cs.length = n) (hr : ∀ j d, cs[j]? = some d → RV φ h (f j) d) : RV φ h (.agg ((List.range n).map f).toArray) (.agg cs) := by
  refine .agg _ _ (by simp [hl]) (fun j d hd => ?_)
  have hj : j < n := by
    have := (List.getElem?_eq_some_iff.1 hd).1; omega
  have : (((List.range n).map f).toArray).getD j Go.undef = f j := by simp [Array.getD_eq_getD_getElem?, hj]
  rw [this]
  exact hr j d hd

theorem ob_rep {hv : Value} {sz : Nat} {e : TypeId} {es : List (List D)} (hob : ObR own φ h w hv (.arr true sz e es)) : Rep φ hv (.slice es []) := by
  obtain ⟨hsz, hlen, xs, hown, hrep, hblk⟩ := hob
  rcases hown.2 with ⟨rfl, h0⟩ | ⟨g, cap, cur, rfl, hg, hh, hcap, hmax, hcs, htake⟩
  · have : es = [] := List.eq_nil_of_length_eq_zero h0
    subst this
    exact .nil
  · have hb := (hblk g rfl).2
    refine .slice g 0 cap sz es [] (fun i j => xs.getD (i * sz + j) Go.undef) (by simpa using hcap) (by simpa using hlen) ?_ ?_
    · intro i x j d hi hj
      simp only [List.append_nil] at hi
      have h1 : i < es.length := (List.getElem?_eq_some_iff.1 hi).1
      have hxl : x.length = sz := hlen x (List.mem_of_getElem? hi)
      have h2 : j < sz := by have := (List.getElem?_eq_some_iff.1 hj).1; omega
      have h3 : i * sz + j < es.length * sz := by
        have : (i + 1) * sz ≤ es.length * sz := Nat.mul_le_mul_right _ h1
        rw [Nat.add_mul, Nat.one_mul] at this; omega
      have := hb (i * sz + j)
      rw [if_pos ⟨rfl, h3⟩] at this
      have hxs : i * sz + j < xs.length := by rw [hown.1]; exact h3
      rw [Nat.zero_add, this]
      simp [List.getD, hxs]
    · intro i x j d hi hj
      simp only [List.append_nil] at hi
      exact hrep i x j d hi hj

theorem dv_sound (hobs : ∀ i ob, obs i = some ob → live (h i) = true → ObR own φ h w (h i) ob) {v : Value} {d : D} (r : RV φ h v d) : RV φ h v (dv obs d) := by
  unfold dv
  split
  · rename_i id
    split
    · rename_i sz e es hob
      have hl := r.vec_live
      rw [r.vec_inv]
      exact .pure (ob_rep (hobs id _ hob hl))
    · exact .undef v
  · rw [r.nils_inv]; exact .pure .nil
  · exact r

theorem s_load {t : TypeId} {x : Operand} {agg : Bool} {sz : Nat} (ho : o.op = .load t x) (ha : aggB P t = some agg) (hs : szT P t = some sz) (hφ : Sub φ w)
    (hobs : ∀ i ob, obs i = some ob → live (h i) = true → ObR own φ h w (h i) ob) {ds : List D} (hr : RVL φ h [ρ x] ds) (hev : evl P dst (.load agg sz) ds obs K) : OpOut P o ρ w (APost φ h w dst K) := by
  match ds, hr, hev with
  | [.ptr id off], hr, hev =>
    obtain ⟨b, hh, hx⟩ := hr.1.ptr_inv
    simp only [evl] at hev
    split at hev
    · rename_i cs hob
      obtain ⟨b', vals, e, hb', _, hheap, hsize, hrv, _⟩ := hobs id _ hob (by rw [hh]; rfl)
      rw [hh] at hb'
      cases hb'
      have hcell : ∀ j, j < cs.length → w.cell? ⟨b, j, none⟩ = some (vals.getD j Go.undef) := fun j hj => by
        rw [cell_of_row w b j vals e _ hheap]
        simp [Array.getD_eq_getD_getElem?, hsize, hj]
      cases agg with
      | true =>
        obtain ⟨hle, hk⟩ := hev
        refine OpOut.same hφ (exec_load_agg ho hx ha hs (fun j => vals.getD (off + j) Go.undef) (fun j hj => hcell _ (by omega))) hk (rv_agg (by simp; omega) ?_)
        intro j d hd
        rw [List.getElem?_map] at hd
        cases hq : ((cs.drop off).take sz)[j]? with
        | none => rw [hq] at hd; cases hd
        | some d' =>
          rw [hq] at hd; simp at hd; subst hd
          rw [List.getElem?_take] at hq
          split at hq
          · rw [List.getElem?_drop] at hq
            exact dv_sound hobs (hrv _ _ hq)
          · cases hq
      | false =>
        simp only [Bool.false_eq_true, if_false] at hev
        split at hev
        · rename_i d hd
          have hlt := (List.getElem?_eq_some_iff.1 hd).1
          exact OpOut.same hφ (exec_load_one ho hx ha (hcell off hlt)) hev (hrv _ _ hd)
        · exact hev.elim
    · exact hev.elim
  | [.fptr cs], hr, hev =>
    obtain ⟨b, off, vals, hx, hm, hrep⟩ := hr.1.fptr_inv
    have hcell : ∀ j, j < cs.length → w.cell? ⟨b, off + j, none⟩ = some (vals j) := fun j hj => hφ _ _ _ (hm j _ (List.getElem?_eq_getElem hj))
    simp only [evl] at hev
    cases agg with
    | true =>
      obtain ⟨hle, hk⟩ := hev
      refine OpOut.same hφ (exec_load_agg ho hx ha hs vals (fun j hj => hcell _ (by omega))) hk (rv_agg (by simp; omega) ?_)
      intro j d hd
      rw [List.getElem?_take] at hd
      split at hd
      · exact .pure (hrep _ _ hd)
      · cases hd
    | false =>
      simp only [Bool.false_eq_true, if_false] at hev
      split at hev
      · rename_i d _
        exact OpOut.same hφ (exec_load_one ho hx ha (by simpa using hcell 0 (by simp))) hev (.pure (hrep 0 d rfl))
      · exact hev.elim

end
end Go.Sx
