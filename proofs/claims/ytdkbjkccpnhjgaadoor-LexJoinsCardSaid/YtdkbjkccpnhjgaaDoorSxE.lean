/- Own work: a layer over the kit: plain data, a walk over it, its soundness. -/
import Derived.Test.YtdkbjkccpnhjgaaDoorSxD
set_option linter.unusedSectionVars false
set_option linter.unusedVariables false
set_option linter.unusedSimpArgs false
set_option linter.deprecated false
namespace Go.Sx
open Go.RowKit
variable [Globs] [Codes]

def constD : Value → D
  | .bool b => .bool b
  | .int k n => .int k n
  | .string s => .str s.data.toList
  | .slice none 0 0 => .nils
  | .pointer none => .nilp
  | .nilFunc => .nilf
  | .agg _ => .undef
  | .tuple _ => .undef
  | v => .raw v

theorem rv_const (φ : Mem) (h : Nat → Value) (v : Value) : RV φ h v (constD v) := by
  unfold constD
  split
  · exact .pure (.bool _)
  · exact .pure (.int _ _)
  · rename_i s
    have : s = ⟨s.data.toList.toArray⟩ := by cases s; simp
    rw [this]; exact .pure (.str _)
  · exact .pure .nils
  · exact .pure .nilp
  · exact .pure .nilf
  · exact .undef _
  · exact .undef _
  · rename_i ha ht
    refine .pure (.raw _ ?_)
    cases v <;> first | rfl | exact absurd rfl (ha _) | exact absurd rfl (ht _)

/-- The zero value of a type, cell by cell. -/
def zeroOf (P : Program) (t : TypeId) : Option (List D) :=
  match P.info? t with
  | some i => match i.zero with
    | some z => if z.cells.size = i.size then some (z.cells.toList.map constD) else none
    | none => none
  | none => none

theorem zeroOf_spec {P : Program} {t : TypeId} {ds : List D} (h : zeroOf P t = some ds) : ∃ i z, P.info? t = some i ∧ i.zero = some z ∧ z.cells.size = i.size ∧ ds = z.cells.toList.map constD := by
  unfold zeroOf at h
  split at h
  · rename_i i hi
    split at h
    · rename_i z hz
      split at h
      · rename_i hs
        exact ⟨i, z, hi, hz, hs, by simpa using h.symm⟩
      · cases h
    · cases h
  · cases h

theorem CR.const {φ : Mem} {h : Nat → Value} (cells : Array Value) : CR φ h cells (cells.toList.map constD) := by
  refine ⟨by simp, fun j d hd => ?_⟩
  rw [List.getElem?_map] at hd
  cases hc : cells.toList[j]? with
  | none => rw [hc] at hd; cases hd
  | some v =>
    rw [hc] at hd
    simp at hd hc
    subst hd
    have : cells.getD j Go.undef = v := by simp [Array.getD_eq_getD_getElem?, hc]
    rw [this]
    exact rv_const φ h v

section
variable {P : Program} {o : Oper} {ρ : Operand → Value} {w : World} {φ : Mem} {h : Nat → Value} {dst : Nat} {K : D → Option Ob → Prop} {obs : Nat → Option Ob}

theorem Sub.lt (hφ : Sub φ w) {b off : Nat} {v : Value} (h : φ b off = some v) : b < w.heap.size := World.block_lt_of_cell? _ _ (hφ b off v h)

theorem Sub.alloc (hφ : Sub φ w) (ob : Obj) : Sub φ (w.alloc ob) := fun b off v hb => by
  rw [World.cell?_alloc_lt _ _ _ (hφ.lt hb)]; exact hφ b off v hb

theorem AStep.cells (hφ : Sub φ w) (cells : Array Value) (e : TypeId) (cs : List D) (hc : CR φ (updH h dst (.pointer (some ⟨w.heap.size, 0, none⟩))) cells cs) :
    AStep φ h w dst (.ptr dst 0) (some (.cells cs)) (.pointer (some ⟨w.heap.size, 0, none⟩)) φ (.pointer (some ⟨w.heap.size, 0, none⟩)) (w.alloc (.cells cells e (0, 0))) where
  below := (Below.refl _ w).alloc (Nat.le_refl _) _
  mono := fun _ _ _ h => h
  mem := hφ.alloc _
  new := fun _ _ _ h h' => by rw [h] at h'; cases h'
  rv := .ptr dst 0 w.heap.size (upd_same _ _ _)
  ob := fun ob he => by
    cases he
    refine ⟨w.heap.size, cells, e, rfl, Nat.le_refl _, heap_alloc_new w _, hc.1, hc.2, fun off => ?_⟩
    cases hb : φ w.heap.size off with
    | none => rfl
    | some v => exact absurd (hφ.lt hb) (by omega)

theorem s_alloc {e : TypeId} {z : List D} (ho : o.op = .alloc e) (hz : zeroOf P e = some z) (hφ : Sub φ w) (hev : evl P dst (.alloc z) [] obs K) : OpOut P o ρ w (APost φ h w dst K) := by
  obtain ⟨i, zv, hi, hzv, hs, rfl⟩ := zeroOf_spec hz
  refine .inl ⟨.pointer (some ⟨w.heap.size, 0, none⟩), w.alloc (.cells zv.cells e (0, 0)), ?_, _, _, φ, _, hev, AStep.cells hφ zv.cells e _ (CR.const _)⟩
  simp [execOp, ho, Instr.alloc, zeroValue, typeInfo, hi, hzv, newVar, newRow]

theorem RV.men_upd {d : D} {v x : Value} (hm : D.men dst d = false) (r : RV φ h v d) : RV φ (updH h dst x) v d := r.upd dst x hm

theorem men_cells {i : Nat} {d : D} (hm : D.men i d = false) : D.menL i d.cells = false := by
  cases d <;> simp_all [D.cells, D.men, D.menL]

theorem CR.upd {cells : Array Value} {ds : List D} (x : Value) (hm : D.menL dst ds = false) (hc : CR φ h cells ds) : CR φ (updH h dst x) cells ds :=
  ⟨hc.1, fun j d hd => (hc.2 j d hd).upd dst x (menL_get hm j d hd)⟩

theorem s_box {e : TypeId} {x : Operand} (ho : o.op = .box e x) (hh : HOne h) (hφ : Sub φ w) {ds : List D} (hr : RVL φ h [ρ x] ds) (hm : ∀ d ob, K d (some ob) → D.menL dst ds = false) (hev : evl P dst .box ds obs K) :
    OpOut P o ρ w (APost φ h w dst K) := by
  match ds, hr, hm, hev with
  | [d], hr, hm, hev =>
    have hmd := hm _ _ hev.2
    simp only [D.menL, Bool.or_false] at hmd
    refine .inl ⟨.pointer (some ⟨w.heap.size, 0, none⟩), w.alloc (.cells (ρ x).cells e (0, 0)), ?_, _, _, φ, _, hev.2, AStep.cells hφ _ e _ ((hr.1.cells hh hev.1).upd _ (men_cells hmd))⟩
    simp [execOp, ho, Instr.box, newVar, newRow]

end
end Go.Sx
