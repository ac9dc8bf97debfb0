/- Own work: a layer over the kit: plain data, a walk over it, its soundness. -/
import Derived.Test.YtdkbjkccpnhjgaaDoorSxG
set_option linter.unusedSectionVars false
set_option linter.unusedVariables false
set_option linter.unusedSimpArgs false
set_option linter.deprecated false
namespace Go.Sx
open Go.RowKit
variable [Globs] [Codes]

theorem setAt_length : ∀ (ds : List D) (off : Nat) (cs : List D), (setAt cs off ds).length = cs.length
  | [], _, _ => rfl
  | d :: ds, off, cs => by rw [setAt, setAt_length ds]; simp

section
variable {P : Program} {o : Oper} {ρ : Operand → Value} {w : World} {φ : Mem} {h : Nat → Value} {dst : Nat} {K : D → Option Ob → Prop} {obs : Nat → Option Ob} {own : Nat → Prop}

theorem fill_sound (hh : HOne h) (hobs : ∀ i ob, obs i = some ob → live (h i) = true → ObR own φ h w (h i) ob) (place : Nat → Option (Nat × Nat)) :
    ∀ (is : List Nat) (vs : List Value) (ds : List D) (ps : List (Nat × Nat)) (cells : Array Value) (cs out : List D), is.mapM place = some ps → RVL φ h vs ds → is.length = vs.length → CR φ h cells cs →
      buildD obs cs ps ds = some out → ∃ cells', Instr.fill place cells (is.zip vs) = some cells' ∧ CR φ h cells' out
  | [], [], [], ps, cells, cs, out, hp, _, _, hc, hb => by
    simp at hp; subst hp
    simp [buildD] at hb; subst hb
    exact ⟨cells, rfl, hc⟩
  | i :: is, v :: vs, d :: ds, ps, cells, cs, out, hp, hr, hl, hc, hb => by
    simp only [List.mapM_cons, Option.bind_eq_bind, Option.bind_eq_some_iff, Option.pure_def, Option.some.injEq] at hp
    obtain ⟨⟨off, sz⟩, h1, ps', h2, rfl⟩ := hp
    simp only [buildD] at hb
    split at hb
    · rename_i hcond
      obtain ⟨hok, hlen, hle⟩ := hcond
      have hrv := dv_sound hobs hr.1
      have hcr := hrv.cells hh hok
      have hfold := CR.foldl off v.cells.toList 0 (dv obs d).cells cells cs hc (RVL_of_get _ _ (by simpa using hcr.1) (fun j d' hd => by
        have := hcr.2 j d' hd
        simpa [Array.getD_eq_getD_getElem?, List.getD] using this))
      obtain ⟨cells', hf, hcr'⟩ := fill_sound hh hobs place is vs ds ps' _ _ out h2 hr.2 (by simpa using hl) hfold (by simpa using hb)
      refine ⟨cells', ?_, hcr'⟩
      have hsz : v.cells.size = sz := by rw [hcr.1, hlen]
      have hbig : ¬ (off + v.cells.size > cells.size) := by rw [hcr.1, hc.1, hlen]; omega
      simp only [List.zip_cons_cons, Instr.fill, h1]
      rw [if_neg (by simp [hsz]; rw [hc.1]; omega)]
      rw [← Array.foldl_toList, Array.toList_zipIdx]
      simpa using hf
    · cases hb
  | [], _ :: _, _, _, _, _, _, _, _, hl, _, _ => by simp at hl
  | _ :: _, [], _, _, _, _, _, _, _, hl, _, _ => by simp at hl
  | [], [], _ :: _, _, _, _, _, _, hr, _, _, _ => hr.elim
  | _ :: _, _ :: _, [], _, _, _, _, _, hr, _, _, _ => hr.elim

def unnil : D → D
  | .nils => .slice [] []
  | d => d

theorem CR.unnil {cells : Array Value} {ds : List D} (hc : CR φ h cells ds) : CR φ h cells (ds.map unnil) := by
  refine ⟨by simp [hc.1], fun j d hd => ?_⟩
  rw [List.getElem?_map] at hd
  cases hq : ds[j]? with
  | none => rw [hq] at hd; cases hd
  | some d' =>
    rw [hq] at hd; simp at hd; subst hd
    have := hc.2 j d' hq
    cases d' <;> first | exact this | (rw [this.nils_inv]; exact .pure .nil)

/-- The places of the parts of a struct or an array. -/
def placesOf (P : Program) (t : TypeId) (is : List Nat) : Option (List (Nat × Nat)) :=
  match P.underlying t with
  | some (.struct fs) => match fs.toList.mapM (fun f => (P.info? f.type).map fun i => (f.offset, i.size)) with
    | some places => is.mapM (places.toArray[·]?)
    | none => none
  | some (.array _ e) => match P.info? e with
    | some ie => is.mapM (fun i => some (i * ie.size, ie.size))
    | none => none
  | _ => none

theorem s_build {t : TypeId} {parts : Array (Nat × Operand)} {z : List D} {ps : List (Nat × Nat)} (ho : o.op = .build t parts) (hz : zeroOf P t = some z) (hp : placesOf P t (parts.toList.map (·.1)) = some ps)
    (hh : HOne h) (hφ : Sub φ w) (hobs : ∀ i ob, obs i = some ob → live (h i) = true → ObR own φ h w (h i) ob) {ds : List D} (hr : RVL φ h (parts.toList.map fun x => ρ x.2) ds)
    (hev : evl P dst (.build (z.map unnil) ps) ds obs K) : OpOut P o ρ w (APost φ h w dst K) := by
  simp only [evl] at hev
  split at hev
  · rename_i cs hb
    obtain ⟨i, zv, hi, hzv, hs, rfl⟩ := zeroOf_spec hz
    have hc : CR φ h zv.cells ((zv.cells.toList.map constD).map Sx.unnil) := (CR.const _).unnil
    have hlen : (parts.toList.map (·.1)).length = (parts.toList.map fun x => ρ x.2).length := by simp
    have hzip : (parts.toList.map (·.1)).zip (parts.toList.map fun x => ρ x.2) = parts.toList.map fun x => (x.1, ρ x.2) := by
      rw [List.zip_map']
    have key : ∃ cells, P.built t (parts.map fun (i, x) => (i, ρ x)).toList = some cells ∧ CR φ h cells cs := by
      have e : (parts.map fun (i, x) => (i, ρ x)).toList = parts.toList.map fun x => (x.1, ρ x.2) := by simp
      unfold placesOf at hp
      unfold Program.built
      rw [e, ← hzip]
      split at hp
      · rename_i fs hu
        split at hp
        · rename_i places hpl
          obtain ⟨cells, hf, hcr⟩ := fill_sound hh hobs _ _ _ _ ps zv.cells _ cs hp hr hlen hc hb
          exact ⟨cells, by simp only [hi, hu, hzv, hpl]; exact hf, hcr⟩
        · cases hp
      · rename_i n e' hu
        split at hp
        · rename_i ie hie
          obtain ⟨cells, hf, hcr⟩ := fill_sound hh hobs _ _ _ _ ps zv.cells _ cs hp hr hlen hc hb
          exact ⟨cells, by simp only [hi, hu, hzv, hie]; exact hf, hcr⟩
        · cases hp
      · cases hp
    obtain ⟨cells, hbu, hcr⟩ := key
    refine OpOut.same hφ (v := .agg cells) ?_ hev (.agg _ _ hcr.1 hcr.2)
    simp [execOp, ho, run_build w t _ cells hbu]
  · exact hev.elim

def rowMem (φ : Mem) (g : Nat) (xs : List Value) : Mem := fun b o => if b = g then xs[o]? else φ b o

theorem AStep.arr (hφ : Sub φ w) {w' : World} (hb : Below w.heap.size w w') {fz : Bool} {sz : Nat} {e : TypeId} {es : List (List D)} {g cap : Nat} {xs : List Value} (hg : w.heap.size ≤ g) (hsz : 0 < sz)
    (hlen : ∀ x ∈ es, x.length = sz) (hown : w'.ownsRow 0 e sz (.slice (some ⟨g, 0, none⟩) es.length cap) es.length xs)
    (hrep : ∀ i x j d, es[i]? = some x → x[j]? = some d → Rep φ (xs.getD (i * sz + j) Go.undef) d) :
    AStep φ h w dst (.vec dst) (some (.arr fz sz e es)) (.slice (some ⟨g, 0, none⟩) es.length cap) (if fz then rowMem φ g xs else φ) (.slice (some ⟨g, 0, none⟩) es.length cap) w' := by
  have hnone : ∀ off, φ g off = none := fun off => by
    cases hq : φ g off with
    | none => rfl
    | some v => exact absurd (hφ.lt hq) (by omega)
  have hsub : Sub φ w' := fun b off v hv => by rw [hb.cell (p := ⟨b, off, none⟩) (hφ.lt hv)]; exact hφ b off v hv
  have hmono : ∀ b off u, φ b off = some u → (if fz then rowMem φ g xs else φ) b off = some u := fun b off u hu => by
    cases fz
    · exact hu
    · have : b ≠ g := fun e => by rw [e, hnone] at hu; cases hu
      simp [rowMem, this, hu]
  refine ⟨hb, hmono, ?_, ?_, ?_, ?_⟩
  · intro b off u hu
    cases fz
    · exact hsub b off u hu
    · by_cases hbg : b = g
      · subst hbg
        simp only [if_true, rowMem] at hu
        have := hown.cells (g := b) rfl off u hu
        rwa [Addr.add_lit, Nat.zero_add] at this
      · simp only [if_true, rowMem, if_neg hbg] at hu
        exact hsub b off u hu
  · intro b off u hu hn
    cases fz
    · simp only [Bool.false_eq_true, if_false] at hu; rw [hu] at hn; cases hn
    · by_cases hbg : b = g
      · omega
      · simp only [if_true, rowMem, if_neg hbg] at hu
        rw [hu] at hn; cases hn
  · have : updH h dst (.slice (some ⟨g, 0, none⟩) es.length cap) dst = .slice (some ⟨g, 0, none⟩) es.length cap := upd_same _ _ _
    have r := RV.vec (φ := if fz then rowMem φ g xs else φ) (h := updH h dst (.slice (some ⟨g, 0, none⟩) es.length cap)) dst (by rw [this]; rfl)
    rw [this] at r
    exact r
  · intro ob he
    cases he
    refine ⟨hsz, hlen, xs, hown, fun i x j d hi hj => (hrep i x j d hi hj).mono hmono, fun b hbk => ?_⟩
    cases hbk
    refine ⟨hg, fun off => ?_⟩
    cases fz
    · simp [hnone]
    · simp only [if_true, rowMem, true_and]
      split
      · rfl
      · rename_i hlt
        exact List.getElem?_eq_none (by rw [hown.1]; omega)

theorem chunk_length (sz : Nat) : ∀ (n : Nat) (cs : List D), (chunk sz n cs).length = n
  | 0, _ => rfl
  | n + 1, cs => by simp [chunk, chunk_length sz n]

theorem chunk_get (sz : Nat) : ∀ (n : Nat) (cs : List D) (i : Nat) (x : List D), (chunk sz n cs)[i]? = some x → x = (cs.drop (i * sz)).take sz
  | 0, _, i, x, hx => by simp [chunk] at hx
  | n + 1, cs, 0, x, hx => by simp [chunk] at hx; simp [hx]
  | n + 1, cs, i + 1, x, hx => by
    have := chunk_get sz n (cs.drop sz) i x (by simpa [chunk] using hx)
    rw [this, List.drop_drop, Nat.add_mul, Nat.one_mul, Nat.add_comm]

theorem buildD_length : ∀ (ps : List (Nat × Nat)) (ds cs out : List D), buildD obs cs ps ds = some out → out.length = cs.length
  | [], [], cs, out, hb => by simp [buildD] at hb; rw [hb]
  | (off, sz) :: ps, d :: ds, cs, out, hb => by
    simp only [buildD] at hb
    split at hb
    · rw [buildD_length ps ds _ _ hb, setAt_length]
    · cases hb
  | [], _ :: _, _, _, hb => by simp [buildD] at hb
  | _ :: _, [], _, _, hb => by simp [buildD] at hb

theorem s_bslice {t e : TypeId} {n sz : Nat} {fz : Bool} {parts : Array (Nat × Operand)} {z : List D} (ho : o.op = .buildSlice t n parts) (hu : P.underlying t = some (.slice e)) (hz : zeroOf P e = some z) (hs : szT P e = some sz)
    (hsz : 0 < sz) (hn : n * sz ≤ 16777216) (hh : HOne h) (hφ : Sub φ w) (hobs : ∀ i ob, obs i = some ob → live (h i) = true → ObR own φ h w (h i) ob) {ds : List D} (hr : RVL φ h (parts.toList.map fun x => ρ x.2) ds)
    (hev : evl P dst (.bslice fz sz n e ((List.replicate n (z.map unnil)).flatten) (parts.toList.map fun x => (x.1 * sz, sz))) ds obs K) : OpOut P o ρ w (APost φ h w dst K) := by
  simp only [evl] at hev
  split at hev
  · rename_i cs hb
    obtain ⟨hpur, hk⟩ := hev
    obtain ⟨i, zv, hi, hzv, hss, rfl⟩ := zeroOf_spec hz
    have hi' : i.size = sz := by simpa [szT, hi] using hs
    have hzl : zv.cells.size = sz := by rw [hss, hi']
    have hc0 : CR φ h ((Array.range (n * sz)).map fun q => zv.cells[q % zv.cells.size]!) (List.replicate n ((zv.cells.toList.map constD).map Sx.unnil)).flatten := by
      have hc : CR φ h zv.cells ((zv.cells.toList.map constD).map Sx.unnil) := (CR.const _).unnil
      generalize (zv.cells.toList.map constD).map Sx.unnil = zs at hc
      have hl : zs.length = sz := by rw [← hc.1, hzl]
      refine ⟨by simp [hl], fun j d hd => ?_⟩
      have hj : j < n * sz := by
        have := (List.getElem?_eq_some_iff.1 hd).1
        simpa [hl] using this
      have hget : ∀ (n j : Nat), j < n * sz → (List.replicate n zs).flatten[j]? = zs[j % sz]? := by
        intro n
        induction n with
        | zero => intro j hj; simp at hj
        | succ n ih =>
          intro j hj
          rw [List.replicate_succ, List.flatten_cons]
          by_cases hlt : j < sz
          · rw [List.getElem?_append_left (by omega), Nat.mod_eq_of_lt hlt]
          · rw [List.getElem?_append_right (by omega), hl, ih (j - sz) (by have : (n + 1) * sz = n * sz + sz := Nat.succ_mul n sz; omega)]
            congr 1
            exact (Nat.mod_eq_sub_mod (by omega)).symm
      rw [hget n j hj] at hd
      have hm : j % sz < zv.cells.size := by rw [hzl]; exact Nat.mod_lt _ hsz
      have e1 : ((Array.range (n * sz)).map fun q => zv.cells[q % zv.cells.size]!).getD j Go.undef = zv.cells.getD (j % sz) Go.undef := by
        simp only [Array.getD_eq_getD_getElem?, Array.getElem?_map, Array.getElem?_range, hj, if_true, Option.map_some, Option.getD_some]
        rw [hzl]
        simp [hm]
      rw [e1]
      exact hc.2 _ d hd
    have hplace : (parts.toList.map (·.1)).mapM (fun q => some (q * sz, sz)) = some (parts.toList.map fun x => (x.1 * sz, sz)) := by
      induction parts.toList with
      | nil => rfl
      | cons p ps ih => simp [List.mapM_cons, ih]
    obtain ⟨cells, hf, hcr⟩ := fill_sound hh hobs (fun q => some (q * sz, sz)) _ _ _ _ _ _ cs hplace hr (by simp) hc0 hb
    have hzip : (parts.toList.map (·.1)).zip (parts.toList.map fun x => ρ x.2) = parts.toList.map fun x => (x.1, ρ x.2) := by rw [List.zip_map']
    rw [hzip] at hf
    have hcl : cells.size = n * sz := by
      rw [hcr.1, buildD_length _ _ _ _ hb, ← hc0.1]; simp
    have hn2 : n ≤ n * sz := Nat.le_mul_of_pos_right _ hsz
    refine .inl ⟨.slice (some ⟨w.heap.size, 0, none⟩) n n, w.alloc (.cells cells e (0, 0)), ?_, _, _, if fz then rowMem φ w.heap.size cells.toList else φ, .slice (some ⟨w.heap.size, 0, none⟩) n n, hk, ?_⟩
    · have e2 : (parts.map fun (i, x) => (i, ρ x)).toList = parts.toList.map fun x => (x.1, ρ x.2) := by simp
      have hgt : ¬ (n * sz > 2 ^ 24) := by omega
      simp only [execOp, ho, Instr.buildSlice, Sem.run_bind, run_underlying hu, Result.andThen_ok, run_sizeOf hs, Sem.run_ite, hgt, if_false, Sem.run_pure, e2]
      by_cases h0 : n * sz = 0
      · have : sz = 0 ∨ n = 0 := by rcases Nat.mul_eq_zero.1 h0 with h | h <;> simp [h]
        have hn0 : n = 0 := by omega
        subst hn0
        have hcs : cells = #[] := Array.eq_empty_of_size_eq_zero (by simpa using hcl)
        have hr0 : Array.range (0 * sz) = #[] := by rw [Nat.zero_mul]; rfl
        rw [hr0, hcs] at hf
        simp only [List.map_toArray, List.map_nil] at hf
        have hr1 : ∀ g : Nat → Value, Array.map g (Array.range 0) = #[] := fun g => by rw [show Array.range 0 = #[] from rfl]; simp
        simp [Nat.zero_mul, hr1, hf, hcs, newRow]
      · simp [h0, zeroValue, typeInfo, hi, hzv, hf, newRow]
    · have := AStep.arr (h := h) (dst := dst) hφ (w' := w.alloc (.cells cells e (0, 0))) ((Below.refl _ w).alloc (Nat.le_refl _) _) (fz := fz) (sz := sz) (e := e) (es := chunk sz n cs) (g := w.heap.size) (cap := n) (xs := cells.toList)
        (Nat.le_refl _) hsz ?_ ?_ ?_
      · rw [chunk_length] at this; exact this
      · intro x hx
        obtain ⟨q, hq⟩ := List.mem_iff_getElem?.1 hx
        have hlt := (List.getElem?_eq_some_iff.1 hq).1
        rw [chunk_length] at hlt
        rw [chunk_get sz n cs q x hq, List.length_take, List.length_drop, ← hcr.1, hcl]
        have : (q + 1) * sz ≤ n * sz := Nat.mul_le_mul_right _ hlt
        rw [Nat.add_mul] at this
        omega
      · rw [chunk_length]
        refine ⟨by simp [hcl], .inr ⟨w.heap.size, n, cells, rfl, Nat.zero_le _, heap_alloc_new w _, Nat.le_refl _, by unfold maxLen; omega, hcl, ?_⟩⟩
        rw [List.take_of_length_le (by simp [hcl])]
      · intro q x j d hq hj
        rw [chunk_get sz n cs q x hq] at hj
        rw [List.getElem?_take] at hj
        split at hj
        · rw [List.getElem?_drop] at hj
          have hd : D.pur d = true := List.all_eq_true.1 hpur d (List.mem_of_getElem? hj)
          have := hcr.2 _ _ hj
          have e3 : cells.toList.getD (q * sz + j) Go.undef = cells.getD (q * sz + j) Go.undef := by simp [List.getD, Array.getD_eq_getD_getElem?]
          rw [e3]
          exact this.pur_rep hd
        · cases hj
  · exact hev.elim

end
end Go.Sx
