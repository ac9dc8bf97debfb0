/- Own work: a layer over the kit: plain data, a walk over it, its soundness. -/
import Derived.Test.YtdkbjkccpnhjgaaDoorSxLib
import Derived.Deep.Slices
import Derived.ChangeArms
set_option linter.unusedSectionVars false
set_option linter.unusedVariables false
set_option linter.unusedSimpArgs false
set_option linter.deprecated false
namespace Go.Sx
open Go.RowKit Go.Deep

/- WHAT COMES IN: a value that a row's reading goes through, as plain data. -/

inductive Sh where
  | bool
  | int (k : IntKind)
  | str
  | slice (e : List Sh)

mutual
def Sh.fit (B : Nat) : Sh → D → Prop
  | .bool, d => ∃ b, d = .bool b
  | .int k, d => ∃ n, d = .int k n ∧ (Lit.int k n).wf = true
  | .str, d => ∃ s, d = .str s ∧ s.length ≤ B
  | .slice l, d => ∃ es, d = .slice es [] ∧ es.length ≤ B ∧ ∀ e, e ∈ es → Sh.fits B l e
def Sh.fits (B : Nat) : List Sh → List D → Prop
  | [], ds => ds = []
  | s :: r, ds => ∃ d t, ds = d :: t ∧ Sh.fit B s d ∧ Sh.fits B r t
end

def fsh (P : Program) (sh : TypeId → Option (List Sh)) : List Field → Nat → Option (List Sh)
  | [], _ => some []
  | f :: r, off => if f.offset = off then match sh f.type with
    | some l => if l.length = P.cellsOf f.type then match fsh P sh r (off + l.length) with
      | some m => some (l ++ m)
      | none => none
      else none
    | none => none
    else none

def shOf (P : Program) : Nat → TypeId → Option (List Sh)
  | 0, _ => none
  | n + 1, t => match P.underlying t with
    | some .bool => some [.bool]
    | some (.int k) => some [.int k]
    | some .string => some [.str]
    | some (.slice e) => if 0 < P.bytesOf e then match shOf P n e with
      | some l => if l.length = P.cellsOf e ∧ 0 < l.length then some [.slice l] else none
      | none => none
      else none
    | some (.struct fs) => match fsh P (shOf P n) fs.toList 0 with
      | some l => if l.length = P.cellsOf t then some l else none
      | none => none
    | _ => none

theorem fits_len {B : Nat} : ∀ {l : List Sh} {ds : List D}, Sh.fits B l ds → ds.length = l.length
  | [], ds, h => by simp only [Sh.fits] at h; simp [h]
  | s :: r, ds, h => by
    simp only [Sh.fits] at h
    obtain ⟨d, t, rfl, _, h2⟩ := h
    simp [fits_len h2]

theorem fits_append {B : Nat} : ∀ {l m : List Sh} {ds es : List D}, Sh.fits B l ds → Sh.fits B m es → Sh.fits B (l ++ m) (ds ++ es)
  | [], m, ds, es, h, k => by simp only [Sh.fits] at h; simpa [h] using k
  | s :: r, m, ds, es, h, k => by
    simp only [Sh.fits] at h
    obtain ⟨d, t, rfl, h1, h2⟩ := h
    simp only [List.cons_append, Sh.fits]
    exact ⟨d, t ++ es, rfl, h1, fits_append h2 k⟩

/-- All that lies in a world. -/
def memW (w : World) : Mem := fun b o => w.cell? ⟨b, o, none⟩

/-- Cells, as data. -/
def CRp (φ : Mem) (cs : List Value) (ds : List D) : Prop := cs.length = ds.length ∧ ∀ (j : Nat) (v : Value) (d : D), cs[j]? = some v → ds[j]? = some d → Rep φ v d

theorem CRp.append {φ : Mem} {a b : List Value} {d e : List D} (h : CRp φ a d) (k : CRp φ b e) : CRp φ (a ++ b) (d ++ e) := by
  refine ⟨by simp [h.1, k.1], fun j v x hv hx => ?_⟩
  rcases Nat.lt_or_ge j a.length with hj | hj
  · rw [List.getElem?_append_left hj] at hv
    rw [List.getElem?_append_left (by rw [← h.1]; exact hj)] at hx
    exact h.2 j v x hv hx
  · rw [List.getElem?_append_right hj] at hv
    rw [List.getElem?_append_right (by rw [← h.1]; exact hj), ← h.1] at hx
    exact k.2 _ v x hv hx

theorem addP (b off n : Nat) : Addr.add ⟨b, off, none⟩ n = ⟨b, off + n, none⟩ := by
  unfold Addr.add
  split
  · rename_i h; subst h; rfl
  · rfl

/-- No slice's address goes into the inside of a cell. -/
def Plain (v : Value) : Prop := ∀ a n c, v = .slice (some a) n c → a.spot = none

def noSl (l : List Sh) : Bool := l.all fun | .slice _ => false | _ => true
def deep1 (l : List Sh) : Bool := l.all fun | .slice le => noSl le | _ => true
theorem noSl_app {a b : List Sh} : noSl (a ++ b) = (noSl a && noSl b) := by simp [noSl]
theorem deep1_app {a b : List Sh} : deep1 (a ++ b) = (deep1 a && deep1 b) := by simp [deep1]
theorem deep1_no {l : List Sh} (h : noSl l = true) : deep1 l = true := by
  simp only [noSl, deep1, List.all_eq_true] at h ⊢
  intro x hx
  have := h x hx
  cases x <;> first | rfl | cases this

variable {H : Type} {enc : TypeId × Value → H} {P : Program} {w : World}

def wOK (B : Nat) (l : List Nat) : Prop := ∀ x ∈ l, x ≤ B

theorem read_in (B : Nat) : ∀ (n fuel : Nat) (t : TypeId) (cs : List Value) (x : DataW H × List MemPlace) (l : List Sh), shOf P n t = some l →
    DataW.trod enc P w 0 (fun _ => true) true fuel t cs = some x → wOK B (x.1.weights P t) → (deep1 l = false → ∀ a v, w.cell? a = some v → Plain v) → (noSl l = false → ∀ v ∈ cs, Plain v) → ∃ ds, Sh.fits B l ds ∧ CRp (memW w) cs ds
  | 0, _, _, _, _, _, h, _, _, _, _ => by simp [shOf] at h
  | n + 1, fuel, t, cs, x, l, h, ht, hw, hp, hpl => by
    unfold shOf at h
    split at h
    · rename_i hu
      cases h
      obtain ⟨b, rfl, _⟩ := DataW.trod_bool hu ht
      exact ⟨[.bool b], ⟨_, _, rfl, ⟨b, rfl⟩, rfl⟩, rfl, fun j v d hv hd => by
        cases j with
        | zero => simp at hv hd; subst hv; subst hd; exact .bool b
        | succ j => simp at hv⟩
    · rename_i k hu
      cases h
      obtain ⟨m, rfl, _, hwf⟩ := DataW.trod_int hu ht
      exact ⟨[.int k m], ⟨_, _, rfl, ⟨m, rfl, hwf⟩, rfl⟩, rfl, fun j v d hv hd => by
        cases j with
        | zero => simp at hv hd; subst hv; subst hd; exact .int k m
        | succ j => simp at hv⟩
    · rename_i hu
      cases h
      obtain ⟨s, rfl, rfl, _⟩ := DataW.trod_string hu ht
      refine ⟨[.str s.data.toList], ⟨_, _, rfl, ⟨_, rfl, ?_⟩, rfl⟩, rfl, fun j v d hv hd => ?_⟩
      · exact hw _ (by simp [DataW.weights])
      · cases j with
        | zero =>
          simp at hv hd; subst hv; subst hd
          have := Rep.str (φ := memW w) s.data.toList
          simpa using this
        | succ j => simp at hv
    · rename_i e hu
      split at h
      · rename_i hby
        split at h
        · rename_i le hle
          split at h
          · rename_i hlen
            cases h
            rcases open_slice hu ht with ⟨rfl, rfl⟩ | ⟨a, len, cap, m, n', D', Pl, rfl, _, hlc, _, hm, rfl, hx⟩
            · refine ⟨[.slice [] []], ⟨_, _, rfl, ⟨[], rfl, Nat.zero_le _, fun _ h => by cases h⟩, rfl⟩, rfl, fun j v d hv hd => ?_⟩
              cases j with
              | zero => simp at hv hd; subst hv; subst hd; exact .nil
              | succ j => simp at hv
            · have hspot := hpl rfl _ (List.mem_singleton.2 rfl) a len cap rfl
              obtain ⟨b, off, spot⟩ := a
              simp only at hspot
              subst hspot
              simp only [if_true] at hm
              subst hm
              have hwl : len ≤ B ∧ ∀ i, i < len → wOK B ((D' i).weights P e) := by
                simp only [DataW.weights, hu] at hw
                refine ⟨?_, fun i hi y hy => ?_⟩
                · have := hw _ (List.mem_cons_self ..)
                  simp only [List.length_map, List.length_range] at this
                  have h2 : len ≤ (len + (m - len)) * P.bytesOf e := Nat.le_trans (Nat.le_add_right _ _) (Nat.le_mul_of_pos_right _ hby)
                  omega
                · refine hw y (List.mem_cons_of_mem _ (List.mem_append_left _ ?_))
                  have key : ∀ (l : List (DataW H)) (d : DataW H), d ∈ l → ∀ y ∈ d.weights P e, y ∈ DataW.weightsAll P e l := by
                    intro l
                    induction l with
                    | nil => intro d hd; cases hd
                    | cons z r ih =>
                      intro d hd y hy
                      simp only [DataW.weightsAll]
                      rcases List.mem_cons.1 hd with rfl | hd
                      · exact List.mem_append_left _ hy
                      · exact List.mem_append_right _ (ih d hd y hy)
                  exact key _ _ (List.mem_map.2 ⟨i, List.mem_range.2 hi, rfl⟩) y hy
              have hone : ∀ i, i < len → ∃ ds, Sh.fits B le ds ∧ ∃ cs', w.cells? 0 (Addr.add ⟨b, off, none⟩ (i * P.cellsOf e)) (P.cellsOf e) = some cs' ∧ CRp (memW w) cs' ds := fun i hi => by
                obtain ⟨cs', h1, h2⟩ := hx i (by omega)
                have hpn : noSl le = false → ∀ a v, w.cell? a = some v → Plain v := fun hno => hp (by simp [deep1, hno])
                obtain ⟨ds, h3, h4⟩ := read_in B n n' e cs' _ le hle h2 (hwl.2 i hi) (fun hd => hpn (by cases hq : noSl le with | false => rfl | true => rw [deep1_no hq] at hd; cases hd)) fun hno v hv => by
                  obtain ⟨j, hj, hv'⟩ := List.mem_iff_getElem.1 hv
                  obtain ⟨_, hl', hc'⟩ := World.cells?_some h1
                  exact hpn hno _ v (by rw [hc' j (by omega)]; rw [List.getElem?_eq_getElem hj, hv'])
                exact ⟨ds, h3, cs', h1, h4⟩
              obtain ⟨ds, hds⟩ := choose_lt (α := List D) (p := fun i ds => Sh.fits B le ds ∧ ∃ cs', w.cells? 0 (Addr.add ⟨b, off, none⟩ (i * P.cellsOf e)) (P.cellsOf e) = some cs' ∧ CRp (memW w) cs' ds) hone
              have hget : ∀ (i : Nat) (q : List D), ((List.range len).map ds ++ [])[i]? = some q → i < len ∧ q = ds i := by
                intro i q hq
                simp only [List.append_nil, List.getElem?_map, Option.map_eq_some_iff] at hq
                obtain ⟨i', hi', rfl⟩ := hq
                have h1 := List.getElem?_eq_some_iff.1 hi'
                obtain ⟨h2, h3⟩ := h1
                simp at h2 h3
                subst h3
                exact ⟨h2, rfl⟩
              refine ⟨[.slice ((List.range len).map ds) []], ⟨_, _, rfl, ⟨_, rfl, by simpa using hwl.1, fun q hq => ?_⟩, rfl⟩, rfl, fun j v d hv hd => ?_⟩
              · obtain ⟨i, hi, rfl⟩ := List.mem_map.1 hq
                exact (hds i (List.mem_range.1 hi)).1
              · cases j with
                | succ j => simp at hv
                | zero =>
                  simp at hv hd
                  subst hv; subst hd
                  have hl : len = ((List.range len).map ds).length := by simp
                  have hcell : ∀ i j x, i < len → (ds i)[j]? = some x → ∃ v, w.cell? ⟨b, off + i * P.cellsOf e + j, none⟩ = some v ∧ Rep (memW w) v x := fun i j x hi hjx => by
                    obtain ⟨_, cs', h1, h2⟩ := hds i hi
                    obtain ⟨_, hl', hc'⟩ := World.cells?_some h1
                    have hj : j < cs'.length := by
                      rcases Nat.lt_or_ge j cs'.length with h | h
                      · exact h
                      · rw [List.getElem?_eq_none (by rw [← h2.1]; exact h)] at hjx; cases hjx
                    have h3 := hc' j (by omega)
                    rw [List.getElem?_eq_getElem hj] at h3
                    have h4 : w.cell? ⟨b, off + i * P.cellsOf e + j, none⟩ = some cs'[j] := by rw [addP, addP] at h3; exact h3
                    exact ⟨_, h4, h2.2 j _ x (List.getElem?_eq_getElem hj) hjx⟩
                  conv => lhs; rw [hl]
                  refine .slice b off m (P.cellsOf e) _ _ (fun i j => (w.cell? ⟨b, off + i * P.cellsOf e + j, none⟩).getD Go.undef) (by simp; omega) (fun q hq => ?_) (fun i q j x hq hjx => ?_) (fun i q j x hq hjx => ?_)
                  · simp only [List.append_nil] at hq
                    obtain ⟨i, hi, rfl⟩ := List.mem_map.1 hq
                    rw [fits_len (hds i (List.mem_range.1 hi)).1, hlen.1]
                  · obtain ⟨hi, rfl⟩ := hget i q hq
                    obtain ⟨v, h1, _⟩ := hcell i j x hi hjx
                    show w.cell? _ = _
                    rw [h1]; rfl
                  · obtain ⟨hi, rfl⟩ := hget i q hq
                    obtain ⟨v, h1, h2⟩ := hcell i j x hi hjx
                    rw [h1]; exact h2
          · cases h
        · cases h
      · cases h
    · rename_i fs hu
      split at h
      · rename_i lf hlf
        split at h
        · rename_i hlen
          cases h
          obtain ⟨xs, n', _, rfl, hcl, hxl, hx⟩ := DataW.trod_struct hu ht
          have key : ∀ (r : List Field) (i off : Nat) (m : List Sh), (∀ k f, r[k]? = some f → fs[i + k]? = some f) → fsh P (shOf P n) r off = some m → wOK B (DataW.weightsEach P (r.map (·.type)) ((xs.drop i).map (·.1))) → (deep1 m = false → ∀ a v, w.cell? a = some v → Plain v) → (noSl m = false → ∀ v ∈ cs, Plain v) →
              ∃ ds, Sh.fits B m ds ∧ ((off + m.length ≤ cs.length) → CRp (memW w) ((cs.drop off).take m.length) ds) := by
            intro r
            induction r with
            | nil => intro i off m _ hm _ _ _; simp only [fsh, Option.some.injEq] at hm; subst hm; exact ⟨[], rfl, fun _ => ⟨by simp, fun j v d hv => by simp at hv⟩⟩
            | cons f r ih =>
              intro i off m hr hm hw' hpm hplm
              simp only [fsh] at hm
              split at hm
              · rename_i hoff
                split at hm
                · rename_i l1 hl1
                  split at hm
                  · rename_i hl1c
                    split at hm
                    · rename_i m1 hm1
                      cases hm
                      have hf : fs[i]? = some f := by simpa using hr 0 f rfl
                      have hxi := hx i f hf
                      have hil : i < xs.length := by
                        have := (Array.getElem?_eq_some_iff.1 hf).1
                        omega
                      rw [List.getElem?_eq_getElem hil] at hxi
                      have hdrop : xs.drop i = xs[i] :: xs.drop (i + 1) := List.drop_eq_getElem_cons hil
                      rw [hdrop] at hw'
                      simp only [List.map_cons, DataW.weightsEach] at hw'
                      obtain ⟨d1, hd1, hc1⟩ := read_in B n n' f.type _ _ l1 hl1 hxi (fun y hy => hw' y (List.mem_append_left _ hy)) (fun hd => hpm (by rw [deep1_app, hd]; rfl)) (fun hd v hv => hplm (by rw [noSl_app, hd]; rfl) v (List.mem_of_mem_drop (List.mem_of_mem_take hv)))
                      obtain ⟨d2, hd2, hc2⟩ := ih (i + 1) (off + l1.length) m1 (fun k g hg => by have := hr (k + 1) g (by simpa using hg); rwa [show i + 1 + k = i + (k + 1) by omega]) hm1 (fun y hy => hw' y (List.mem_append_right _ hy)) (fun hd => hpm (by rw [deep1_app, hd]; simp)) (fun hd => hplm (by rw [noSl_app, hd]; simp))
                      refine ⟨d1 ++ d2, fits_append hd1 hd2, fun hle => ?_⟩
                      rw [List.length_append] at hle
                      have := hc2 (by omega)
                      have hsplit : (cs.drop off).take (l1 ++ m1).length = (cs.drop off).take l1.length ++ (cs.drop (off + l1.length)).take m1.length := by
                        rw [List.length_append, List.take_add, List.drop_drop]
                      rw [hsplit]
                      rw [hoff, ← hl1c] at hc1
                      exact hc1.append this
                    · cases hm
                  · cases hm
                · cases hm
              · cases hm
          obtain ⟨ds, h1, h2⟩ := key fs.toList 0 0 l (fun k f hk => by simpa using hk) hlf (by simpa [DataW.weights, hu] using hw) hp hpl
          refine ⟨ds, h1, ?_⟩
          have := h2 (by omega)
          simpa [hlen, ← hcl] using this
        · cases h
      · cases h
    · cases h

end Go.Sx
