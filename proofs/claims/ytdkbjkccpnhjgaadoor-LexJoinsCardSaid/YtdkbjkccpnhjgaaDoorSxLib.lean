/- Own work: a layer over the kit: plain data, a walk over it, its soundness. -/
import Derived.Test.YtdkbjkccpnhjgaaDoorSxTa
import Derived.Lib.Join
import Derived.Lib.Fields
import Derived.Lib.Atoi
import Derived.Lib.ConvBytes
import Derived.Lib.AtoiErrMem
import Derived.Lib.Bytealg
import Derived.Lib.ItoaNum
set_option linter.unusedSectionVars false
set_option linter.unusedVariables false
set_option linter.unusedSimpArgs false
set_option linter.deprecated false
namespace Go.Sx
open Go.RowKit
variable [Globs] [Codes]
variable {P : Program} {f : FuncId}

/- CONTRACTS OF LIBRARY FUNCTIONS, TURNED INTO THIS LAYER's. -/

/-- What a function leaves that freezes nothing new. -/
theorem FnOK.quiet {args : List D} {r : D} (hr : ∀ sz e es, r ≠ .own sz e es)
    (hc : ∀ (φ : Mem) (h : Nat → Value) (w : World) (vs : Array Value), GlobOK φ → Sub φ w → RVL φ h vs.toList args →
      Calls P f vs w fun e w' => ∃ v, e = .returned v ∧ (∀ h', RV φ h' v r) ∧ Below w.heap.size w w') : FnOK P f args r := by
  intro φ h w vs hone hgl hsub hsz hargs
  have hvs : RVL φ h vs.toList args := RVL_of_get _ _ (by simpa using hsz) fun j d hd => by have := hargs j d hd; simpa [Array.getD_eq_getD_getElem?, List.getD] using this
  refine (hc φ h w vs hgl hsub hvs).mono ?_
  rintro e w' ⟨v, rfl, hrv, hb⟩
  refine ⟨v, φ, rfl, ?_, hb, fun _ _ _ h => h, fun b o u hu => ?_, fun b o u h1 h2 => by rw [h1] at h2; cases h2⟩
  · cases r with
    | own sz e es => exact absurd rfl (hr sz e es)
    | _ => exact hrv
  · have hlt : b < w.heap.size := Sub.lt (w := w) hsub hu
    have := hb.cell (p := ⟨b, o, none⟩) hlt
    rw [this]
    exact hsub b o u hu

/-- The values of plain arguments. -/
theorem vs1 {φ : Mem} {h : Nat → Value} {vs : Array Value} {a : D} (hv : RVL φ h vs.toList [a]) : ∃ v, vs = #[v] ∧ RV φ h v a := by
  match hl : vs.toList, hv with
  | [v], hv => exact ⟨v, by rw [← hl], hv.1⟩
  | [], hv => exact hv.elim
  | _ :: _ :: _, hv => exact hv.2.elim
theorem vs2 {φ : Mem} {h : Nat → Value} {vs : Array Value} {a b : D} (hv : RVL φ h vs.toList [a, b]) : ∃ u v, vs = #[u, v] ∧ RV φ h u a ∧ RV φ h v b := by
  match hl : vs.toList, hv with
  | [u, v], hv => exact ⟨u, v, by rw [← hl], hv.1, hv.2.1⟩
  | [], hv => exact hv.elim
  | [_], hv => exact hv.2.elim
  | _ :: _ :: _ :: _, hv => exact hv.2.2.elim

/-- strings.IndexByte -/
theorem FnOK.indexByte (H : ∀ (s : ByteArray) (c : Int) (w : World), Calls P f #[.string s, .int .u8 c] w fun e w' => e = .returned (.int .i64 (Lib.indexByte s.data.toList c.toNat.toUInt8)) ∧ w' = w) (s : List UInt8) (n : Int) :
    FnOK P f [.str s, .int .u8 n] (.int .i64 (Lib.indexByte s (UInt8.ofNat n.toNat))) := by
  refine FnOK.quiet (by intros; simp) fun φ h w vs hgl hsub hv => ?_
  obtain ⟨u, v, rfl, hu, hv⟩ := vs2 hv
  rw [hu.str_inv, hv.int_inv]
  refine (H ⟨s.toArray⟩ n w).mono ?_
  rintro e w' ⟨rfl, rfl⟩
  exact ⟨_, rfl, fun h' => .pure (.int _ _), Below.refl _ _⟩

/-- strconv.Itoa at small numbers -/
theorem FnOK.itoaSmall (H : ∀ (i : Nat) (hi : i < 100) (w : World), Calls P f #[.int .i64 i] w fun e w' => e = .returned (.string ⟨(Lib.decDigits i).toArray⟩) ∧ w' = w) (n : Int) (h0 : 0 ≤ n) (h1 : n < 100) :
    FnOK P f [.int .i64 n] (.str (Lib.decDigits n.toNat)) := by
  refine FnOK.quiet (by intros; simp) fun φ h w vs hgl hsub hv => ?_
  obtain ⟨u, rfl, hu⟩ := vs1 hv
  rw [hu.int_inv]
  have hn : n = ((n.toNat : Nat) : Int) := by omega
  have := H n.toNat (by omega) w
  rw [← hn] at this
  refine this.mono ?_
  rintro e w' ⟨rfl, rfl⟩
  exact ⟨_, rfl, fun h' => .pure (.str _), Below.refl _ _⟩

/-- strconv.Atoi -/
theorem FnOK.atoi (H : ∀ (s : ByteArray) (n : Int) (hl : s.size ≤ 18) (h : Lib.atoi s.data.toList = some n) (w : World), Calls P f #[.string s] w fun e w' => e = .returned (.tuple #[.int .i64 n, .nilIface]) ∧ ∃ (b : TypeId) (t : ByteArray), w' = Lib.bytesWorld w b t)
    (s : List UInt8) (n : Int) (hl : s.length ≤ 18) (hs : Lib.atoi s = some n) : FnOK P f [.str s] (.tuple [.int .i64 n, .raw .nilIface]) := by
  refine FnOK.quiet (by intros; simp) fun φ h w vs hgl hsub hv => ?_
  obtain ⟨u, rfl, hu⟩ := vs1 hv
  rw [hu.str_inv]
  refine (H ⟨s.toArray⟩ n (by simpa [ByteArray.size] using hl) (by simpa using hs) w).mono ?_
  rintro e w' ⟨rfl, b, t, rfl⟩
  refine ⟨_, rfl, fun h' => .tuple _ _ rfl fun j d hd => ?_, Lib.bytesWorld_below w b t⟩
  match j with
  | 0 => simp at hd; subst hd; exact .pure (.int _ _)
  | 1 => simp at hd; subst hd; exact .pure (.raw _ rfl)
  | j + 2 => simp at hd

theorem FnOK.atoiErr {g : Nat} (hG : Globs.G g = some [.ifc]) (H : ∀ (s : ByteArray) (hl : s.size ≤ 18) (h : Lib.atoi s.data.toList = none) (ev : Value) (w : World) (hv : w.cell? ⟨g, 0, none⟩ = some ev) (hev : ev = .nilIface ∨ ∃ te pe, ev = .iface te pe),
      Calls P f #[.string s] w fun e w' => ∃ (t : TypeId) (N : Nat), e = .returned (.tuple #[.int .i64 0, .iface t (.pointer (some ⟨N, 0, none⟩))]) ∧ Below w.heap.size w w')
    (s : List UInt8) (hl : s.length ≤ 18) (hs : Lib.atoi s = none) : FnOK P f [.str s] (.tuple [.int .i64 0, .ifc]) := by
  refine FnOK.quiet (by intros; simp) fun φ h w vs hgl hsub hv => ?_
  obtain ⟨u, rfl, hu⟩ := vs1 hv
  rw [hu.str_inv]
  obtain ⟨b, o, vals, he, hm, hr⟩ := (hgl g _ hG).fptr_inv
  simp only [Value.pointer.injEq, Option.some.injEq, Addr.mk.injEq, and_true] at he
  obtain ⟨rfl, rfl⟩ := he
  have hc := hsub _ _ _ (hm 0 .ifc rfl)
  obtain ⟨te, pe, hi⟩ := (RV.pure (h := h) (hr 0 .ifc rfl)).ifc_inv
  refine (H ⟨s.toArray⟩ (by simpa [ByteArray.size] using hl) (by simpa using hs) _ w hc (.inr ⟨te, pe, hi⟩)).mono ?_
  rintro e w' ⟨t, N, rfl, hb⟩
  refine ⟨_, rfl, fun h' => .tuple _ _ rfl fun j d hd => ?_, hb⟩
  match j with
  | 0 => simp at hd; subst hd; exact .pure (.int _ _)
  | 1 => simp at hd; subst hd; exact .pure (.ifc _ _)
  | j + 2 => simp at hd

/-- strings.Join -/
theorem FnOK.join (H0 : ∀ (a : Option Addr) (c : Nat) (sep : ByteArray) (w : World), Calls P f #[.slice a 0 c, .string sep] w fun e w' => e = .returned (.string ⟨#[]⟩) ∧ w' = w)
    (H : ∀ (bk o c : Nat) (xs : List ByteArray) (sep : ByteArray) (w : World) (hcells : ∀ (j : Nat) x, xs[j]? = some x → w.cell? ⟨bk, o + j, none⟩ = some (.string x)) (hbk : bk < w.heap.size) (hN : xs.length ≤ 140737488355328) (hcap : xs.length ≤ c) (hlen : (Lib.join (xs.map (·.data.toList)) sep.data.toList).length ≤ 140737488355328),
      Calls P f #[.slice (some ⟨bk, o, none⟩) xs.length c, .string sep] w fun e w' => e = .returned (.string ⟨(Lib.join (xs.map (·.data.toList)) sep.data.toList).toArray⟩) ∧ Below w.heap.size w w')
    (ts : List (List UInt8)) (ext : List (List D)) (sep : List UInt8) (hn : ts.length ≤ 140737488355328) (hj : (Lib.join ts sep).length ≤ 140737488355328) :
    FnOK P f [.slice (ts.map fun t => [.str t]) ext, .str sep] (.str (Lib.join ts sep)) := by
  refine FnOK.quiet (by intros; simp) fun φ h w vs hgl hsub hv => ?_
  obtain ⟨u, v, rfl, hu, hv⟩ := vs2 hv
  rw [hv.str_inv]
  have hnone : ∀ a c, ts = [] → Calls P f #[.slice a 0 c, .string ⟨sep.toArray⟩] w fun e w' => ∃ v, e = .returned v ∧ (∀ h', RV φ h' v (.str (Lib.join ts sep))) ∧ Below w.heap.size w w' := by
    rintro a c rfl
    refine (H0 a c ⟨sep.toArray⟩ w).mono ?_
    rintro e w' ⟨rfl, rfl⟩
    exact ⟨_, rfl, fun h' => by rw [Lib.join_nil]; exact .pure (.str []), Below.refl _ _⟩
  rcases hu.slice_inv.slice_inv with ⟨rfl, he, _⟩ | ⟨b, off, cap, sz, vals, rfl, hcap, hsz, hmem, hrep⟩
  · exact hnone none 0 (by simpa using he)
  · cases hts : ts with
    | nil => rw [← hts]; simpa [hts] using hnone (some ⟨b, off, none⟩) cap hts
    | cons t0 tr =>
      have hsz1 : sz = 1 := by have := hsz [.str t0] (by simp [hts]); simpa using this.symm
      subst hsz1
      have hcell : ∀ (j : Nat) (t : List UInt8), ts[j]? = some t → w.cell? ⟨b, off + j, none⟩ = some (.string ⟨t.toArray⟩) := fun j t ht => by
        have hjl : j < ts.length := by
          rcases Nat.lt_or_ge j ts.length with h | h
          · exact h
          · rw [List.getElem?_eq_none h] at ht; cases ht
        have h1 : ((ts.map fun t => ([.str t] : List D)) ++ ext)[j]? = some [.str t] := by
          rw [List.getElem?_append_left (by simpa using hjl)]; simp [ht]
        have h2 := hsub _ _ _ (hmem j _ 0 _ h1 rfl)
        have h3 := (RV.pure (h := h) (hrep j _ 0 _ h1 rfl)).str_inv
        rw [h3] at h2
        simpa using h2
      have hb : b < w.heap.size := World.block_lt_of_cell? _ _ (hcell 0 t0 (by simp [hts]))
      have hm : (ts.map fun t => (⟨t.toArray⟩ : ByteArray)).map (·.data.toList) = ts := by simp [List.map_map, Function.comp_def]
      have := H b off cap (ts.map fun t => ⟨t.toArray⟩) ⟨sep.toArray⟩ w (fun j x hx => by
          simp only [List.getElem?_map, Option.map_eq_some_iff] at hx
          obtain ⟨t, ht, rfl⟩ := hx
          exact hcell j t ht) hb (by simpa using hn) (by simp at hcap ⊢; omega) (by rw [hm]; exact hj)
      rw [hm] at this
      rw [← hts]
      simp only [List.length_map] at this ⊢
      refine this.mono ?_
      rintro e w' ⟨rfl, hbel⟩
      exact ⟨_, rfl, fun h' => .pure (.str _), hbel⟩

/-- strings.Fields on ASCII: a new slice. -/
theorem FnOK.fields {g : Nat} {ty : TypeId} {cs : List D} (hG : Globs.G g = some cs) (hcs : ∀ c : Nat, c < 256 → cs[c]? = some (.int .u8 (if Lib.isSp (UInt8.ofNat c) then 1 else 0)))
    (H : ∀ (s : ByteArray) (w : World) (hs : s.size < 4294967281) (hascii : ∀ (j : Nat) b, s.data.toList[j]? = some b → b.toNat < 128)
      (hT : ∀ c : Nat, c < 256 → w.cell? ⟨g, c, none⟩ = some (.int .u8 (if Lib.isSp (UInt8.ofNat c) then 1 else 0))),
      Calls P f #[.string s] w fun e w' =>
        e = .returned (.slice (some ⟨w.heap.size, 0, none⟩) (Lib.fields s.data.toList).length (Lib.fields s.data.toList).length) ∧ w' = w.alloc (.cells ((Lib.fields s.data.toList).map fun l => Value.string ⟨l.toArray⟩).toArray ty))
    (s : List UInt8) (hs : s.length < 4294967281) (ha : ∀ b ∈ s, b.toNat < 128) : FnOK P f [.str s] (.slice ((Lib.fields s).map fun x => [.str x]) []) := by
  intro φ h w vs hone hgl hsub hsz hargs
  have hvs : RVL φ h vs.toList [.str s] := RVL_of_get _ _ (by simpa using hsz) fun j d hd => by have := hargs j d hd; simpa [Array.getD_eq_getD_getElem?, List.getD] using this
  obtain ⟨u, rfl, hu⟩ := vs1 hvs
  rw [hu.str_inv]
  obtain ⟨b, o, vals, he, hm, hr⟩ := (hgl g _ hG).fptr_inv
  simp only [Value.pointer.injEq, Option.some.injEq, Addr.mk.injEq, and_true] at he
  obtain ⟨rfl, rfl⟩ := he
  have hT : ∀ c : Nat, c < 256 → w.cell? ⟨g, c, none⟩ = some (.int .u8 (if Lib.isSp (UInt8.ofNat c) then 1 else 0)) := fun c hc => by
    have h1 := hm c _ (hcs c hc)
    have h2 := (RV.pure (h := h) (hr c _ (hcs c hc))).int_inv
    rw [h2] at h1
    simpa using hsub _ _ _ h1
  refine (H ⟨s.toArray⟩ w (by simpa [ByteArray.size] using hs) (fun j b hb => ha b (List.mem_of_getElem? (by simpa using hb))) hT).mono ?_
  rintro e w' ⟨rfl, rfl⟩
  simp only
  have hB := (Below.refl w.heap.size w).alloc (Nat.le_refl _) (.cells ((Lib.fields s).map fun l => Value.string ⟨l.toArray⟩).toArray ty)
  have hold : ∀ b o u, φ b o = some u → b < w.heap.size := fun b o u hu => Sub.lt (w := w) hsub hu
  refine ⟨_, fun b o => if b = w.heap.size then (if o < (Lib.fields s).length then some (.string ⟨((Lib.fields s).getD o []).toArray⟩) else none) else φ b o, rfl, fun h' => .pure ?_, hB, ?_, ?_, ?_⟩
  · have hl : (Lib.fields s).length = ((Lib.fields s).map fun x => ([.str x] : List D)).length := by simp
    conv => lhs; rw [hl]
    have key : ∀ i (e : List D) j d, (((Lib.fields s).map fun x => ([.str x] : List D)) ++ [])[i]? = some e → e[j]? = some d → j = 0 ∧ i < (Lib.fields s).length ∧ d = .str ((Lib.fields s).getD i []) := by
      intro i e j d he hd
      simp only [List.append_nil, List.getElem?_map, Option.map_eq_some_iff] at he
      obtain ⟨x, hx, rfl⟩ := he
      have hj : j = 0 := by
        cases j with
        | zero => rfl
        | succ j => simp at hd
      subst hj
      simp at hd
      subst hd
      have : i < (Lib.fields s).length := by
        rcases Nat.lt_or_ge i (Lib.fields s).length with h | h
        · exact h
        · rw [List.getElem?_eq_none h] at hx; cases hx
      exact ⟨rfl, this, by simp [hx]⟩
    refine .slice w.heap.size 0 _ 1 _ _ (fun i _ => .string ⟨((Lib.fields s).getD i []).toArray⟩) (by simp) (fun e he => ?_) (fun i e j d he hd => ?_) (fun i e j d he hd => ?_)
    · simp only [List.append_nil, List.mem_map] at he
      obtain ⟨x, _, rfl⟩ := he; rfl
    · obtain ⟨rfl, hi, rfl⟩ := key i e j d he hd
      simp [hi]
    · obtain ⟨rfl, hi, rfl⟩ := key i e j d he hd
      exact .str _
  · intro b o u hu
    have := hold b o u hu
    simp only
    rw [if_neg (by omega)]
    exact hu
  · intro b o u hu
    simp only at hu
    split at hu
    · rename_i hb
      split at hu
      · rename_i ho
        cases hu
        subst hb
        rw [World.cell?_alloc_new]
        simp [List.getD, ho]
      · cases hu
    · rw [World.cell?_alloc_lt _ _ _ (hold b o u hu)]
      exact hsub b o u hu
  · intro b o u hu hn
    simp only at hu
    split at hu
    · omega
    · rw [hu] at hn; cases hn

end Go.Sx
