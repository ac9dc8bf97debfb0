/- Own work: a layer over the kit: plain data, a walk over it, its soundness. -/
import Derived.Test.YtdkbjkccpnhjgaaDoorSxH
set_option linter.unusedSectionVars false
set_option linter.unusedVariables false
set_option linter.unusedSimpArgs false
set_option linter.deprecated false
namespace Go.Sx
open Go.RowKit
variable [Globs] [Codes]

section
variable {P : Program} {o : Oper} {ρ : Operand → Value} {w : World} {φ : Mem} {h : Nat → Value} {dst : Nat} {K : D → Option Ob → Prop} {obs : Nat → Option Ob} {own : Nat → Prop}

/-- What a slice expression's bounds come to. -/
theorem run_bounds {isS : Bool} {len cap : Nat} {lo hi : Option Operand} {bs : List D} {a b : Int} (hr : RVL φ h ((lo.toList ++ hi.toList).map ρ) bs) (hb : bounds lo.isSome hi.isSome len bs = some (a, b))
    (h0 : 0 ≤ a) (h1 : a ≤ b) (h2 : b ≤ cap) : (Instr.sliceBounds isS len cap (lo.map ρ) (hi.map ρ) none).run P w = .ok (a.toNat, b.toNat, cap) w := by
  cases lo with
  | none =>
    cases hi with
    | none =>
      match bs, hr, hb with
      | [], _, hb =>
        simp [bounds] at hb
        obtain ⟨rfl, rfl⟩ := hb
        simp [Instr.sliceBounds]
    | some y =>
      match bs, hr, hb with
      | [.int k n], hr, hb =>
        simp [bounds] at hb
        obtain ⟨rfl, rfl⟩ := hb
        have hy : ρ y = .int k n := hr.1.int_inv
        simp [Instr.sliceBounds, hy, run_sliceBound _ k n cap _ (by omega) h2]
  | some x =>
    cases hi with
    | none =>
      match bs, hr, hb with
      | [.int k n], hr, hb =>
        simp [bounds] at hb
        obtain ⟨rfl, rfl⟩ := hb
        have hx : ρ x = .int k n := hr.1.int_inv
        simp [Instr.sliceBounds, hx, run_sliceBound _ k n len _ h0 h1]
    | some y =>
      match bs, hr, hb with
      | [.int k n, .int k' n'], hr, hb =>
        simp [bounds] at hb
        obtain ⟨rfl, rfl⟩ := hb
        have hx : ρ x = .int k n := hr.1.int_inv
        have hy : ρ y = .int k' n' := hr.2.1.int_inv
        have h3 : n ≤ (n'.toNat : Int) := by omega
        simp [Instr.sliceBounds, hx, hy, run_sliceBound _ k' n' cap _ (by omega) h2, run_sliceBound _ k n n'.toNat _ h0 h3]

theorem s_slice_str {t : TypeId} {x : Operand} {lo hi : Option Operand} (ho : o.op = .slice t x lo hi none) (ht : P.underlying t = some .string) (hφ : Sub φ w) {ds : List D}
    (hr : RVL φ h (([x] ++ lo.toList ++ hi.toList).map ρ) ds) (hev : evl P dst (.sliceS lo.isSome hi.isSome) ds obs K) : OpOut P o ρ w (APost φ h w dst K) := by
  match ds, hr, hev with
  | .str s :: bs, hr, hev =>
    simp only [evl] at hev
    split at hev
    · rename_i a b hb
      obtain ⟨h0, h1, h2, hk⟩ := hev
      have hx : ρ x = .string ⟨s.toArray⟩ := hr.1.str_inv
      have hsz : (ByteArray.mk s.toArray).size = s.length := rfl
      have hbd := run_bounds (P := P) (w := w) (isS := false) (len := s.length) (cap := s.length) hr.2 hb h0 h1 h2
      refine OpOut.same hφ (v := .string ⟨((s.take b.toNat).drop a.toNat).toArray⟩) ?_ hk (rv_str _)
      have he : (ByteArray.mk s.toArray).extract a.toNat b.toNat = ⟨((s.take b.toNat).drop a.toNat).toArray⟩ := by
        apply ByteArray.ext
        rw [ByteArray.data_extract]
        apply Array.ext'
        rw [Array.toList_extract]
        simp [List.extract_eq_take_drop, List.drop_take]
      simp only [execOp, ho, hx, Instr.sliceAt, Sem.run_bind, run_underlying ht, Result.andThen_ok]
      simp only [Instr.slice, Sem.run_bind, run_underlying ht, Result.andThen_ok, hsz, Option.map_none, Option.isSome_none, Bool.false_eq_true, if_false, hbd, he]
      rfl
    · exact hev.elim

theorem drop_take_get {α : Type} (l : List α) (a b i : Nat) (x : α) (hx : ((l.take b).drop a)[i]? = some x) : l[a + i]? = some x := by
  rw [List.getElem?_drop, List.getElem?_take] at hx
  split at hx
  · exact hx
  · cases hx

theorem s_slice_of {t e : TypeId} {x : Operand} {lo hi : Option Operand} {sz : Nat} {es ext : List (List D)} {bs : List D} {a b : Int} (ho : o.op = .slice t x lo hi none) (ht : P.underlying t = some (.slice e))
    (hs : szT P e = some sz) (hφ : Sub φ w) (hx : Rep φ (ρ x) (.slice es ext)) (hr : RVL φ h ((lo.toList ++ hi.toList).map ρ) bs) (hb : bounds lo.isSome hi.isSome es.length bs = some (a, b))
    (hsz : ∀ q ∈ es ++ ext, q.length = sz)
    (h0 : 0 ≤ a) (h1 : a ≤ b) (h2 : b ≤ (es ++ ext).length) (hk : K (.slice (((es ++ ext).take b.toNat).drop a.toNat) ((es ++ ext).drop b.toNat)) none) : OpOut P o ρ w (APost φ h w dst K) := by
  have hlen : (((es ++ ext).take b.toNat).drop a.toNat).length = b.toNat - a.toNat := by
    rw [List.length_drop, List.length_take]; omega
  rcases hx.slice_inv with ⟨hv, rfl, rfl⟩ | ⟨g, off, cap, sz', vals, hv, hcap, hsz', hmem, hrep⟩
  · simp only [List.append_nil, List.length_nil] at h2
    have ha : a = 0 := by omega
    have hb0 : b = 0 := by omega
    subst ha; subst hb0
    have hbd := run_bounds (P := P) (w := w) (isS := true) (len := 0) (cap := 0) hr hb (by omega) (by omega) (by simp)
    refine OpOut.same hφ (v := .slice none 0 0) ?_ hk (.pure .nil)
    simp only [execOp, ho, hv, Instr.sliceAt, Sem.run_bind, run_underlying ht, Result.andThen_ok]
    simp only [Instr.slice, Sem.run_bind, run_underlying ht, Result.andThen_ok, Option.map_none, hbd, run_sizeOf hs]
    rfl
  · have hbd := run_bounds (P := P) (w := w) (isS := true) (len := es.length) (cap := cap) hr hb h0 h1 (by rw [List.length_append] at h2; omega)
    have hv' : (execOp ρ o).run P w = .ok (.value (.slice (if cap = a.toNat then some ⟨g, off, none⟩ else some ⟨g, off + a.toNat * sz, none⟩) (b.toNat - a.toNat) (cap - a.toNat))) w := by
      simp only [execOp, ho, hv, Instr.sliceAt, Sem.run_bind, run_underlying ht, Result.andThen_ok]
      simp only [Instr.slice, Sem.run_bind, run_underlying ht, Result.andThen_ok, Option.map_none, hbd, run_sizeOf hs, Option.map_some, Addr.add_lit]
      rfl
    refine OpOut.same hφ hv' hk (.pure ?_)
    have hall : ∀ q ∈ ((es ++ ext).take b.toNat).drop a.toNat ++ (es ++ ext).drop b.toNat, q.length = sz := by
      intro q hq
      rcases List.mem_append.1 hq with hq | hq
      · exact hsz q (List.mem_of_mem_take (List.mem_of_mem_drop hq))
      · exact hsz q (List.mem_of_mem_drop hq)
    have hcat : ∀ (i : Nat) (q : List D), (((es ++ ext).take b.toNat).drop a.toNat ++ (es ++ ext).drop b.toNat)[i]? = some q → (es ++ ext)[a.toNat + i]? = some q := by
      intro i q hq
      by_cases hi : i < b.toNat - a.toNat
      · rw [List.getElem?_append_left (by omega)] at hq
        exact drop_take_get _ _ _ _ _ hq
      · rw [List.getElem?_append_right (by omega), hlen, List.getElem?_drop] at hq
        rwa [show b.toNat + (i - (b.toNat - a.toNat)) = a.toNat + i by omega] at hq
    have hcl : (((es ++ ext).take b.toNat).drop a.toNat).length + ((es ++ ext).drop b.toNat).length ≤ cap - a.toNat := by
      rw [hlen, List.length_drop]
      rw [List.length_append] at h2 ⊢
      omega
    by_cases hca : cap = a.toNat
    · rw [if_pos hca, ← hlen]
      refine .slice g off _ sz _ _ (fun i j => vals (a.toNat + i) j) hcl hall ?_ ?_
      · intro i q j d hq hj
        exfalso
        have := (List.getElem?_eq_some_iff.1 hq).1
        rw [List.length_append] at this
        omega
      · intro i q j d hq hj
        exact hrep _ _ _ _ (hcat i q hq) hj
    · rw [if_neg hca, ← hlen]
      refine .slice g (off + a.toNat * sz) _ sz _ _ (fun i j => vals (a.toNat + i) j) hcl hall ?_ ?_
      · intro i q j d hq hj
        have hq' := hcat i q hq
        have hmq := List.mem_of_getElem? hq'
        have e1 : sz' = sz := by rw [← hsz' q hmq, hsz q hmq]
        subst e1
        have := hmem _ _ _ _ hq' hj
        rwa [Nat.add_mul, ← Nat.add_assoc] at this
      · intro i q j d hq hj
        exact hrep _ _ _ _ (hcat i q hq) hj

theorem s_slice {t e : TypeId} {x : Operand} {lo hi : Option Operand} {sz : Nat} (ho : o.op = .slice t x lo hi none) (ht : P.underlying t = some (.slice e)) (hs : szT P e = some sz) (hφ : Sub φ w)
    (hobs : ∀ i ob, obs i = some ob → live (h i) = true → ObR own φ h w (h i) ob) {ds : List D}
    (hr : RVL φ h (([x] ++ lo.toList ++ hi.toList).map ρ) ds) (hev : evl P dst (.slice sz lo.isSome hi.isSome) ds obs K) : OpOut P o ρ w (APost φ h w dst K) := by
  match ds, hr, hev with
  | d :: bs, hr, hev =>
    simp only [evl] at hev
    split at hev
    · rename_i es ext hso
      split at hev
      · rename_i a b hb
        have hx : Rep φ (ρ x) (.slice es ext) := by
          cases d <;> simp only [sliceOf] at hso <;> try (cases hso; done)
          case slice => cases hso; exact hr.1.slice_inv
          case vec id =>
            split at hso
            · rename_i sz' e' es' hob
              cases hso
              have hv := hr.1.vec_inv
              rw [hv]; exact ob_rep (hobs id _ hob hr.1.vec_live)
            · cases hso
          case nils => cases hso; rw [hr.1.nils_inv]; exact .nil
        exact s_slice_of ho ht hs hφ hx hr.2 hb hev.1 hev.2.1 hev.2.2.1 hev.2.2.2.1 hev.2.2.2.2
      · exact hev.elim
    · exact hev.elim

theorem s_call {f : FuncId} {args : Array Operand} {ts : Array TypeId} {fn : Func} (ho : o.op = .call { callee := .value (.func f), args, argTypes := ts }) (hf : P.funcs[f]? = some fn) (hb : fn.body.isNone = false)
    (hnm : (fn.name == "runtime.NumGoroutine") = false) (hρ : ρ (.func f) = .func (.func f) #[] #[]) (hh : HOne h) (hgl : GlobOK φ) (hφ : Sub φ w) (hobs : ∀ i ob, obs i = some ob → live (h i) = true → ObR own φ h w (h i) ob) {ds : List D}
    (hr : RVL φ h (args.toList.map ρ) ds) (hev : evl P dst (.call f) ds obs K) : OpOut P o ρ w (APost φ h w dst K) := by
  obtain ⟨r, hfn, hk⟩ := hev
  have hlen := hr.length
  refine .inr ⟨f, args.map ρ, ?_, (hfn φ h w (args.map ρ) hh hgl hφ (by simpa using hlen) ?_).mono ?_⟩
  · simp only [execOp, ho, resolve, hρ, Deferred.ofValue, invoke, Sem.run_bind, Sem.run_pure, Result.andThen_ok, callFunc, run_program, hf, hnm, hb, Bool.false_eq_true, if_false]
    simp
  · intro j d hd
    rw [List.getElem?_map] at hd
    cases hq : ds[j]? with
    | none => rw [hq] at hd; cases hd
    | some d' =>
      rw [hq] at hd; simp at hd; subst hd
      have := dv_sound hobs (hr.get j d' hq)
      have e : (args.map ρ).getD j Go.undef = (args.toList.map ρ).getD j Go.undef := by simp [Array.getD_eq_getD_getElem?, List.getD]
      rw [e]; exact this
  · rintro e w' ⟨v, φ', rfl, hret, hbelow, hmono, hmem, hnew⟩
    refine ⟨v, rfl, ?_⟩
    by_cases ho : ∃ sz e es, r = .own sz e es
    · obtain ⟨sz, e, es, rfl⟩ := ho
      refine ⟨.vec dst, some (.arr true sz e es), φ', v, hk, hbelow, hmono, hmem, hnew, ?_, fun ob he => by cases he; exact hret⟩
      have r := RV.vec (φ := φ') (h := updH h dst v) dst (by rw [upd_same]; obtain ⟨a, c, hv⟩ := ob_arr_val (φ := φ') (h := noH) (w := w') (own := (w.heap.size ≤ ·)) hret; rw [hv]; rfl)
      rw [upd_same] at r
      exact r
    · have hk' : K r none := by
        cases r <;> first | exact hk | exact absurd ⟨_, _, _, rfl⟩ ho
      have hret' : ∀ h, RV φ' h v r := by
        cases r <;> first | exact hret | exact absurd ⟨_, _, _, rfl⟩ ho
      exact ⟨r, none, φ', Go.undef, hk', hbelow, hmono, hmem, hnew, hret' h, fun _ he => by cases he⟩

end
end Go.Sx
