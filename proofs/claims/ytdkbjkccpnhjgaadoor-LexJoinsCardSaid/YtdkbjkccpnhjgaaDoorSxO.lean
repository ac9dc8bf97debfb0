/- Own work: a layer over the kit: plain data, a walk over it, its soundness. -/
import Derived.Test.YtdkbjkccpnhjgaaDoorSxN
set_option linter.unusedSectionVars false
set_option linter.unusedVariables false
set_option linter.unusedSimpArgs false
set_option linter.deprecated false
namespace Go.Sx
open Go.RowKit
variable [Globs] [Codes]

section
variable {P : Program} {o : Oper} {ρ : Operand → Value} {w : World} {φ : Mem} {h : Nat → Value} {dst : Nat} {K : D → Option Ob → Prop} {obs : Nat → Option Ob} {own : Nat → Prop}

theorem pureF_spec {f : FuncId} (hp : pureF P f = true) : ∃ fn, P.funcs[f]? = some fn ∧ fn.body.isNone = false ∧ (fn.name == "runtime.NumGoroutine") = false := by
  unfold pureF at hp
  split at hp
  · rename_i fn hf
    simp only [Bool.and_eq_true, Bool.not_eq_true'] at hp
    exact ⟨fn, hf, hp.1, hp.2⟩
  · cases hp

theorem compA_sound {fz : Bool} {op : AOp} {xs : List Operand} (hc : compA P fz o = some (op, xs)) (hρ : ∀ f, ρ (.func f) = .func (.func f) #[] #[]) (hh : HOne h) (hgl : GlobOK φ) (hφ : Sub φ w)
    (hobs : ∀ i ob, obs i = some ob → live (h i) = true → ObR own φ h w (h i) ob) {ds : List D} (hr : RVL φ h (xs.map ρ) ds) (hm : ∀ d ob, K d (some ob) → D.menL dst ds = false) (hev : evl P dst op ds obs K) : OpOut P o ρ w (APost φ h w dst K) := by
  unfold compA at hc
  split at hc
  case h_1 x ho => cases hc; exact s_mv (.inl ho) hφ hr hev
  case h_2 x ho => cases hc; exact s_mv (.inr ho) hφ hr hev
  case h_3 c a b ho => cases hc; exact s_pick ho hφ hr hev
  case h_4 _ x y _ ho => cases hc; exact s_sh (left := true) ho hφ hr hev
  case h_5 _ x y _ ho => cases hc; exact s_sh (left := false) ho hφ hr hev
  case h_6 op t x y yt _ _ ho =>
    split at hc
    · rename_i ht; cases hc; exact s_binb ho ht hφ hr hev
    · cases hc; exact s_bin ho hφ hr hev
    · cases hc; exact s_bin ho hφ hr hev
    · split at hc
      · rename_i kd hkd
        split at hc
        · rename_i hcs; cases hc; exact s_eqn ho hkd hcs hφ hr hev
        · cases hc
      · cases hc
  case h_7 op t x ho => cases hc; exact s_un ho hφ hr hev
  case h_8 s d x ho =>
    split at hc
    · rename_i u k hs hd; cases hc; exact s_conv ho (by rw [hs]; rfl) hd hφ hr hev
    · cases hc
  case h_9 e x ho => cases hc; exact s_box ho hh hφ hr hm hev
  case h_10 e ho =>
    cases hz : zeroOf P e with
    | none => rw [hz] at hc; cases hc
    | some z =>
      rw [hz] at hc; cases hc
      match ds, hr, hev with
      | [], _, hev => exact s_alloc ho hz hφ hev
  case h_11 t parts ho =>
    split at hc
    · rename_i z ps hz hp
      cases hc
      exact s_build ho hz hp hh hφ hobs (by rw [List.map_map] at hr; exact hr) hev
    · cases hc
  case h_12 t n parts ho =>
    split at hc
    · rename_i e hu
      split at hc
      · rename_i z sz hz hs
        split at hc
        · rename_i hcond
          cases hc
          exact s_bslice ho hu hz hs hcond.1 hcond.2 hh hφ hobs (by rw [List.map_map] at hr; exact hr) hev
        · cases hc
      · cases hc
    · cases hc
  case h_13 t x ho =>
    split at hc
    · rename_i ag sz ha hs; cases hc; exact s_load ho ha hs hφ hobs hr hev
    · cases hc
  case h_14 s x f ho =>
    cases hf : fldOff P s f with
    | none => rw [hf] at hc; cases hc
    | some r => rw [hf] at hc; cases hc; exact s_faddr (ag := r.2.1) (n := r.2.2) ho hf hφ hr hev
  case h_15 s x f ho =>
    cases hf : fldOff P s f with
    | none => rw [hf] at hc; cases hc
    | some r => rw [hf] at hc; cases hc; exact s_field ho hf hφ hr hev
  case h_16 t x y ho =>
    split at hc
    · rename_i e hu
      cases hs : szT P e with
      | none => rw [hs] at hc; cases hc
      | some sz => rw [hs] at hc; cases hc; exact s_iaddr ho hu hs hφ hobs hr hev
    · rename_i len e hu
      cases hs : szT P e with
      | none => rw [hs] at hc; cases hc
      | some sz => rw [hs] at hc; cases hc; exact s_iaddrA ho hu hs hφ hr hev
    · cases hc
  case h_17 t x y ho =>
    split at hc
    · rename_i hu; cases hc; exact s_index ho hu hφ hr hev
    · cases hc
  case h_18 t x lo hi ho =>
    split at hc
    · rename_i hu; cases hc; exact s_slice_str ho hu hφ hr hev
    · rename_i e hu
      cases hs : szT P e with
      | none => rw [hs] at hc; cases hc
      | some sz => rw [hs] at hc; cases hc; exact s_slice ho hu hs hφ hobs hr hev
    · cases hc
  case h_19 x i ho => cases hc; exact s_extract ho hφ hr hev
  case h_20 c ho =>
    obtain ⟨cal, args, ts⟩ := c
    simp only [compCall] at hc
    split at hc
    · split at hc
      · rename_i x t hx ht
        have hx' : args = #[x] := Array.ext' hx
        have ht' : ts = #[t] := Array.ext' ht
        subst hx'
        subst ht'
        split at hc
        · rename_i hu; cases hc; exact s_len (str := true) ho hu hφ hobs hr hev
        · rename_i e hu; cases hc; exact s_len (str := false) ho ⟨e, hu⟩ hφ hobs hr hev
        · cases hc
      · cases hc
    · rename_i f
      split at hc
      · rename_i hp
        cases hc
        obtain ⟨fn, hf, hb, hn⟩ := pureF_spec hp
        exact s_call ho hf hb hn (hρ f) hh hgl hφ hobs hr hev
      · cases hc
    · cases hc; exact s_mm (big := true) ho hφ hr hev
    · cases hc; exact s_mm (big := false) ho hφ hr hev
    · cases hc
  case h_21 x ho => cases hc; exact s_nilck ho hφ hr hev
  case h_22 f first caps ho => cases hc; exact s_mkfn ho hφ hr hev
  case h_23 => cases hc

end

theorem OpOut.wpIn {F : Fence} (hF : Fence.Open F) {n : Nat} {P : Program} {o : Oper} {a : Act} {w : World} {next : Act → World → Prop} {Q : Exit → Act → World → Prop} (hnd : ∀ c, o.op ≠ .defer c)
    {R : Value → World → Prop} (hout : OpOut P o a.eval w R) (hnext : ∀ v w', R v w' → next (a.put o.dst v) w') : o.wpIn F n P a w next Q := by
  refine ⟨fun f _ => hF.fn f, ?_⟩
  rw [Oper.semAt_eq _ _ _ hnd]
  rcases hout with ⟨v, w', he, hr⟩ | ⟨f, vs, he, hcall⟩
  · rw [he]; exact hnext v w' hr
  · rw [he, Oper.uponIn_enter]
    refine ⟨(fun h => by rw [hF.depth] at h; cases h), (hF.calls hcall _).mono ?_⟩
    rintro e w' ⟨v, rfl, hr⟩
    exact hnext v w' hr

theorem wpIn_skipped {F : Fence} (hF : Fence.Open F) {n : Nat} {P : Program} {o : Oper} {a : Act} {w w' : World} {next : Act → World → Prop} {Q : Exit → Act → World → Prop} (hnd : ∀ c, o.op ≠ .defer c)
    (he : (execOp a.eval o).run P w = .ok .skip w') (hnext : next (a.put o.dst Go.undef) w') : o.wpIn F n P a w next Q := by
  refine ⟨fun f _ => hF.fn f, ?_⟩
  rw [Oper.semAt_eq _ _ _ hnd, he]
  exact hnext

end Go.Sx
