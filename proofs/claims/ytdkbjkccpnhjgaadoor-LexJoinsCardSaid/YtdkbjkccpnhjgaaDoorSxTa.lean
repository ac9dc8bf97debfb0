/- Own work: a layer over the kit: plain data, a walk over it, its soundness. -/
import Derived.Test.YtdkbjkccpnhjgaaDoorSxT
set_option linter.unusedSectionVars false
set_option linter.unusedVariables false
set_option linter.unusedSimpArgs false
set_option linter.deprecated false
namespace Go.Sx
open Go.RowKit
variable [Globs] [Codes]

/-- A LOOP, ROUND BY ROUND: the states at its head are named. -/
theorem loop_fam {P : Program} {bs : Nat} {ts0 : List Nat} {c : SC} {Q : Exit → St → Prop} {s : St} (ts : List Nat) (n : Nat) (H : Nat → St)
    (h0 : s.canon bs ts = H 0) (hstep : ∀ i, i < n → sw P bs c (thenS (fun s1 => s1.canon bs ts = H (i + 1)) Q) (H i)) (hend : sw P bs c (thenS (fun _ => False) Q) (H n)) :
    sw P bs (.loop ts0 c) Q s := by
  refine ⟨ts, fun k s' => k ≤ n ∧ s' = H (n - k), ⟨n, Nat.le_refl _, by rw [h0, Nat.sub_self]⟩, ?_⟩
  rintro k s' ⟨hk, rfl⟩
  by_cases h : n - k < n
  · refine sw_mono (hstep (n - k) h) fun e s1 h1 => ?_
    cases e with
    | normal =>
      have h1' : s1.canon bs ts = H (n - k + 1) := h1
      refine ⟨k - 1, by omega, by omega, ?_⟩
      rw [h1']
      congr 1
      omega
    | _ => exact h1
  · have : n - k = n := by omega
    rw [this]
    refine sw_mono hend fun e s1 h1 => ?_
    cases e with
    | normal => exact h1.elim
    | _ => exact h1

/-- A pure function, from its walk. -/
theorem FnOK.run {P : Program} [CodesOf P] (hdraw : DrawSound P) {f : FuncId} {N : Nat} {sc : SC} {rs : List SR} (hf : FnC P f N sc rs) (hpf : pureF P f = true) {args : List D} {r : D} {s1 : St} {e1 : Exit} {C : List Prop} {orc : List An} (hlen : args.length ≤ N)
    (hrun : runS P 0 sc ⟨envOf 0 args, []⟩ orc = some (C, (e1, s1), [])) (hC : AllP C) (he : finB e1 = true) {ds : List D} (hds : rs.mapM (resD s1) = some ds) (hr : RetL 0 (RetK r) s1 (packD ds)) : FnOK P f args r := by
  refine FnOK.of_call hpf (CallL.fn hdraw hf hpf 0 (Nat.le_refl _) (by simpa using hlen) ?_)
  have h1 : ([] ++ args ++ [] : List D) = args := by simp
  rw [h1]
  refine runS_sound hrun hC ?_
  cases e1 with
  | normal => exact ⟨ds, hds, hr⟩
  | ret => exact ⟨ds, hds, hr⟩
  | _ => cases he

end Go.Sx
namespace Go.Sx
variable [Globs] [Codes]
/-- A round that comes back to the loop's head. -/
def rndS (P : Program) (bs : Nat) (c : SC) (ts : List Nat) (s : St) (r : List An) : Option (List Prop × St) := match runS P bs c s r with
  | some (C, (.normal, s1), []) => some (C, s1.canon bs ts)
  | _ => none

theorem rndS_sound {P : Program} {bs : Nat} {c : SC} {ts : List Nat} {s s2 : St} {r : List An} {C : List Prop} {Q : Exit → St → Prop} (h : rndS P bs c ts s r = some (C, s2)) (hC : AllP C) {R : St → Prop} (hR : R s2) :
    sw P bs c (thenS (fun s1 => R (s1.canon bs ts)) Q) s := by
  unfold rndS at h
  split at h
  · rename_i C1 s1 h1
    simp only [Option.some.injEq, Prod.mk.injEq] at h
    obtain ⟨rfl, rfl⟩ := h
    exact runS_sound h1 hC hR
  · cases h

/-- A round that leaves the loop. -/
theorem outS_sound {P : Program} {bs : Nat} {c : SC} {s s2 : St} {r : List An} {C : List Prop} {e : Exit} {K : St → Prop} {Q : Exit → St → Prop} (h : runS P bs c s r = some (C, (e, s2), [])) (hC : AllP C) (he : e ≠ .normal) (hQ : Q e s2) :
    sw P bs c (thenS K Q) s := by
  refine runS_sound h hC ?_
  cases e with
  | normal => exact absurd rfl he
  | _ => exact hQ
end Go.Sx
namespace Go.Sx
/-- The loops of a text. -/
def SC.lps : SC → List SC
  | .seq a b => a.lps ++ b.lps
  | .cond _ a b => a.lps ++ b.lps
  | .block _ c => c.lps
  | .loop _ c => c :: c.lps
  | _ => []
end Go.Sx
namespace Go.Sx
variable [Globs] [Codes]
/-- A pure function's walk, whole. -/
def finS (P : Program) (N : Nat) (sc : SC) (rs : List SR) (args : List D) (r : List An) : Option (List Prop × D) :=
  if args.length ≤ N then match runS P 0 sc ⟨envOf 0 args, []⟩ r with
    | some (C, (e, s), []) => if finB e = true then match rs.mapM (resD s) with
      | some ds => match retE ((s.fin 0 (packD ds)).get (.t 0)) (s.fin 0 (packD ds)).ob with
        | some d => some (C, d)
        | none => none
      | none => none else none
    | _ => none else none

theorem FnOK.finS {P : Program} [CodesOf P] (hdraw : DrawSound P) {f : FuncId} {N : Nat} {sc : SC} {rs : List SR} (hf : FnC P f N sc rs ∧ pureF P f = true) {args : List D} {r : D} {C : List Prop} (orc : List An)
    (h : finS P N sc rs args orc = some (C, r)) (hC : AllP C) : FnOK P f args r := by
  unfold Go.Sx.finS at h
  split at h
  · rename_i hlen
    split at h
    · rename_i C1 e s hrun
      split at h
      · rename_i he
        split at h
        · rename_i ds hds
          split at h
          · rename_i d hd
            simp only [Option.some.injEq, Prod.mk.injEq] at h
            obtain ⟨rfl, rfl⟩ := h
            refine FnOK.run hdraw hf.1 hf.2 hlen hrun hC he hds ?_
            unfold RetL RetK
            unfold retE at hd
            split at hd
            · rename_i id hid
              split at hd
              · rename_i sz e es hl
                cases hd
                exact .inl ⟨id, sz, e, es, hid, hl, rfl⟩
              · cases hd
            · split at hd
              · rename_i hclo
                cases hd
                exact .inr ⟨hclo, rfl⟩
              · cases hd
          · cases h
        · cases h
      · cases h
    · cases h
  · cases h
end Go.Sx
