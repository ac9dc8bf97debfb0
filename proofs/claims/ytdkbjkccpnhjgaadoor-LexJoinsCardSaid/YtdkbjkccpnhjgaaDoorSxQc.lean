/- Own work: a layer over the kit: plain data, a walk over it, its soundness. -/
import Derived.Test.YtdkbjkccpnhjgaaDoorSxQb
set_option linter.unusedSectionVars false
set_option linter.unusedVariables false
set_option linter.unusedSimpArgs false
set_option linter.deprecated false
namespace Go.Sx
open Go.RowKit
variable [Globs] [Codes]

section
variable {P : Program} {F : Fence} {n : Nat}

theorem sw_sound [CodesOf P] (hdraw : DrawSound P) (hF : Fence.Open F) {hi : Hints} {N bs : Nat} (c : Code) : ∀ (sc : SC), compC P N hi c = some sc → ∀ (cx : Cx) (ds : List Deferred), cx.N = N → cx.bs = bs → GlobOK cx.φ0 → InRound F cx →
    ∀ (Q : Exit → St → Prop) (s : St) (φ : Mem) (h : Nat → Value) (tmps : Array Value) (w : World),
    Mod cx s φ h tmps w → sw P bs sc Q s → c.wpIn F n P (PostM cx ds Q) ⟨tmps, ds⟩ w := by
  induction c with
  | skip =>
    intro sc hc cx ds hN hbs hgl hro Q s φ h tmps w hm hs
    cases hc
    exact wpIn_skip (PostM.of hs hm)
  | ret =>
    intro sc hc cx ds hN hbs hgl hro Q s φ h tmps w hm hs
    cases hc
    exact wpIn_ret (PostM.of hs hm)
  | exit id =>
    intro sc hc cx ds hN hbs hgl hro Q s φ h tmps w hm hs
    cases hc
    exact wpIn_exit (PostM.of hs hm)
  | region id ops draw =>
    intro sc hc cx ds hN hbs hgl hro Q s φ h tmps w hm hs
    subst hN
    subst hbs
    simp only [compC] at hc
    split at hc
    · rename_i sops hl
      split at hc
      · rename_i hd
        cases draw with
        | true =>
          simp only [if_true] at hc
          split at hc
          · rename_i hok
            cases hc
            simp only [Bool.and_eq_true, decide_eq_true_eq] at hok
            obtain ⟨es, s', q1, q2, q3⟩ := hs
            exact hdraw hF (Nat.le_max_left _ _) hgl hl hd hok.2 hok.1 s φ h tmps w (Nat.le_max_right _ _) hm es s' q1 q2 q3
          · cases hc
        | false =>
          simp only [Bool.false_eq_true, if_false] at hc
          cases hc
          exact wpIn_region_list (steps_sound (Nat.le_max_left _ _) hgl hF ops.toList sops hl (dstsOK_spec hd) s φ h tmps w hm hs)
      · cases hc
    · cases hc
  | seq a b iha ihb =>
    intro sc hc cx ds hN hbs hgl hro Q s φ h tmps w hm hs
    simp only [compC] at hc
    split at hc
    · rename_i sa sb ha hb
      cases hc
      refine wpIn_seq (wpIn_mono (iha sa ha cx ds hN hbs hgl hro _ s φ h tmps w hm hs) ?_)
      rintro e ⟨tm, df⟩ w' ⟨ms, hnd, hdf, s', φ', h', hq, hm'⟩
      simp only at hdf
      subst hdf
      cases e <;> first | exact ⟨ms, hnd, rfl, s', φ', h', hq, hm'⟩ | exact wpIn_mono (ihb sb hb (cx.more ms) (ms.map mkd ++ ds) hN hbs hgl (hro.more ms) Q s' φ' h' tm w' hm' hq) (fun _ _ _ h => h.after hnd)
    · cases hc
  | cond x a b iha ihb =>
    intro sc hc cx ds hN hbs hgl hro Q s φ h tmps w hm hs
    simp only [compC] at hc
    split at hc
    · rename_i x' sa sb hx ha hb
      cases hc
      simp only [sw] at hs
      have hv := hm.get hgl (ds := ds) hx
      split at hs
      · rename_i t hxt
        rw [hxt] at hv
        refine wpIn_cond hv.bool_inv ?_
        cases t
        · exact ihb sb hb cx ds hN hbs hgl hro Q s φ h tmps w hm (by simpa using hs)
        · exact iha sa ha cx ds hN hbs hgl hro Q s φ h tmps w hm (by simpa using hs)
      · exact hs.elim
    · cases hc
  | block id c ih =>
    intro sc hc cx ds hN hbs hgl hro Q s φ h tmps w hm hs
    simp only [compC] at hc
    cases hc' : compC P N hi c with
    | none => rw [hc'] at hc; cases hc
    | some sb =>
      rw [hc'] at hc; cases hc
      refine wpIn_block (wpIn_mono (ih sb hc' cx ds hN hbs hgl hro _ s φ h tmps w hm hs) ?_)
      rintro e ⟨tm, df⟩ w' ⟨ms, hnd, hdf, s', φ', h', hq, hm'⟩
      cases e <;> try exact ⟨ms, hnd, hdf, s', φ', h', hq, hm'⟩
      rename_i i
      simp only [inBlockS] at hq
      simp only [Exit.inBlock]
      split at hq
      · rename_i hi; rw [if_pos hi]; exact ⟨ms, hnd, hdf, s', φ', h', hq, hm'⟩
      · rename_i hi; rw [if_neg hi]; exact ⟨ms, hnd, hdf, s', φ', h', hq, hm'⟩
  | loop c ih =>
    intro sc hc cx ds hN hbs hgl hro Q s φ h tmps w hm hs
    simp only [compC] at hc
    cases hc' : compC P N hi c with
    | none => rw [hc'] at hc; cases hc
    | some sb =>
      rw [hc'] at hc; cases hc
      obtain ⟨ts, Inv, ⟨k0, hk0⟩, hround⟩ := hs
      subst hN
      subst hbs
      let I : Nat → Act → World → Prop := fun k a w' => PostM cx ds (fun _ s' => Inv k s') .normal a w'
      have hmin : ∀ a w', (∃ k, I k a w') → ∃ k, I k a w' ∧ ∀ j, I j a w' → k ≤ j := fun a w' ⟨k, hk⟩ => by
        induction k using Nat.strongRecOn with
        | _ k ihk =>
          by_cases hlt : ∃ j, j < k ∧ I j a w'
          · obtain ⟨j, hj, hij⟩ := hlt
            exact ihk j hj hij
          · exact ⟨k, hk, fun j hj => Nat.le_of_not_lt fun hjk => hlt ⟨j, hjk, hj⟩⟩
      let μ : Act → World → Nat := fun a w' => Classical.epsilon fun k => I k a w' ∧ ∀ j, I j a w' → k ≤ j
      have hμ : ∀ a w', (∃ k, I k a w') → I (μ a w') a w' ∧ ∀ j, I j a w' → μ a w' ≤ j := fun a w' hex => Classical.epsilon_spec (hmin a w' hex)
      obtain ⟨hk, _, hmk⟩ := hm.canS (tm := kept s.tm ts) (fun _ _ h => kept_lk h) (nw := newN cx.bs s.ob (kept s.tm ts))
      refine wpIn_loop (fun a w' => ∃ k, I k a w') μ ⟨k0, PostM.of (Q := fun _ s' => Inv k0 s') hk0 hmk⟩ ?_
      intro a w' hex
      obtain ⟨⟨ms, hnd, hdf, s', φ', h', hinv, hm'⟩, _⟩ := hμ a w' hex
      generalize hkk : μ a w' = kk at hinv
      obtain ⟨tm, df⟩ := a
      simp only at hdf
      subst hdf
      refine wpIn_mono (ih sb hc' (cx.more ms) (ms.map mkd ++ ds) rfl rfl hgl (hro.more ms) _ s' φ' h' tm w' hm' (hround kk s' hinv)) ?_
      intro e a2 w2 hp
      obtain ⟨ms2, hnd2, hdf2, s2, φ2, h2, hq, hm2⟩ := hp.after hnd
      cases e <;> try exact ⟨ms2, hnd2, hdf2, s2, φ2, h2, hq, hm2⟩
      obtain ⟨k', hlt, hinv'⟩ := hq
      obtain ⟨hk2, _, hmk2⟩ := hm2.canS (tm := kept s2.tm ts) (fun _ _ h => kept_lk h) (nw := newN cx.bs s2.ob (kept s2.tm ts))
      have hI : I k' a2 w2 := ⟨ms2, hnd2, hdf2, s2.canon cx.bs ts, φ2, hk2, hinv', hmk2⟩
      exact ⟨⟨k', hI⟩, by have := (hμ a2 w2 ⟨k', hI⟩).2 k' hI; omega⟩
  | rangeFunc g ps ca cb iha ihb =>
    intro sc hc cx ds hN hbs hgl hro Q s φ h tmps w hm hs
    subst hN
    subst hbs
    simp only [compC] at hc
    split at hc
    · rename_i g' a b hg ha hb
      cases hc
      exact rangeF_sound hF hgl hro hg ha hb hm hs
    · cases hc
  | scope => intro sc hc; cases hc
  | label => intro sc hc; cases hc
  | goto => intro sc hc; cases hc
  | refuse => intro sc hc; cases hc

end
end Go.Sx
