/- Own work: a layer over the kit: plain data, a walk over it, its soundness. -/
import Derived.Test.YtdkbjkccpnhjgaaDoorSxO
set_option linter.unusedSectionVars false
set_option linter.unusedVariables false
set_option linter.unusedSimpArgs false
set_option linter.deprecated false
namespace Go.Sx
open Go.RowKit
variable [Globs] [Codes]

section
variable {cx : Cx} {s s' : St} {φ φ' : Mem} {h : Nat → Value} {tmps : Array Value} {w w' : World}

/-- What is forgotten is no longer known. -/
theorem Mod.weaken (hm : Mod cx s φ h tmps w) (h1 : ∀ t d, lk s'.tm t = some d → lk s.tm t = some d) (h2 : ∀ i o, lk s'.ob i = some o → lk s.ob i = some o) : Mod cx s' φ h tmps w := by
  have h3 : ∀ i, (lk s'.ob i).isSome → (lk s.ob i).isSome := fun i hi => by
    obtain ⟨o, ho⟩ := Option.isSome_iff_exists.1 hi
    rw [h2 i o ho]; rfl
  exact ⟨hm.size, fun t d hd => hm.tm t d (h1 t d hd), hm.mem, hm.ext, hm.new, fun i o ho => hm.ob i o (h2 i o ho), fun i j b hi hj => hm.sep i j b (h3 i hi) (h3 j hj), hm.os, hm.tape, hm.output, hm.grow, hm.one, hm.frame, hm.hfix, fun b o hb => ⟨(hm.kept b o hb).1, (hm.kept b o hb).2.1, fun i hi => (hm.kept b o hb).2.2 i (h3 i hi)⟩⟩

theorem Mod.grown (hm : Mod cx s φ h tmps w) (hb : Below w.heap.size w w') (hmono : ∀ b o u, φ b o = some u → φ' b o = some u) (hsub : Sub φ' w') (hnew : ∀ b o u, φ' b o = some u → φ b o = none → w.heap.size ≤ b) :
    Mod cx s φ' h tmps w' := by
  refine ⟨hm.size, fun t d hd => (hm.tm t d hd).mono hmono, hsub, fun b o v hb => hmono b o v (hm.ext b o v hb), fun b o u hu h0 => ?_, fun i o ho => ?_, hm.sep, hb.os.trans hm.os, hb.tape.trans hm.tape, hb.output.trans hm.output,
    Nat.le_trans hm.grow hb.size, hm.one, fun b h1 h2 => ?_, hm.hfix, fun b o hbk => ?_⟩
  · cases hq : φ b o with
    | some u' => exact hm.new b o u' hq h0
    | none => exact .inl (Nat.le_trans hm.grow (hnew b o u hu hq))
  · have hob := hm.ob i o ho
    exact hob.keep (fun _ hb => hb) (fun b hbk => hb.block b (hob.blk_lt hbk).1) hmono (fun b hbk off => phi_same hmono hnew (hob.blk_lt hbk).1 off) (fun v d _ r => r.mono hmono)
  · rw [hb.block b (Nat.lt_of_lt_of_le h1 hm.grow)]
    exact hm.frame b h1 h2
  · obtain ⟨h1, h2, h3⟩ := hm.kept b o hbk
    have hlt := (Array.getElem?_eq_some_iff.1 h1).1
    exact ⟨by rw [hb.block b hlt]; exact h1, fun off => by rw [phi_same hmono hnew hlt off]; exact h2 off, h3⟩

theorem Mod.drew (hm : Mod cx s φ h tmps w) : Mod cx s φ h tmps w.drew :=
  hm.grown ((Below.refl _ w).drew) (fun _ _ _ h => h) hm.mem (fun _ _ _ h h' => by rw [h] at h'; cases h')

theorem Mod.glob (hm : Mod cx s φ h tmps w) (hg : GlobOK cx.φ0) : GlobOK φ := fun g cs hgc => (hg g cs hgc).mono hm.ext

theorem fptr_noH {v : Value} {cs : List D} (r : RV φ noH v (.fptr cs)) : RV φ h v (.fptr cs) := by
  obtain ⟨b, o, vals, rfl, h1, h2⟩ := r.fptr_inv
  exact .fptr b o cs vals h1 h2

theorem Mod.get (hm : Mod cx s φ h tmps w) (hg : GlobOK cx.φ0) {ds : List Deferred} {x : Operand} {y : X} (hx : compX x = some y) : RV φ h (Act.eval ⟨tmps, ds⟩ x) (s.get y) := by
  cases x with
  | tmp t =>
    cases hx
    simp only [Act.eval, St.get]
    cases hl : lk s.tm t with
    | none => exact .undef _
    | some d => exact hm.tm t d hl
  | const v => cases hx; exact rv_const φ h v
  | func f => cases hx; exact .func _ _ _ _ _ rfl rfl (by simp) (by simp)
  | global g =>
    simp only [compX] at hx
    cases hq : Globs.G g with
    | none => rw [hq] at hx; cases hx
    | some cs => rw [hq] at hx; cases hx; exact fptr_noH (hm.glob hg g cs hq)

theorem Mod.gets (hm : Mod cx s φ h tmps w) (hg : GlobOK cx.φ0) {ds : List Deferred} : ∀ {xs : List Operand} {ys : List X}, xs.mapM compX = some ys → RVL φ h (xs.map (Act.eval ⟨tmps, ds⟩)) (ys.map s.get)
  | [], ys, hx => by simp at hx; subst hx; trivial
  | x :: xs, ys, hx => by
    simp only [List.mapM_cons, Option.bind_eq_bind, Option.bind_eq_some_iff, Option.pure_def, Option.some.injEq] at hx
    obtain ⟨y, h1, ys', h2, rfl⟩ := hx
    exact ⟨hm.get hg h1, hm.gets hg h2⟩

theorem men_const (i : Nat) (v : Value) : D.men i (constD v) = false := by
  unfold constD
  split <;> rfl

theorem men_get {t : Nat} (hcl : s.clean t = true) {x : Operand} {y : X} (hx : compX x = some y) : D.men t (s.get y) = false := by
  cases x with
  | tmp n =>
    cases hx
    simp only [St.get]
    cases hl : lk s.tm n with
    | none => rfl
    | some d => exact St.clean_tm hcl hl
  | const v => cases hx; exact men_const t v
  | func f => cases hx; rfl
  | global g =>
    simp only [compX] at hx
    cases hq : Globs.G g with
    | none => rw [hq] at hx; cases hx
    | some cs => rw [hq] at hx; cases hx; rfl

theorem men_gets {t : Nat} (hcl : s.clean t = true) : ∀ {xs : List Operand} {ys : List X}, xs.mapM compX = some ys → D.menL t (ys.map s.get) = false
  | [], ys, hx => by simp at hx; subst hx; rfl
  | x :: xs, ys, hx => by
    simp only [List.mapM_cons, Option.bind_eq_bind, Option.bind_eq_some_iff, Option.pure_def, Option.some.injEq] at hx
    obtain ⟨y, h1, ys', h2, rfl⟩ := hx
    simp only [List.map_cons, D.menL, men_get hcl h1, men_gets hcl h2, Bool.or_self]

theorem look_put {α : Type} (t : Nat) (d : α) (l : List (Nat × α)) (i : Nat) : lk ((t, d) :: eraseId t l) i = lk ((t, d) :: l) i := by
  simp only [lk]
  split
  · rfl
  · rename_i hi; rw [look_erase, if_neg hi]

theorem gen_one {own : Nat → Prop} {hv : Value} {g : Gen} {ds : List D} (hob : ObR own φ h w hv (.gen g ds)) : hv.oneCell' = true := by
  obtain ⟨b, vals, o, _, _, _, hg, _⟩ := hob
  cases g with
  | loop => obtain ⟨⟨b, rfl⟩, _⟩ := hg; rfl
  | map => obtain ⟨⟨b, rfl⟩, _⟩ := hg; rfl

theorem dva_sound {own : Nat → Prop} {obs : Nat → Option Ob} (hobs : ∀ i ob, obs i = some ob → ObR own φ h w (h i) ob) {v : Value} {d : D} (r : RV φ h v d) : RV φ h v (dva obs d) := by
  unfold dva
  split
  · split
    · rename_i ho
      rw [r.vec_inv]; exact .pure (ob_rep (hobs _ _ ho))
    · exact r
  · rw [r.nils_inv]; exact .pure .nil
  · exact r

theorem RVL_dva {own : Nat → Prop} (hobs : ∀ i ob, lk s.ob i = some ob → ObR own φ h w (h i) ob) : ∀ {vs : List Value} {xs : List X}, RVL φ h vs (xs.map s.get) → RVL φ h vs (xs.map fun x => dva (lk s.ob) (s.get x))
  | [], [], _ => trivial
  | v :: vs, x :: xs, hr => ⟨dva_sound hobs hr.1, RVL_dva hobs hr.2⟩
  | [], _ :: _, hr => hr.elim
  | _ :: _, [], hr => hr.elim

/-- A temporary is written. -/
theorem Mod.setTmp (hm : Mod cx s φ h tmps w) {dst : Nat} {d : D} {v : Value} (hd : dst < cx.N) (hr : RV φ h v d) : Mod cx { s with tm := (dst, d) :: s.tm } φ h (tmps.setIfInBounds dst v) w := by
  have := hm.astep (dst := dst) (id := cx.bs) (d := d) (nb := none) (v := v) (hv := Go.undef) ⟨Below.refl _ _, fun _ _ _ h => h, hm.mem, (fun _ _ _ h h' => by rw [h] at h'; cases h'), hr, (fun _ h => by cases h)⟩ hd (Nat.le_refl _)
    (fun h => absurd rfl h) (fun h => absurd rfl h) (fun h => absurd rfl h)
  exact this

def NextM (cx : Cx) (ds : List Deferred) (K : St → Prop) (a : Act) (w' : World) : Prop := a.defers = ds ∧ ∃ s' φ' h', K s' ∧ Mod cx s' φ' h' a.tmps w'

/-- THE STEP OF THE STATE IS A STEP OF THE MACHINE. -/
theorem clean_erase {i id : Nat} {s : St} (h : s.clean i = true) : St.clean i ⟨s.tm, eraseId id s.ob⟩ = true := by
  simp only [St.clean, Bool.and_eq_true] at h ⊢
  refine ⟨h.1, ?_⟩
  have h2 := h.2
  clear h
  generalize s.ob = l at *
  induction l with
  | nil => rfl
  | cons p l ih =>
    obtain ⟨j, o⟩ := p
    simp only [List.all_cons, Bool.and_eq_true] at h2
    simp only [eraseId]
    split
    · exact ih h2.2
    · simp only [List.all_cons, Bool.and_eq_true]; exact ⟨h2.1, ih h2.2⟩

theorem RVL_ren {nm : List Nat} : ∀ {vs : List Value} {xs : List D}, RVL φ h vs xs → RVL φ (hcal h nm) vs (xs.map (D.ren (idx · nm)))
  | [], [], _ => trivial
  | _ :: _, _ :: _, hr => ⟨ren_hand hr.1, RVL_ren hr.2⟩
  | [], _ :: _, hr => hr.elim
  | _ :: _, [], hr => hr.elim

theorem step_sound {F : Fence} (hF : Fence.Open F) {n : Nat} {P : Program} {fz : Bool} {ops : Array Oper} {o : Oper} {so : SOp} {K : St → Prop} {Q : Exit → Act → World → Prop} {ds : List Deferred} {bt : Nat → Bool} {bs : Nat} (hbs : cx.bs ≤ bs) (hgl : GlobOK cx.φ0) (hc : compO P bt fz ops o = some so)
    (hd : ∀ d, o.dst = some d → d < cx.N) (hm : Mod cx s φ h tmps w) (hst : stp P bs so s K) :
    if Region.wanted o (yielded ops tmps) then o.wpIn F n P ⟨tmps, ds⟩ w (NextM cx ds K) Q
    else (∀ f, o.about P w (Act.eval ⟨tmps, ds⟩) = some f → F.fn f) ∧ NextM cx ds K (Act.put ⟨tmps, ds⟩ o.dst Go.undef) w := by
  have hundef : ∀ dst : Option Nat, (∀ d, dst = some d → d < cx.N) → Mod cx (s.put dst .nov) φ h (Act.put ⟨tmps, ds⟩ dst Go.undef).tmps w := fun dst hdd => by
    cases dst with
    | none => exact hm
    | some t =>
      have := hm.astep (dst := t) (id := cx.bs) (d := .nov) (nb := none) (v := Go.undef) (hv := Go.undef) ⟨Below.refl _ _, fun _ _ _ h => h, hm.mem, (fun _ _ _ h h' => by rw [h] at h'; cases h'), .tuple #[] [] rfl (by simp), (fun _ h => by cases h)⟩ (hdd t rfl) (Nat.le_refl _)
        (fun h => absurd rfl h) (fun h => absurd rfl h) (fun h => absurd rfl h)
      exact this.weaken (fun i d hi => by simp only [St.put, look_put] at hi; exact hi) (fun i o hi => hi)
  unfold compO at hc
  cases hg : guardOf ops o with
  | none => rw [hg] at hc; cases hc
  | some g =>
  rw [hg] at hc
  -- the guard
  have hguard : ∀ {body skip : Prop}, gud g s body skip → (Region.wanted o (yielded ops tmps) = true ∧ body) ∨ (Region.wanted o (yielded ops tmps) = false ∧ skip) := fun {body skip} hgd => by
    unfold guardOf at hg
    cases hog : o.guard with
    | none =>
      rw [hog] at hg
      cases hg
      exact .inl ⟨by simp [Region.wanted, hog], hgd⟩
    | some jw =>
      obtain ⟨j, want⟩ := jw
      rw [hog] at hg
      simp only [] at hg
      cases hj : (ops[j]?).bind (·.dst) with
      | none => rw [hj] at hg; cases hg
      | some t =>
        rw [hj] at hg
        cases hg
        simp only [gud] at hgd
        split at hgd
        · rename_i b hb
          have hv : tmps.getD t Go.undef = .bool b := (hm.tm t _ hb).bool_inv
          have ht : tmps[t]? = some (.bool b) := by
            cases hq : tmps[t]? with
            | none => simp [Array.getD_eq_getD_getElem?, hq, Go.undef] at hv
            | some v => simp [Array.getD_eq_getD_getElem?, hq] at hv; rw [hv]
          have hy : yielded ops tmps j = some b := by simp [yielded, hj, ht]
          split at hgd
          · rename_i hbw; exact .inl ⟨by simp [Region.wanted, hog, hy, hbw], hgd⟩
          · rename_i hbw; exact .inr ⟨by simp [Region.wanted, hog, hy, hbw], hgd⟩
        · rename_i hb
          obtain ⟨vs, hv, hvs, _⟩ := (hm.tm t _ hb).tuple_inv
          have hv0 : tmps.getD t Go.undef = .tuple #[] := by
            rw [hv]; congr 1; exact Array.eq_empty_of_size_eq_zero (by simpa using hvs)
          have hy : yielded ops tmps j = none := by
            cases hq : tmps[t]? with
            | none => simp [yielded, hj, hq]
            | some v =>
              have : v = .tuple #[] := by simpa [Array.getD_eq_getD_getElem?, hq] using hv0
              simp [yielded, hj, hq, this]
          exact .inr ⟨by simp [Region.wanted, hog, hy], hgd⟩
        · exact hgd.elim
  have other : (match compA P fz o with
      | some (op, xs) => (xs.mapM compX).map fun xs => SOp.a o.dst g op xs
      | none => none) = some so → if Region.wanted o (yielded ops tmps) then o.wpIn F n P ⟨tmps, ds⟩ w (NextM cx ds K) Q
    else (∀ f, o.about P w (Act.eval ⟨tmps, ds⟩) = some f → F.fn f) ∧ NextM cx ds K (Act.put ⟨tmps, ds⟩ o.dst Go.undef) w := by
    intro hc
    split at hc
    · rename_i op xs hca
      cases hxs : xs.mapM compX with
      | none => rw [hxs] at hc; cases hc
      | some ys =>
        rw [hxs] at hc
        cases hc
        have hnd : ∀ c, o.op ≠ .defer c := fun c hdf => by
          unfold compA at hca
          rw [hdf] at hca
          cases hca
        rcases hguard hst with ⟨hw, hb⟩ | ⟨hw, hk⟩
        · rw [if_pos hw]
          refine OpOut.wpIn hF hnd (compA_sound (own := cx.own) (obs := lk s.ob) hca (fun f => rfl) hm.one (hm.glob hgl) hm.mem (fun i ob hi _ => hm.ob i ob hi) (hm.gets hgl hxs) ?_ hb) ?_
          · intro d ob hk
            cases hdst : o.dst with
            | none => rw [hdst] at hk; exact hk.elim
            | some t => rw [hdst] at hk; exact men_gets hk.1 hxs
          · rintro v w' ⟨d, nb, φ', hv, hk, hstep⟩
            cases hdst : o.dst with
            | none =>
              rw [hdst] at hk
              cases nb with
              | none => exact ⟨rfl, s, φ', h, hk, hm.grown hstep.below hstep.mono hstep.mem hstep.new⟩
              | some ob => exact hk.elim
            | some t =>
              rw [hdst] at hk hstep
              cases nb with
              | none =>
                have := hm.astep hstep (hd t hdst) (Nat.le_trans hbs (Nat.le_add_right _ _)) (fun h => absurd rfl h) (fun h => absurd rfl h) (fun h => absurd rfl h)
                exact ⟨rfl, _, φ', h, hk, this.weaken (fun i d hi => by simp only [St.put, look_put] at hi; exact hi) (fun i o hi => hi)⟩
              | some ob =>
                have hone : hv.oneCell' = true := by
                  have hob := hstep.ob ob rfl
                  cases ob with
                  | cells cs => obtain ⟨b, vals, e, rfl, _⟩ := hob; rfl
                  | arr fz sz e es =>
                    obtain ⟨a, c, rfl⟩ := ob_arr_val hob
                    rfl
                  | gen gg gds => exact gen_one hob
                have := hm.astep hstep (hd t hdst) (Nat.le_trans hbs (Nat.le_add_right _ _)) (fun _ _ _ h => St.clean_tm hk.1 h) (fun _ _ _ h => St.clean_ob hk.1 h) (fun _ => hone)
                exact ⟨rfl, _, φ', _, hk.2, this.weaken (fun i d hi => by simp only [St.put2, look_put] at hi; exact hi) (fun i o hi => by simp only [St.put2, look_put] at hi; exact hi)⟩
        · rw [if_neg (by rw [hw]; simp)]
          exact ⟨fun f _ => hF.fn f, by cases o.dst <;> rfl, _, φ, h, hk, hundef o.dst hd⟩
    · cases hc

  simp only [] at hc
  split at hc
  · -- a store
    rename_i t x y ho
    split at hc
    · rename_i sz x' y' hs hx hy hdst
      cases hc
      rcases hguard hst with ⟨hw, hb⟩ | ⟨hw, hk⟩
      · rw [if_pos hw]
        split at hb
        · rename_i id off hx'
          split at hb
          · rename_i cs hl
            obtain ⟨h1, h2, h3, hk⟩ := hb
            have hxv := hm.get hgl (ds := ds) hx
            rw [hx'] at hxv
            obtain ⟨w', he, hm'⟩ := store_sound (o := o) (ρ := Act.eval ⟨tmps, ds⟩) ho hs hm hxv (hm.get hgl hy) hl h1 h2 h3
            refine wpIn_skipped hF (by rw [ho]; intro c h; cases h) he ⟨by rw [hdst]; rfl, _, φ, h, hk, ?_⟩
            rw [hdst]
            exact hm'.weaken (fun _ _ h => h) (fun i o' hi => by simp only [look_put] at hi; exact hi)
          · exact hb.elim
        · exact hb.elim
      · rw [if_neg (by rw [hw]; simp)]
        exact ⟨fun f _ => hF.fn f, by rw [hdst]; rfl, s, φ, h, hk, by rw [hdst]; exact hm⟩
    · cases hc
  · -- an append
    rename_i args ts ho
    split at hc
    · rename_i dst x y t u hdst hargs hts
      split at hc
      · rename_i e x' y' hu hx hy
        split at hc
        · rename_i i z hi hz
          split at hc
          · rename_i hcond
            obtain ⟨rfl, hsz, hby⟩ := hcond
            cases hc
            have hargs' : args = #[x, y] := Array.ext' hargs
            have hts' : ts = #[t, t] := Array.ext' hts
            subst hargs'
            subst hts'
            obtain ⟨i', zv, hi', hzv, hzs, _⟩ := zeroOf_spec hz
            rw [hi] at hi'
            cases hi'
            rcases hguard hst with ⟨hw, hb⟩ | ⟨hw, hk⟩
            · rw [if_pos hw]
              split at hb
              · rename_i ys ext hso
                obtain ⟨hyl, hb⟩ := hb
                have hyv : Rep φ (Act.eval ⟨tmps, ds⟩ y) (.slice ys ext) := by
                  have hyr := hm.get hgl (ds := ds) hy
                  generalize s.get y' = dy at *
                  cases dy <;> simp only [sliceOf] at hso <;> try (cases hso; done)
                  case slice => cases hso; exact hyr.slice_inv
                  case vec id =>
                    split at hso
                    · rename_i sz' e' es' hob
                      cases hso
                      have hv := hyr.vec_inv
                      rw [hv]; exact ob_rep (hm.ob id _ hob)
                    · cases hso
                  case nils => cases hso; rw [hyr.nils_inv]; exact .nil
                have hbts : ∀ k : Nat, k ≤ 1073741824 → k ≤ maxLen ∧ k * i.bytes ≤ 140737488355328 := fun k hk => by
                  refine ⟨by unfold maxLen; omega, ?_⟩
                  calc k * i.bytes ≤ 1073741824 * 131072 := Nat.mul_le_mul hk hby
                    _ = 140737488355328 := rfl
                have finish : ∀ {s1 : St} {fz' : Bool} {es : List (List D)}, Mod cx s1 φ h tmps w → s1.clean (bs + dst) = true → ObR cx.own φ h w (Act.eval ⟨tmps, ds⟩ x) (.arr fz' i.size e es) →
                    (∀ j b, (lk s1.ob j).isSome → blk (h j) = some b → blk (Act.eval ⟨tmps, ds⟩ x) ≠ some b) → (∀ b, blk (Act.eval ⟨tmps, ds⟩ x) = some b → ¬ (cx.kp b).isSome) → es.length + ys.length ≤ 1073741824 → K (s1.put2 dst (bs + dst) (.vec (bs + dst)) (.arr fz' i.size e (es ++ ys))) →
                    o.wpIn F n P ⟨tmps, ds⟩ w (NextM cx ds K) Q := fun {s1 fz' es} hm1 hcl hob hfree hnk hlen hk => by
                  obtain ⟨v', w', φ', hrun, hm'⟩ := append_core (P := P) (ty := o.type) (dst := dst) (id := bs + dst) hu hi hzv rfl rfl hzs hsz hm1 (hd dst hdst) (Nat.le_trans hbs (Nat.le_add_right _ _)) hcl hob hfree hnk hyv hyl (hbts _ hlen).1 (hbts _ hlen).2
                  have hex : (execOp (Act.eval ⟨tmps, ds⟩) o).run P w = .ok (.value v') w' := by
                    refine exec_builtin ho ?_
                    simp [builtin, hrun]
                  refine OpOut.wpIn hF (by rw [ho]; intro c h; cases h) (R := fun v w2 => v = v' ∧ w2 = w') (.inl ⟨v', w', hex, rfl, rfl⟩) ?_
                  rintro v2 w2 ⟨e1, e2⟩
                  rw [e1, e2]
                  refine ⟨by rw [hdst]; rfl, _, φ', updH h (bs + dst) v', hk, ?_⟩
                  rw [hdst]
                  exact hm'.weaken (fun j d hj => by simp only [St.put2, look_put] at hj; exact hj) (fun j d hj => by simp only [St.put2, look_put] at hj; exact hj)
                split at hb
                · rename_i hxd
                  obtain ⟨h1, h2, hk⟩ := hb
                  have hxv := hm.get hgl (ds := ds) hx
                  rw [hxd] at hxv
                  have hx0 := hxv.nils_inv
                  refine finish (s1 := s) (es := []) hm h2 ?_ ?_ (by rw [hx0]; intro b hb; cases hb) (by simpa using h1) (by simpa using hk)
                  · rw [hx0]
                    exact ⟨hsz, by simp, [], World.ownsRow_nil w 0 e i.size, by simp, fun b hb => by cases hb⟩
                  · intro j b _ _ hb; rw [hx0] at hb; cases hb
                · rename_i id hxd
                  have hxv := hm.get hgl (ds := ds) hx
                  rw [hxd] at hxv
                  have hx0 := hxv.vec_inv
                  split at hb
                  · rename_i fz' sz' e' es hob
                    obtain ⟨rfl, rfl, h1, h2, hk⟩ := hb
                    refine finish (s1 := ⟨s.tm, eraseId id s.ob⟩) (hm.weaken (fun _ _ h => h) fun i o hi => ?_) (clean_erase h2) ?_ ?_ ?_ h1 hk
                    · rw [look_erase] at hi
                      split at hi
                      · cases hi
                      · exact hi
                    · rw [hx0]; exact hm.ob id _ hob
                    · intro j b hj hbj hbx
                      rw [hx0] at hbx
                      rw [look_erase] at hj
                      split at hj
                      · cases hj
                      · rename_i hne
                        exact hne (hm.sep j id b hj (by simp [hob]) hbj hbx)
                    · intro b hb hkb
                      rw [hx0] at hb
                      obtain ⟨ko, hko⟩ := Option.isSome_iff_exists.1 hkb
                      exact (hm.kept b ko hko).2.2 id (by simp [hob]) hb
                  · exact hb.elim
                · exact hb.elim
              · exact hb.elim
            · rw [if_neg (by rw [hw]; simp)]
              exact ⟨fun f _ => hF.fn f, by rw [hdst]; rfl, _, φ, h, hk, by rw [hdst]; exact hundef (some dst) (fun d hd' => by cases hd'; exact hd dst hdst)⟩
          · cases hc
        · cases hc
      · cases hc
    · cases hc
  · -- a call
    rename_i c _ ho
    split at hc
    · rename_i cx' cxs hcd
      split at hc
      · rename_i x' xs' hx hxs
        cases hc
        -- the value called and the arguments
        have hcall : ∃ g', c.callee = .value g' ∧ cx' = g' ∧ cxs = c.args.toList := by
          obtain ⟨cal, args, ts⟩ := c
          unfold compCd at hcd
          cases cal with
          | value g' =>
            cases g' <;> simp only [] at hcd <;> first | (split at hcd; all_goals first | (cases hcd; exact ⟨_, rfl, rfl, rfl⟩) | cases hcd) | (cases hcd; exact ⟨_, rfl, rfl, rfl⟩)
          | builtin b => cases hcd
          | invoke _ _ => cases hcd
        obtain ⟨g', hg', rfl, rfl⟩ := hcall
        rcases hguard hst with ⟨hw, hb⟩ | ⟨hw, hk⟩
        · rw [if_pos hw]
          obtain ⟨nm, R, base, hnd, hin, hb1, hb2, hcd2, hK⟩ := hb
          have hrun : (execOp (Act.eval ⟨tmps, ds⟩) o).run P w = (callv (Act.eval ⟨tmps, ds⟩ cx') (c.args.map (Act.eval ⟨tmps, ds⟩))).run P w := by
            simp only [execOp, ho, resolve, hg', callv]
          have hargs : RVL φ h (c.args.map (Act.eval ⟨tmps, ds⟩)).toList (xs'.map fun x => dva (lk s.ob) (s.get x)) := by
            have := hm.gets hgl (ds := ds) hxs
            rw [Array.toList_map]
            exact RVL_dva (own := cx.own) (fun i ob hi => hm.ob i ob hi) this
          have hout := hcd2 F hF n φ (hcal h nm) w _ _ (hm.loc (hm.glob hgl) hnd) (ren_hand (hm.get hgl (ds := ds) hx)) (RVL_ren hargs)
          rw [← hrun] at hout
          refine ⟨fun f _ => hF.fn f, ?_⟩
          rw [Oper.semAt_eq _ _ _ (by rw [ho]; intro c h; cases h)]
          have fin : ∀ e w', Post (handO s.ob (idx · nm) 0 nm) φ (hcal h nm) w R e w' → ∃ v, e = .returned v ∧ NextM cx ds K (Act.put ⟨tmps, ds⟩ o.dst v) w' := by
            rintro e w' ⟨v, r, ob', φ', h', rfl, hR, hrv, ha⟩
            obtain ⟨q6, q5⟩ := hm.back (base := base) (by omega) hb2 hnd hin ha
            refine ⟨v, rfl, by cases o.dst <;> rfl, _, φ', hbak h h' base, hK r ob' hR, ?_⟩
            cases hdst : o.dst with
            | none => exact q6
            | some t => exact (q6.setTmp (hd t hdst) (q5 v r hrv)).weaken (fun i d hi => by simp only [St.put, look_put] at hi; exact hi) (fun i o hi => hi)
          unfold DynOut at hout
          split at hout
          · rename_i f a w1 hrr
            rw [hrr, Oper.uponIn_enter]
            refine ⟨(fun h => by rw [hF.depth] at h; cases h), CallsIn.mono (hF.lessCall hout) ?_⟩
            intro e w' hp
            obtain ⟨v, rfl, hn⟩ := fin e w' hp
            exact hn
          · rename_i l f a asg body w1 hrr
            rw [hrr, Oper.uponIn_round]
            refine ⟨(fun h => by rw [hF.depth] at h; cases h), RoundIn.mono (hF.lessRound hout) ?_⟩
            intro e w' hp
            obtain ⟨v, rfl, hn⟩ := fin e w' hp
            exact hn
          · exact hout.elim
        · rw [if_neg (by rw [hw]; simp)]
          exact ⟨fun f _ => hF.fn f, by cases o.dst <;> rfl, _, φ, h, hk, hundef o.dst hd⟩
      · cases hc
    · exact other hc
  · exact other hc

end
end Go.Sx
