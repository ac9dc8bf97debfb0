/- Own work: a layer over the kit: plain data, a walk over it, its soundness. -/
import Derived.Test.YtdkbjkccpnhjgaaDoorSxQa
set_option linter.unusedSectionVars false
set_option linter.unusedVariables false
set_option linter.unusedSimpArgs false
set_option linter.deprecated false
namespace Go.Sx
open Go.RowKit
variable [Globs] [Codes]

section
variable {P : Program} {F : Fence} {n : Nat}

theorem func_inv {φ : Mem} {h : Nat → Value} {v : Value} {f : Fn} {a c : List D} (r : RV φ h v (.func f a c)) : ∃ va vc : Array Value, v = .func f va vc ∧ va.size = a.length ∧ vc.size = c.length ∧
    (∀ j d, a[j]? = some d → RV φ h (va.getD j Go.undef) d) ∧ ∀ j d, c[j]? = some d → RV φ h (vc.getD j Go.undef) d := by
  cases r with
  | pure r => cases r
  | func _ vf vc _ _ hf hc h1 h2 => exact ⟨vf, vc, rfl, hf, hc, h1, h2⟩

theorem run_callv_func {f : FuncId} {va vc vs : Array Value} {w : World} (hp : pureF P f = true) : (callv (.func (.func f) va vc) vs).run P w = .ok (.enter f (va ++ vs ++ vc)) w := by
  obtain ⟨fn, hf, hb, hn⟩ := pureF_spec hp
  simp only [callv, Deferred.ofValue, invoke, Sem.run_bind, Sem.run_pure, Result.andThen_ok, callFunc, run_program, hf, hn, hb, Bool.false_eq_true, if_false]

theorem rangeF_sound [CodesOf P] (hF : Fence.Open F) {cx : Cx} (hgl : GlobOK cx.φ0) (hro : InRound F cx) {ds : List Deferred} {ps : Array Tmp} {hi : Hints} {g : Operand} {ca cb : Code} {g' : X} {a b : SC} (hg : compX g = some g') (ha : compC P cx.N hi ca = some a) (hb : compC P cx.N hi cb = some b)
    {Q : Exit → St → Prop} {s : St} {φ : Mem} {h : Nat → Value} {tmps : Array Value} {w : World} (hm : Mod cx s φ h tmps w) (hs : sw P cx.bs (.rangeF cx.N g' ps a b) Q s) :
    (Code.rangeFunc g ps ca cb).wpIn F n P (PostM cx ds Q) ⟨tmps, ds⟩ w := by
  obtain ⟨nm, R, hnd, hin, ⟨f, fa, fc, hgf, hpf⟩, hcall, hK⟩ := hs
  generalize hrid : s.nx cx.bs = rid at *
  have h3 : cx.bs ≤ rid := by rw [← hrid]; exact Nat.le_max_left _ _
  have htop : s.top ≤ rid := by rw [← hrid]; exact Nat.le_max_right _ _
  have h4 : Env.top s.tm ≤ rid := Nat.le_trans (Nat.le_max_left _ _) htop
  have h6 : Obs.top s.ob ≤ rid := Nat.le_trans (Nat.le_max_right _ _) htop
  refine wpIn_rangeFunc fun fn hfn => ?_
  -- the record is laid
  have lay : ∃ (l : Nat) (ms : List Nat) (w1 : World) (r0 : Loop), (ms.Nodup ∧ ∀ b ∈ ms, cx.kp b = none ∧ cx.w0.heap.size ≤ b) ∧ (Instr.enterLoop fn tmps ps ca cb F.round).run P w = .ok (l, ms.map mkd) w1 ∧ Mod (cx.more ms) s φ h tmps w1 ∧
      Mod (cx.more ms) ⟨s.tm, (rid, recd P .ready none cx.N ps a b s.tm) :: s.ob⟩ φ (updH h rid (.pointer (some ⟨l, 0, none⟩))) tmps w1 := by
    have hct : ∀ t d, lk s.tm t = some d → D.men rid d = false := fun t d hd => D.top_men rid d (Env.top_get h4 hd)
    have hco : ∀ t o, lk s.ob t = some o → Ob.men rid o = false := fun t o ho => (Obs.top_men h6 ho).2
    have newrec : ∀ {cx2 : Cx} {w2 : World} {r0 : Loop}, cx2.bs = cx.bs → Mod cx2 s φ h tmps w2 → r0.state = .ready → r0.pending = none → r0.params = ps → r0.assign = ca → r0.body = cb → r0.tmps = tmps →
        Mod cx2 ⟨s.tm, (rid, recd P .ready none cx.N ps a b s.tm) :: s.ob⟩ φ (updH h rid (.pointer (some ⟨w2.heap.size, 0, none⟩))) tmps (w2.alloc (.loop r0)) := fun {cx2 w2 r0} hbs hm2 q1 q2 q3 q4 q5 q6 => by
      refine hm2.newOb (by rw [hbs]; exact h3) hct hco rfl ((Below.refl _ w2).alloc (Nat.le_refl _) _) ?_
      refine ⟨w2.heap.size, (s.tm.map (·.1)).map fun t => tmps.getD t Go.undef, .loop r0, rfl, Nat.le_refl _, World.alloc_heap_new w2 _, ⟨⟨_, rfl⟩, r0, rfl, q1, q2, q3, ?_, ?_, ?_, by rw [q6]⟩, by simp, fun j d hd => ?_, fun off => ?_⟩
      · rw [q4]; exact (CodesOf.ci (P := P) _ _ _).2 ⟨hi, ha⟩
      · rw [q5]; exact (CodesOf.ci (P := P) _ _ _).2 ⟨hi, hb⟩
      · rw [q6]; exact hm.size
      · simp only [List.getElem?_map] at hd
        cases hq : s.tm[j]? with
        | none => rw [hq] at hd; cases hd
        | some p =>
          rw [hq] at hd
          simp only [Option.map_some, Option.some.injEq] at hd
          subst hd
          simp only [List.map_map, List.getD, List.getElem?_map, hq, Option.map_some, Option.getD_some, Function.comp]
          have : RV φ h (tmps.getD p.1 Go.undef) ((lk s.tm p.1).getD .undef) := by
            cases hl : lk s.tm p.1 with
            | none => exact .undef _
            | some d => exact hm.tm p.1 d hl
          exact this.under (get?_lk_top h4 p.1) fun i hi => upd_other _ _ (by omega)
      · cases hq : φ w2.heap.size off with
        | none => rfl
        | some v => exact absurd (Sub.lt hm2.mem hq) (by omega)
    cases hr : F.round with
    | none =>
      have hmk := hm.mark
      refine ⟨w.heap.size + 1, [w.heap.size], _, { state := .ready, pending := none, fn, tmps, params := ps, assign := ca, body := cb, defers := w.heap.size }, ⟨by simp, ?_⟩, run_enterLoop_outer _ _ _ _ _, ?_, ?_⟩
      · intro b hb
        simp only [List.mem_singleton] at hb
        subst hb
        refine ⟨?_, hm.grow⟩
        cases hq : cx.kp w.heap.size with
        | none => rfl
        | some o => exact absurd (Array.getElem?_eq_some_iff.1 (hm.kept _ o hq).1).1 (by omega)
      · have hb := (Below.refl _ (w.alloc (.deferred (some [])))).alloc (Nat.le_refl _) (.loop { state := .ready, pending := none, fn, tmps, params := ps, assign := ca, body := cb, defers := w.heap.size })
        exact hmk.grown hb (fun _ _ _ h => h) (fun b o v hv => by rw [hb.cell (p := ⟨b, o, none⟩) (Sub.lt hmk.mem hv)]; exact hmk.mem b o v hv) (fun _ _ _ h h' => by rw [h] at h'; cases h')
      · have := newrec (cx2 := cx.more [w.heap.size]) (r0 := { state := .ready, pending := none, fn, tmps, params := ps, assign := ca, body := cb, defers := w.heap.size }) rfl hmk rfl rfl rfl rfl rfl rfl
        rw [World.size_alloc] at this
        exact this
    | some l0 =>
      obtain ⟨r, hkr⟩ := hro l0 hr
      have hl0 := (hm.kept l0 _ hkr).1
      refine ⟨w.heap.size, [], w.alloc (.loop { state := .ready, pending := none, fn, tmps, params := ps, assign := ca, body := cb, defers := r.defers }), { state := .ready, pending := none, fn, tmps, params := ps, assign := ca, body := cb, defers := r.defers }, ⟨by simp, by simp⟩, ?_, ?_, ?_⟩
      · unfold Instr.enterLoop
        simp only [Sem.run_bind, run_getLoop hl0, Result.andThen, Sem.run_pure, run_newObj_alloc, List.map_nil]
      · rw [Cx.more_nil]
        have hb := (Below.refl _ w).alloc (Nat.le_refl _) (.loop { state := .ready, pending := none, fn, tmps, params := ps, assign := ca, body := cb, defers := r.defers })
        exact hm.grown hb (fun _ _ _ h => h) (fun b o v hv => by rw [hb.cell (p := ⟨b, o, none⟩) (Sub.lt hm.mem hv)]; exact hm.mem b o v hv) (fun _ _ _ h h' => by rw [h] at h'; cases h')
      · rw [Cx.more_nil]
        exact newrec rfl hm rfl rfl rfl rfl rfl rfl
  obtain ⟨l, ms, w1, r0, hnd', henter, hm0, hm1⟩ := lay
  -- the value that is called
  have hgl' : GlobOK (cx.more ms).φ0 := hgl
  have hgv := hm0.get hgl' (ds := ds) hg
  rw [hgf] at hgv
  obtain ⟨va, vc, hve, _, _, _, _⟩ := func_inv hgv
  have hlink := run_callv_func (P := P) (va := va) (vc := vc) (vs := #[.func (.yield l) #[] #[]]) (w := w1) hpf
  have htop1 : St.top ⟨s.tm, (rid, recd P .ready none cx.N ps a b s.tm) :: s.ob⟩ ≤ rid + 1 := by
    simp only [St.top, Obs.top]
    have := recd_top (P := P) (st := .ready) (pend := none) (N := cx.N) (ps := ps) (a := a) (b := b) h4
    omega
  have hgv2 : RV φ (updH h rid (.pointer (some ⟨l, 0, none⟩))) (Act.eval ⟨tmps, ds⟩ g) (s.get g') := by
    have := hm0.get hgl' (ds := ds) hg
    refine this.under (n := rid) ?_ (fun i hi => upd_other _ _ (by omega))
    cases g' with
    | t t => exact get?_lk_top h4 t
    | c d =>
      cases g with
      | tmp t => cases hg
      | const v => cases hg; exact constD_top v rid
      | func f => cases hg; simp [St.get, D.top, D.topL]
      | global g =>
        simp only [compX] at hg
        cases hq : Globs.G g with
        | none => rw [hq] at hg; cases hg
        | some cs => rw [hq] at hg; cases hg; exact Nat.zero_le _
  have hyl : RV φ (updH h rid (.pointer (some ⟨l, 0, none⟩))) (.func (.yield l) #[] #[]) (.yld rid) := .yld rid l (upd_same _ _ _)
  have hout := hcall F hF (n - 1) φ _ w1 (Act.eval ⟨tmps, ds⟩ g) #[.func (.yield l) #[] #[]] (hm1.loc (hm1.glob hgl') hnd) (ren_hand hgv2) ⟨ren_hand hyl, trivial⟩
  rw [hve] at hout
  rw [hlink] at hout
  refine ⟨l, ms.map mkd, w1, { target := .fn (.func f) vc, args := va ++ #[.func (.yield l) #[] #[]] }, w1, f, va ++ #[.func (.yield l) #[] #[]] ++ vc, w1, henter, ?_, ?_, ?_, ?_, ?_⟩
  · have e : (rangeCall g l).args.map (Act.eval ⟨tmps, ds⟩) = #[.func (.yield l) #[] #[]] := by simp [rangeCall, Act.eval]
    simp only [resolve]
    rw [e]
    simp only [hve, Deferred.ofValue]
    exact Sem.run_pure _ _ _
  · intro f' _; exact hF.fn f'
  · obtain ⟨fn', hf', hb', hn'⟩ := pureF_spec hpf
    simp only [invoke, Sem.run_bind, Sem.run_pure, Result.andThen_ok, callFunc, run_program, hf', hn', hb', Bool.false_eq_true, if_false]
  · intro hd; rw [hF.depth] at hd; cases hd
  · refine CallsIn.mono hout ?_
    rintro e w3 ⟨v, r, ob', φ', h', rfl, hR, hrv, haft⟩
    obtain ⟨st, pend, ps', asg, body, N', keys, dd, hl', hst, hQ⟩ := hK r ob' hR
    obtain ⟨q6, _⟩ := hm1.back (base := rid + 1) (by show cx.bs ≤ rid + 1; omega) htop1 hnd hin haft
    have hob := q6.ob rid _ hl'
    have hhr : hbak (updH h rid (.pointer (some ⟨l, 0, none⟩))) h' (rid + 1) rid = .pointer (some ⟨l, 0, none⟩) := by
      simp only [hbak]; rw [if_neg (by omega)]; exact upd_same _ _ _
    rw [hhr] at hob
    obtain ⟨b0, vals, o, hb0, hown, hheap, hgis, _, _, hnone⟩ := hob
    cases hb0
    obtain ⟨_, r3, rfl, hst3, hpe3, _⟩ := hgis
    have hrunl := run_endLoop (P := P) hheap (by rw [hst3]; exact hst)
    refine ⟨pend, _, by rw [← hpe3]; exact hrunl, ?_⟩
    generalize hS : St.back ⟨s.tm, (rid, recd P .ready none cx.N ps a b s.tm) :: s.ob⟩ (rid + 1) nm ob' = S at *
    have hStm : S.tm = s.tm := by rw [← hS]; rfl
    -- the record is let go
    have hsub : ∀ i o, lk (eraseId rid S.ob) i = some o → lk S.ob i = some o ∧ i ≠ rid := fun i o ho => by
      rw [look_erase] at ho
      split at ho
      · cases ho
      · rename_i hne; exact ⟨ho, hne⟩
    have hmw : Mod (cx.more ms) ⟨s.tm, eraseId rid S.ob⟩ φ' (hbak (updH h rid (.pointer (some ⟨l, 0, none⟩))) h' (rid + 1)) tmps w3 := q6.weaken (fun _ _ h => by rw [hStm]; exact h) fun i o hi => (hsub i o hi).1
    have hlt := (Array.getElem?_eq_some_iff.1 hheap).1
    have hmf : Mod (cx.more ms) ⟨s.tm, eraseId rid S.ob⟩ φ' (hbak (updH h rid (.pointer (some ⟨l, 0, none⟩))) h' (rid + 1)) tmps (w3.putObj l (.loop { r3 with state := .exhausted })) := by
      refine hmw.world hown (fun i hi he => ?_) (gen_kp q6 (by rw [hl']; rfl) (by rw [hhr]; rfl)) rfl rfl rfl World.putObj_size (fun k hk => World.putObj_heap_other hk) (fun b o v hv => ?_)
      · obtain ⟨o, ho⟩ := Option.isSome_iff_exists.1 hi
        obtain ⟨h1, h2⟩ := hsub i o ho
        exact h2 (q6.sep i rid l (by rw [h1]; rfl) (by rw [hl']; rfl) he (by rw [hhr]; rfl))
      · have hbl : b ≠ l := fun e => by rw [e, hnone] at hv; cases hv
        rw [World.cell?_of_block (w := w3) (a := ⟨b, o, none⟩) (World.putObj_heap_other hbl)]
        exact hmw.mem b o v hv
    have fin : ∀ e, Q e ⟨s.tm, eraseId rid S.ob⟩ → PostM cx ds Q e ⟨tmps, ms.map mkd ++ ds⟩ (w3.putObj l (.loop { r3 with state := .exhausted })) := fun e hq => ⟨ms, hnd', rfl, _, φ', (hbak (updH h rid (.pointer (some ⟨l, 0, none⟩))) h' (rid + 1)), hq, hmf⟩
    split at hQ
    · exact fin .normal hQ
    · exact wpIn_ret (fin .ret hQ)
    · exact wpIn_exit (fin (.exit _) hQ)
    · exact hQ.elim

end
end Go.Sx
