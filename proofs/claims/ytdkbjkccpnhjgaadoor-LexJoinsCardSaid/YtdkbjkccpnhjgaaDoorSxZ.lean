/- Own work: a layer over the kit: plain data, a walk over it, its soundness. -/
import Derived.Test.YtdkbjkccpnhjgaaDoorSxY
set_option linter.unusedSectionVars false
set_option linter.unusedVariables false
set_option linter.unusedSimpArgs false
set_option linter.deprecated false
namespace Go.Sx
open Go.RowKit
variable [Globs] [Codes]

theorem sw_mono {P : Program} {bs : Nat} : ∀ {c : SC} {s : St} {Q Q' : Exit → St → Prop}, sw P bs c Q s → (∀ e s, Q e s → Q' e s) → sw P bs c Q' s := by
  intro c
  induction c with
  | skip => intro s Q Q' h hq; exact hq _ _ h
  | ret => intro s Q Q' h hq; exact hq _ _ h
  | exit id => intro s Q Q' h hq; exact hq _ _ h
  | reg ops => intro s Q Q' h hq; exact stps_mono h fun s => hq _ s
  | drw pre ops => intro s Q Q' h hq; obtain ⟨es, s', h1, h2, h3⟩ := h; exact ⟨es, s', h1, h2, hq _ _ h3⟩
  | seq a b iha ihb =>
    intro s Q Q' h hq
    refine iha h fun e s he => ?_
    cases e <;> first | exact ihb he hq | exact hq _ _ he
  | cond x a b iha ihb =>
    intro s Q Q' h hq
    simp only [sw] at h ⊢
    split at h
    · split at h
      · rename_i ht; rw [if_pos ht]; exact iha h hq
      · rename_i ht; rw [if_neg ht]; exact ihb h hq
    · exact h.elim
  | block id c ih =>
    intro s Q Q' h hq
    refine ih h fun e s he => ?_
    cases e <;> try exact hq _ _ he
    rename_i i
    simp only [inBlockS] at he ⊢
    split at he
    · rename_i hi; rw [if_pos hi]; exact hq _ _ he
    · rename_i hi; rw [if_neg hi]; exact hq _ _ he
  | loop ts c ih =>
    intro s Q Q' h hq
    obtain ⟨ts', Inv, h1, h2⟩ := h
    refine ⟨ts', Inv, h1, fun k s' hi => ih (h2 k s' hi) fun e s he => ?_⟩
    cases e <;> first | exact he | exact hq _ _ he
  | rangeF N g ps a b _ _ =>
    intro s Q Q' h hq
    obtain ⟨nm, R, h1, h2, h3, h4, h5⟩ := h
    refine ⟨nm, R, h1, h2, h3, h4, fun r ob' hr => ?_⟩
    obtain ⟨st, pend, ps', asg, body, N', keys, ds, q1, q2, q3⟩ := h5 r ob' hr
    refine ⟨st, pend, ps', asg, body, N', keys, ds, q1, q2, ?_⟩
    split at q3
    · exact hq _ _ q3
    · exact hq _ _ q3
    · exact hq _ _ q3
    · exact q3.elim

inductive Fr where
  | sc (c : SC)
  | blk (id : Nat)

/-- What the program's functions are, what is known of some of them. -/
structure Tab where
  T : FuncId → Option (Nat × SC × List SR)
  C : FuncId → List D → Obs → Option (D × Obs)
  F : FuncId → List D → Option D := fun _ _ => none

structure Tab.OK (tab : Tab) (P : Program) : Prop where
  T : ∀ f N sc rs, tab.T f = some (N, sc, rs) → FnC P f N sc rs ∧ pureF P f = true
  C : ∀ f as ob r ob', tab.C f as ob = some (r, ob') → pureF P f = true ∧ CallL P (.func (.func f) [] []) as ob fun r0 ob0 => r0 = r ∧ ob0 = ob'
  F : ∀ f as r, tab.F f as = some r → FnOK P f as r

abbrev GoF := Nat → List Fr → St → Option (Exit × St)

def finB : Exit → Bool
  | .normal => true
  | .ret => true
  | _ => false

def pendE : Exit → Option (Option Code)
  | .normal => some none
  | .ret => some (some .ret)
  | .exit i => some (some (.exit i))
  | _ => none

def callE (tab : Tab) (g : GoF) : CallF := fun d args ob => match d with
  | .func (.func f) first caps => match tab.C f (first ++ args ++ caps) ob with
    | some x => some x
    | none => match tab.T f with
      | some (N, sc, rs) => if (first ++ args ++ caps).length ≤ N then
          (match g (Obs.top ob) [.sc sc] ⟨envOf 0 (first ++ args ++ caps), ob⟩ with
          | some (e, s) => if finB e = true then (match rs.mapM (resD s) with
            | some ds => some ((s.fin (Obs.top ob) (packD ds)).get (.t 0), (s.fin (Obs.top ob) (packD ds)).ob)
            | none => none) else none
          | none => none) else none
      | none => none
  | .yld rid => match lk ob rid with
    | some (.gen (.loop .ready none ps a b N keys) ds) => if ps.size = args.length ∧ (ps.toList.all fun t => decide (t < N)) = true then
        (match g (Obs.top ob) [.sc a] ⟨putP (ps.toList.zip args) (keys.zip ds), eraseId rid ob⟩ with
        | some (.normal, s1) => match g (Obs.top ob) [.sc b] s1 with
          | some (e, s2) => match pendE e with
            | some pend => if (lk s2.ob rid).isNone = true then some (.bool pend.isNone, (rid, .gen (.loop (if pend.isNone then .ready else .done) pend ps a b N keys) ds) :: (s2.canon (Obs.top ob) []).ob) else none
            | none => none
          | none => none
        | _ => none) else none
    | _ => none
  | _ => none

def retE (r : D) (ob : Obs) : Option D := match r with
  | .vec id => match lk ob id with
    | some (.arr true sz e es) => some (.own sz e es)
    | _ => none
  | r => if D.clo (dvt (lk ob) r) = true then some (dvt (lk ob) r) else none

def fnE (tab : Tab) (g : GoF) : FuncId → List D → Option D := fun f args => match tab.F f args with
  | some r => some r
  | none => match callE tab g (.func (.func f) [] []) args [] with
    | some (r, ob) => retE r ob
    | none => none

def popTo (i : Nat) : List Fr → Option (List Fr)
  | [] => none
  | .blk j :: K => if i = j then some K else popTo i K
  | .sc _ :: K => popTo i K

/-- The record of a loop, laid. -/
def rngS (P : Program) (s : St) (rid N : Nat) (ps : Array Tmp) (a b : SC) : Obs := (rid, recd P .ready none N ps a b s.tm) :: s.ob

def goStep (P : Program) (tab : Tab) (ih : GoF) : GoF := fun bs K s => match K with
  | [] => some (.normal, s)
  | .blk _ :: K => ih bs K s
  | .sc c :: K => match c with
    | .skip => ih bs K s
    | .ret => some (.ret, s)
    | .exit i => match popTo i K with
      | some K' => ih bs K' s
      | none => some (.exit i, s)
    | .reg ops => match opsE (callE tab ih) (fnE tab ih) (s.nx bs) ops s with
      | some s' => ih bs K s'
      | none => none
    | .drw pre ops => match canE (callE tab ih) (fnE tab ih) (s.nx bs) ops s with
      | some (es, s') => if dchk (s.nx bs) pre ops es s = true then ih bs K s' else none
      | none => none
    | .seq a b => ih bs (.sc a :: .sc b :: K) s
    | .cond x a b => match s.get x with
      | .bool t => ih bs (.sc (if t then a else b) :: K) s
      | _ => none
    | .block id c => ih bs (.sc c :: .blk id :: K) s
    | .loop ts c => ih bs (.sc c :: .sc (.loop ts c) :: K) (s.canon bs ts)
    | .rangeF N g ps a b =>
      let ob1 := rngS P s (s.nx bs) N ps a b
      let nm := handN ⟨s.tm, ob1⟩ [s.get g, .yld (s.nx bs)]
      match s.get g with
      | .func (.func f) fa fc => if nodupB nm = true ∧ ((tab.T f).isSome = true) then
          (match callE tab ih ((s.get g).ren (idx · nm)) [(D.yld (s.nx bs)).ren (idx · nm)] (handO ob1 (idx · nm) 0 nm) with
          | some (r, ob') =>
            let S := St.back ⟨s.tm, ob1⟩ (s.nx bs + 1) nm ob'
            match lk S.ob (s.nx bs) with
            | some (.gen (.loop st pend _ _ _ _ _) _) => if st = .busy then none else (match pend with
              | none => ih bs K ⟨s.tm, eraseId (s.nx bs) S.ob⟩
              | some .ret => some (.ret, ⟨s.tm, eraseId (s.nx bs) S.ob⟩)
              | some (.exit i) => match popTo i K with
                | some K' => ih bs K' ⟨s.tm, eraseId (s.nx bs) S.ob⟩
                | none => some (.exit i, ⟨s.tm, eraseId (s.nx bs) S.ob⟩)
              | _ => none)
            | _ => none
          | none => none) else none
      | _ => none

def go (P : Program) (tab : Tab) (n : Nat) : GoF := Nat.rec (fun _ _ _ => none) (fun _ ih => goStep P tab ih) n

theorem go_succ (P : Program) (tab : Tab) (n : Nat) : go P tab (n + 1) = goStep P tab (go P tab n) := rfl
theorem go_zero (P : Program) (tab : Tab) (bs : Nat) (K : List Fr) (s : St) : go P tab 0 bs K s = none := rfl

section
variable {P : Program} {tab : Tab}

def resume (P : Program) (tab : Tab) (m bs : Nat) (K : List Fr) (ex : Exit) (s : St) (out : Exit × St) : Prop := match ex with
  | .normal => go P tab m bs K s = some out
  | .ret => out = (.ret, s)
  | .exit i => match popTo i K with
    | some K' => go P tab m bs K' s = some out
    | none => out = (.exit i, s)
  | _ => False

theorem CallL.split {f : FuncId} (hp : pureF P f = true) {first args caps : List D} {ob : Obs} {R : D → Obs → Prop} (h : CallL P (.func (.func f) [] []) (first ++ args ++ caps) ob R) : CallL P (.func (.func f) first caps) args ob R := by
  intro F hF n φ hh w v vs hl hv hvs
  obtain ⟨va, vc, rfl, ha, hc, ha', hc'⟩ := Sx.func_inv hv
  rw [run_callv_func hp]
  have hall : RVL φ hh (va ++ vs ++ vc).toList (first ++ args ++ caps) := by
    rw [Array.toList_append, Array.toList_append]
    exact RVL_append (RVL_append (RVL_of_get _ _ (by simpa using ha) fun j d hd => by have := ha' j d hd; simpa [Array.getD_eq_getD_getElem?, List.getD] using this) hvs)
      (RVL_of_get _ _ (by simpa using hc) fun j d hd => by have := hc' j d hd; simpa [Array.getD_eq_getD_getElem?, List.getD] using this)
  have := h F hF n φ hh w (.func (.func f) #[] #[]) (va ++ vs ++ vc) hl (.func _ _ _ _ _ rfl rfl (by simp) (by simp)) hall
  rw [run_callv_func hp] at this
  simpa using this

/-- What is worked out holds of the calls. -/
theorem callE_sound [CodesOf P] (hdraw : DrawSound P) (htab : tab.OK P) {n : Nat}
    (hgo : ∀ bs c s out, go P tab n bs [.sc c] s = some out → sw P bs c (fun ex s1 => ∃ m, m < n ∧ resume P tab m bs [] ex s1 out) s) :
    ∀ d as ob r ob', callE tab (go P tab n) d as ob = some (r, ob') → CallL P d as ob fun r0 ob0 => r0 = r ∧ ob0 = ob' := by
  have hnil : ∀ {m bs : Nat} {s : St} {out : Exit × St}, go P tab m bs [] s = some out → out = (.normal, s) := fun {m bs s out} h => by
    cases m with
    | zero => cases h
    | succ m => rw [go_succ] at h; simp only [goStep, Option.some.injEq] at h; exact h.symm
  have hres : ∀ {m bs : Nat} {ex : Exit} {s : St} {out : Exit × St}, resume P tab m bs [] ex s out → out = (ex, s) := fun {m bs ex s out} h => by
    cases ex <;> simp only [resume, popTo] at h
    · exact hnil h
    · exact h
    · exact h
  intro d as ob r ob' h
  unfold callE at h
  split at h
  · rename_i f first caps
    split at h
    · rename_i x hC
      cases h
      obtain ⟨hp, hc⟩ := htab.C f _ ob r ob' hC
      exact hc.split hp
    · split at h
      · rename_i N sc rs hT
        obtain ⟨hf, hp⟩ := htab.T f N sc rs hT
        split at h
        · rename_i hlen
          split at h
          · rename_i e s hg
            split at h
            · rename_i hfin
              split at h
              · rename_i ds hds
                simp only [Option.some.injEq, Prod.mk.injEq] at h
                obtain ⟨rfl, rfl⟩ := h
                refine CallL.fn hdraw hf hp (Obs.top ob) (Nat.le_refl _) hlen (sw_mono (hgo _ _ _ _ hg) fun ex s1 ⟨m, _, hr⟩ => ?_)
                have := hres hr
                simp only [Prod.mk.injEq] at this
                obtain ⟨rfl, rfl⟩ := this
                cases e <;> first | exact ⟨ds, hds, rfl, rfl⟩ | cases hfin
              · cases h
            · cases h
          · cases h
        · cases h
      · cases h
  · rename_i rid
    split at h
    · rename_i ps a b N keys ds hrec
      split at h
      · rename_i hc
        split at h
        · rename_i s1 hg1
          split at h
          · rename_i e s2 hg2
            split at h
            · rename_i pend hpe
              split at h
              · rename_i hn
                simp only [Option.some.injEq, Prod.mk.injEq] at h
                obtain ⟨rfl, rfl⟩ := h
                refine CallL.yld hdraw (Obs.top ob) (Nat.le_refl _) hrec hc.1 (fun t ht => by simpa using List.all_eq_true.1 hc.2 t ht) (sw_mono (hgo _ _ _ _ hg1) fun ex s ⟨m, _, hr⟩ => ?_)
                have := hres hr
                simp only [Prod.mk.injEq] at this
                obtain ⟨rfl, rfl⟩ := this
                refine sw_mono (hgo _ _ _ _ hg2) fun ex s ⟨m, _, hr⟩ => ?_
                have := hres hr
                simp only [Prod.mk.injEq] at this
                obtain ⟨rfl, rfl⟩ := this
                refine ⟨by simpa using hn, ?_⟩
                cases e <;> simp only [pendE, Option.some.injEq, reduceCtorEq] at hpe <;> (subst hpe; exact ⟨rfl, rfl⟩)
              · cases h
            · cases h
          · cases h
        · cases h
      · cases h
    · cases h
  · cases h

theorem fnE_sound {g : GoF} (htab : tab.OK P) (hpf : ∀ f, (tab.T f).isSome = true → pureF P f = true) (hcl : ∀ d as ob r ob', callE tab g d as ob = some (r, ob') → CallL P d as ob fun r0 ob0 => r0 = r ∧ ob0 = ob') :
    ∀ f as r, fnE tab g f as = some r → FnOK P f as r := by
  intro f as r h
  unfold fnE at h
  split at h
  · rename_i r0 hF
    cases h
    exact htab.F _ _ _ hF
  split at h
  · rename_i r0 ob hc
    have hp : pureF P f = true := by
      unfold callE at hc
      simp only at hc
      split at hc
      · rename_i x hC; exact (htab.C f _ _ x.1 x.2 hC).1
      · split at hc
        · rename_i N sc rs hT; exact (htab.T f N sc rs hT).2
        · cases hc
    refine FnOK.of_call hp ((hcl _ _ _ _ _ hc).mono ?_)
    rintro r1 ob1 ⟨rfl, rfl⟩
    unfold retE at h
    split at h
    · rename_i id
      split at h
      · rename_i sz e es hl
        cases h
        exact .inl ⟨id, sz, e, es, rfl, hl, rfl⟩
      · cases h
    · split at h
      · rename_i hclo
        cases h
        exact .inr ⟨hclo, rfl⟩
      · cases h
  · cases h

theorem go_sound [CodesOf P] (hdraw : DrawSound P) (htab : tab.OK P) : ∀ (n bs : Nat) (c : SC) (K : List Fr) (s : St) (out : Exit × St), go P tab n bs (.sc c :: K) s = some out → sw P bs c (fun ex s1 => ∃ m, m < n ∧ resume P tab m bs K ex s1 out) s := by
  intro n
  induction n using Nat.strongRecOn with
  | _ n ih =>
    intro bs c K s out h
    cases n with
    | zero => cases h
    | succ n =>
      have hcl := callE_sound (n := n) hdraw htab fun bs c s out h => ih n (Nat.lt_succ_self n) bs c [] s out h
      have hfn := fnE_sound (g := go P tab n) htab (fun f hf => by
        obtain ⟨x, hx⟩ := Option.isSome_iff_exists.1 hf
        exact (htab.T f x.1 x.2.1 x.2.2 hx).2) hcl
      rw [go_succ] at h
      cases c with
      | skip => exact ⟨n, Nat.lt_succ_self n, h⟩
      | ret => simp only [goStep, Option.some.injEq] at h; exact ⟨n, Nat.lt_succ_self n, h.symm⟩
      | exit i =>
        refine ⟨n, Nat.lt_succ_self n, ?_⟩
        simp only [goStep] at h
        simp only [resume]
        split at h
        · exact h
        · simp only [Option.some.injEq] at h; exact h.symm
      | reg ops =>
        simp only [goStep] at h
        split at h
        · rename_i s' ho
          exact opsE_sound hfn hcl ho ⟨n, Nat.lt_succ_self n, h⟩
        · cases h
      | drw pre ops =>
        simp only [goStep] at h
        split at h
        · rename_i es s' ho
          split at h
          · rename_i hd
            exact ⟨es, s', canE_sound hfn hcl ho, hd, n, Nat.lt_succ_self n, h⟩
          · cases h
        · cases h
      | seq a b =>
        show sw P bs a (thenS (sw P bs b _) _) s
        refine sw_mono (ih n (Nat.lt_succ_self n) bs a _ s out h) fun ex s1 ⟨m, hm, hr⟩ => ?_
        cases ex <;> simp only [thenS]
        · exact sw_mono (ih m (by omega) bs b K s1 out hr) fun ex s2 ⟨m', hm', hr'⟩ => ⟨m', by omega, hr'⟩
        · exact ⟨m, by omega, hr⟩
        · exact hr.elim
        · exact ⟨m, by omega, hr⟩
        all_goals exact hr.elim
      | cond x a b =>
        simp only [goStep] at h
        simp only [sw]
        split at h
        · rename_i t hx
          rw [hx]
          simp only
          cases t
          · rw [if_neg (by simp)]
            exact sw_mono (ih n (Nat.lt_succ_self n) bs b K s out h) fun ex s1 ⟨m, hm, hr⟩ => ⟨m, by omega, hr⟩
          · rw [if_pos rfl]
            exact sw_mono (ih n (Nat.lt_succ_self n) bs a K s out h) fun ex s1 ⟨m, hm, hr⟩ => ⟨m, by omega, hr⟩
        · cases h
      | block id c =>
        show sw P bs c (inBlockS id _) s
        refine sw_mono (ih n (Nat.lt_succ_self n) bs c _ s out h) fun ex s1 ⟨m, hm, hr⟩ => ?_
        cases ex <;> simp only [inBlockS]
        · cases m with
          | zero => cases hr
          | succ m => exact ⟨m, by omega, hr⟩
        · rename_i i
          simp only [resume, popTo] at hr
          split
          · rename_i hi; rw [if_pos hi] at hr; exact ⟨m, by omega, hr⟩
          · rename_i hi; rw [if_neg hi] at hr; exact ⟨m, by omega, hr⟩
        · exact hr.elim
        · exact ⟨m, by omega, hr⟩
        all_goals exact hr.elim
      | loop ts c =>
        refine ⟨ts, fun k s' => k ≤ n ∧ go P tab k bs (.sc c :: .sc (.loop ts c) :: K) s' = some out, ⟨n, Nat.le_refl _, h⟩, fun k s' hk => ?_⟩
        refine sw_mono (ih k (by omega) bs c _ s' out hk.2) fun ex s1 ⟨m, hm, hr⟩ => ?_
        cases ex <;> simp only [thenS]
        · cases m with
          | zero => cases hr
          | succ m => exact ⟨m, by omega, by omega, hr⟩
        · exact ⟨m, by omega, hr⟩
        · exact hr.elim
        · exact ⟨m, by omega, hr⟩
        all_goals exact hr.elim
      | rangeF N g ps a b =>
        simp only [goStep] at h
        split at h
        · rename_i f fa fc hg
          split at h
          · rename_i hc
            split at h
            · rename_i r ob' hcall
              split at h
              · rename_i st pend _ _ _ _ _ _ hl
                split at h
                · cases h
                · rename_i hst
                  obtain ⟨x, hx⟩ := Option.isSome_iff_exists.1 hc.2
                  refine ⟨_, _, nodupB_sound hc.1, fun i hi => handN_some (s := ⟨s.tm, rngS P s (s.nx bs) N ps a b⟩) i hi, ⟨f, fa, fc, hg, (htab.T f x.1 x.2.1 x.2.2 hx).2⟩, hcl _ _ _ _ _ hcall, ?_⟩
                  rintro r0 ob0 ⟨rfl, rfl⟩
                  refine ⟨st, pend, _, _, _, _, _, _, hl, hst, ?_⟩
                  split at h
                  · exact ⟨n, Nat.lt_succ_self n, h⟩
                  · simp only [Option.some.injEq] at h; exact ⟨n, Nat.lt_succ_self n, h.symm⟩
                  · refine ⟨n, Nat.lt_succ_self n, ?_⟩
                    simp only [resume]
                    split at h
                    · exact h
                    · simp only [Option.some.injEq] at h; exact h.symm
                  · cases h
              · cases h
            · cases h
          · cases h
        · cases h

/-- A CLOSED RUN: worked out, it holds. -/
theorem callE_ok [CodesOf P] (hdraw : DrawSound P) (htab : tab.OK P) (n : Nat) {d : D} {as : List D} {ob : Obs} {r : D} {ob' : Obs} (h : callE tab (go P tab n) d as ob = some (r, ob')) : CallL P d as ob fun r0 ob0 => r0 = r ∧ ob0 = ob' :=
  callE_sound hdraw htab (fun bs c s out h => go_sound hdraw htab n bs c [] s out h) d as ob r ob' h

theorem fnE_ok [CodesOf P] (hdraw : DrawSound P) (htab : tab.OK P) (n : Nat) {f : FuncId} {as : List D} {r : D} (h : fnE tab (go P tab n) f as = some r) : FnOK P f as r :=
  fnE_sound htab (fun f hf => by
        obtain ⟨x, hx⟩ := Option.isSome_iff_exists.1 hf
        exact (htab.T f x.1 x.2.1 x.2.2 hx).2) (fun _ _ _ _ _ h => callE_ok hdraw htab n h) f as r h

end
end Go.Sx
