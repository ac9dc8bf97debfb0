/- Own work: a layer over the kit: plain data, a walk over it, its soundness. -/
import Derived.Lib.Bytealg
import Derived.Lib.AtoiAll
import Derived.Lib.ItoaNum
import Derived.Lib.Join
import Derived.Sort.OwnSorted
import Derived.Test.YtfoklncmfoogcaaGreatDoorSx7
set_option linter.unusedSectionVars false
set_option linter.unusedVariables false
set_option linter.unusedSimpArgs false
set_option linter.deprecated false
namespace Go.Sx
open Go.RowKit
variable [Globs] [Codes]

/-- A run in small steps, n of them at most. -/
def swF (P : Program) : Nat → Nat → List Fr → St → (Exit → St → Prop) → Prop
  | 0, _, _, _, _ => False
  | n + 1, bs, K, s, Q => match K with
    | [] => Q .normal s
    | .blk _ :: K => swF P n bs K s Q
    | .sc c :: K => match c with
      | .skip => swF P n bs K s Q
      | .ret => Q .ret s
      | .exit i => match popTo i K with
        | some K' => swF P n bs K' s Q
        | none => Q (.exit i) s
      | .reg ops => stps P (s.nx bs) ops s fun s' => swF P n bs K s' Q
      | .drw pre ops => ∃ es s', Canon P (s.nx bs) ops s es s' ∧ dchk (s.nx bs) pre ops es s = true ∧ swF P n bs K s' Q
      | .seq a b => swF P n bs (.sc a :: .sc b :: K) s Q
      | .cond x a b => match s.get x with
        | .bool t => swF P n bs (.sc (if t = true then a else b) :: K) s Q
        | _ => False
      | .block id c => swF P n bs (.sc c :: .blk id :: K) s Q
      | .loop ts c => swF P n bs (.sc c :: .sc (.loop ts c) :: K) (s.canon bs ts) Q
      | .spec k => spS P bs k (fun e s' => match e with
        | .normal => swF P n bs K s' Q
        | .ret => Q .ret s'
        | .exit i => match popTo i K with
          | some K' => swF P n bs K' s' Q
          | none => Q (.exit i) s'
        | .panic c => Q (.panic c) s'
        | _ => False) s
      | .rangeF N g ps a b => sw P bs (.rangeF N g ps a b) (fun e s' => match e with
        | .normal => swF P n bs K s' Q
        | .ret => Q .ret s'
        | .exit i => match popTo i K with
          | some K' => swF P n bs K' s' Q
          | none => Q (.exit i) s'
        | .panic c => Q (.panic c) s'
        | _ => False) s

section
variable {P : Program}
def resF' (P : Program) (m bs : Nat) (K : List Fr) (ex : Exit) (s : St) (Q : Exit → St → Prop) : Prop := match ex with
  | .normal => swF P m bs K s Q
  | .ret => Q .ret s
  | .exit i => match popTo i K with
    | some K' => swF P m bs K' s Q
    | none => Q (.exit i) s
  | .panic c => Q (.panic c) s
  | _ => False

theorem swF_sound : ∀ (n bs : Nat) (c : SC) (K : List Fr) (s : St) (Q : Exit → St → Prop), swF P n bs (.sc c :: K) s Q → sw P bs c (fun ex s1 => ∃ m, m < n ∧ resF' P m bs K ex s1 Q) s := by
  intro n
  induction n using Nat.strongRecOn with
  | _ n ih =>
    intro bs c K s Q h
    cases n with
    | zero => cases h
    | succ n =>
      cases c with
      | spec k =>
        simp only [swF] at h
        exact spS_mono (Q := fun e s' => match e with
          | .normal => swF P n bs K s' Q
          | .ret => Q .ret s'
          | .exit i => match popTo i K with
            | some K' => swF P n bs K' s' Q
            | none => Q (.exit i) s'
          | .panic c => Q (.panic c) s'
          | _ => False) h fun ex s1 hr => ⟨n, Nat.lt_succ_self n, by cases ex <;> exact hr⟩
      | skip => exact ⟨n, Nat.lt_succ_self n, h⟩
      | ret => exact ⟨n, Nat.lt_succ_self n, h⟩
      | exit i => exact ⟨n, Nat.lt_succ_self n, h⟩
      | reg ops => exact stps_mono (K := fun s' => swF P n bs K s' Q) h fun s' hs' => ⟨n, Nat.lt_succ_self n, hs'⟩
      | drw pre ops =>
        obtain ⟨es, s', h1, h2, h3⟩ := h
        exact ⟨es, s', h1, h2, n, Nat.lt_succ_self n, h3⟩
      | seq a b =>
        show sw P bs a (thenS (sw P bs b _) _) s
        refine sw_mono (ih n (Nat.lt_succ_self n) bs a _ s Q h) fun ex s1 ⟨m, hm, hr⟩ => ?_
        cases ex <;> simp only [thenS]
        · exact sw_mono (ih m (by omega) bs b K s1 Q hr) fun ex s2 ⟨m', hm', hr'⟩ => ⟨m', by omega, hr'⟩
        · exact ⟨m, by omega, hr⟩
        · exact hr.elim
        · exact ⟨m, by omega, hr⟩
        all_goals first | exact ⟨m, by omega, hr⟩ | exact hr.elim
      | cond x a b =>
        simp only [swF] at h
        simp only [sw]
        split at h
        · rename_i t hx
          cases t
          · rw [if_neg (by simp)] at h
            rw [hx]
            simp only [Bool.false_eq_true, if_false]
            exact sw_mono (ih n (Nat.lt_succ_self n) bs b K s Q h) fun ex s1 ⟨m, hm, hr⟩ => ⟨m, by omega, hr⟩
          · rw [if_pos rfl] at h
            rw [hx]
            simp only [if_true]
            exact sw_mono (ih n (Nat.lt_succ_self n) bs a K s Q h) fun ex s1 ⟨m, hm, hr⟩ => ⟨m, by omega, hr⟩
        · exact h.elim
      | block id c =>
        show sw P bs c (inBlockS id _) s
        refine sw_mono (ih n (Nat.lt_succ_self n) bs c _ s Q h) fun ex s1 ⟨m, hm, hr⟩ => ?_
        cases ex <;> simp only [inBlockS]
        · cases m with
          | zero => cases hr
          | succ m => exact ⟨m, by omega, hr⟩
        · rename_i i
          simp only [resF', popTo] at hr
          split
          · rename_i hi; rw [if_pos hi] at hr; exact ⟨m, by omega, hr⟩
          · rename_i hi; rw [if_neg hi] at hr; exact ⟨m, by omega, hr⟩
        · exact hr.elim
        · exact ⟨m, by omega, hr⟩
        all_goals first | exact ⟨m, by omega, hr⟩ | exact hr.elim
      | loop ts c =>
        refine ⟨ts, fun k s' => k ≤ n ∧ swF P k bs (.sc c :: .sc (.loop ts c) :: K) s' Q, ⟨n, Nat.le_refl _, h⟩, fun k s' hk => ?_⟩
        refine sw_mono (ih k (by omega) bs c _ s' Q hk.2) fun ex s1 ⟨m, hm, hr⟩ => ?_
        cases ex <;> simp only [thenS]
        · cases m with
          | zero => cases hr
          | succ m => exact ⟨m, by omega, by omega, hr⟩
        · exact ⟨m, by omega, hr⟩
        · exact hr.elim
        · exact ⟨m, by omega, hr⟩
        all_goals first | exact ⟨m, by omega, hr⟩ | exact hr.elim
      | rangeF N g ps a b =>
        simp only [swF] at h
        exact sw_mono h fun ex s1 hr => ⟨n, Nat.lt_succ_self n, by cases ex <;> exact hr⟩

/-- From here, the frames' run comes to an end of this kind. -/
def At (P : Program) (bs : Nat) (K : List Fr) (s : St) (Q : Exit → St → Prop) : Prop := ∃ n, swF P n bs K s Q

/-- The order in which objects are listed says nothing. -/
theorem CallL.reordG {P : Program} {d : D} {args : List D} {ob : Obs} {R : D → Obs → Prop} (h : CallL P d args ob (fun r0 ob0 => R r0 (sortO ob0))) : CallL P d args ob R := by
  intro F hF n φ hh w v vs hp hv hvs
  refine (h F hF n φ hh w v vs hp hv hvs).mono ?_
  rintro e w' ⟨r0, ob0, φ', h', hend, hR, ha⟩
  have he : ∀ i, lk (sortO ob0) i = lk ob0 i := fun i => lk_sortO i ob0
  exact ⟨r0, sortO ob0, φ', h', hend, hR, ⟨⟨ha.loc.one, ha.loc.glob.sub fun b ⟨i, hi, hb⟩ => ⟨i, by rw [← he]; exact hi, hb⟩, ha.loc.mem, fun i o ho => ha.loc.obj i o (by rw [← he]; exact ho), fun i j b hi hj => ha.loc.sep i j b (by rw [← he]; exact hi) (by rw [← he]; exact hj)⟩,
    ha.ext, ha.new, ha.frame, ha.hfix, ha.os, ha.tape, ha.output, ha.grow⟩⟩

/-- What a pure function hands back. -/
def RE (pu : Bool) (R : D → Obs → Prop) : D → Obs → Prop := match pu with
  | true => fun d ob => ∃ r, retE d ob = some r ∧ R r []
  | false => fun d ob => R d (sortO ob)

/-- The function's end. -/
def FinQ (pu : Bool) (bs : Nat) (rs : List SR) (R : D → Obs → Prop) : Exit → St → Prop := fun e s => match e with
  | .normal => ∃ ds, rs.mapM (resD s) = some ds ∧ RetL bs (RE pu R) s (packD ds)
  | .ret => ∃ ds, rs.mapM (resD s) = some ds ∧ RetL bs (RE pu R) s (packD ds)
  | .panic c => ∃ v, c = [{ v, recovered := false }] ∧ RetL bs (RE pu R) s (.pan v)
  | _ => False

/-- A panic's leaf. -/
def panF (pu : Bool) (bs : Nat) (c : List PanicEntry) (s : St) : Tr := match c with
  | [⟨v, false, false⟩] => (match pu with
    | true => .bad
    | false => .ret (.pan v) (sortO (s.fin bs (.pan v)).ob))
  | _ => .bad
def endT (pu : Bool) (bs : Nat) (rs : List SR) (s : St) : Tr := match rs.mapM (resD s) with
  | some ds => match pu with
    | true => match retE ((s.fin bs (packD ds)).get (.t 0)) (s.fin bs (packD ds)).ob with
      | some r => .ret r []
      | none => .bad
    | false => .ret ((s.fin bs (packD ds)).get (.t 0)) (sortO (s.fin bs (packD ds)).ob)
  | none => .bad

/-- The end of a function, of a kind. -/
def finF (pu : Bool) (bs : Nat) (rs : List SR) : Exit → St → Tr := fun e s => match e with
  | .normal => endT pu bs rs s
  | .ret => endT pu bs rs s
  | .panic c => panF pu bs c s
  | _ => .bad

def goTStep (P : Program) (tb : Ctr) (bs : Nat) (fin : Exit → St → Tr) (ih : List Fr → St → Tr) : List Fr → St → Tr := fun K s => match K with
  | [] => fin .normal s
  | .blk _ :: K => ih K s
  | .sc c :: K => match c with
    | .skip => ih K s
    | .ret => fin .ret s
    | .exit i => match popTo i K with
      | some K' => ih K' s
      | none => fin (.exit i) s
    | .reg ops => opsT tb (s.nx bs) ops s fun s' => ih K s'
    | .drw pre ops => caT tb (s.nx bs) ops s fun es s' => if dchk (s.nx bs) pre ops es s = true then ih K s' else .bad
    | .seq a b => ih (.sc a :: .sc b :: K) s
    | .cond x a b => match s.get x with
      | .bool t => brT t (ih (.sc a :: K) s) (ih (.sc b :: K) s)
      | _ => .bad
    | .block id c => ih (.sc c :: .blk id :: K) s
    | .loop ts c => .jmp (.sc c :: .sc (.loop ts c) :: K) (s.canon bs ts)
    | .spec k => match k with
      | .frg ts => .jmp K (s.canon bs ts)
      | .pan ops => opsXT tb (s.nx bs) ops s (fun s' => ih K s') (fun v s' => fin (pnc v) s')
      | _ => .jmp (.sc (.spec k) :: K) s
    | .rangeF N g ps a b =>
      let ob1 := rngS P s (s.nx bs) N ps a b
      let nm := handN ⟨s.tm, ob1⟩ [s.get g, .yld (s.nx bs)]
      match s.get g with
      | .func (.func f) fa fc => if nodupB nm = true ∧ pureF P f = true then
          (match tb.C 0 ((s.get g).ren (idx · nm)) [(D.yld (s.nx bs)).ren (idx · nm)] (handO ob1 (idx · nm) 0 nm) with
          | some rt => rtT rt fun r ob' => panT r (fun v => fin (pnc v) ⟨s.tm, eraseId (s.nx bs) (St.back ⟨s.tm, ob1⟩ (s.nx bs + 1) nm ob').ob⟩) <|
            let S := St.back ⟨s.tm, ob1⟩ (s.nx bs + 1) nm ob'
            match lk S.ob (s.nx bs) with
            | some (.gen (.loop st pend _ _ _ _ _) _) => if st = .busy then .bad else (match pend with
              | none => ih K ⟨s.tm, eraseId (s.nx bs) S.ob⟩
              | some .ret => fin .ret ⟨s.tm, eraseId (s.nx bs) S.ob⟩
              | some (.exit i) => match popTo i K with
                | some K' => ih K' ⟨s.tm, eraseId (s.nx bs) S.ob⟩
                | none => fin (.exit i) ⟨s.tm, eraseId (s.nx bs) S.ob⟩
              | _ => .bad)
            | _ => .bad
          | none => .bad) else .bad
      | _ => .bad

/-- All ways to the next heads of loops. -/
def goT (P : Program) (tb : Ctr) (bs : Nat) (fin : Exit → St → Tr) (n : Nat) : List Fr → St → Tr := Nat.rec (fun _ _ => .bad) (fun _ ih => goTStep P tb bs fin ih) n

theorem goT_succ (tb : Ctr) (bs : Nat) (fin : Exit → St → Tr) (n : Nat) : goT P tb bs fin (n + 1) = goTStep P tb bs fin (goT P tb bs fin n) := rfl

theorem endT_ok {pu : Bool} {bs : Nat} {rs : List SR} {s : St} {R : D → Obs → Prop} {J : List Fr → St → Prop} (h : (endT pu bs rs s).ok R J) : ∃ ds, rs.mapM (resD s) = some ds ∧ RetL bs (RE pu R) s (packD ds) := by
  unfold endT at h
  split at h
  · rename_i ds hds
    refine ⟨ds, hds, ?_⟩
    cases pu with
    | true =>
      simp only at h
      split at h
      · rename_i r hr; exact ⟨r, hr, h⟩
      · exact h.elim
    | false => exact h
  · exact h.elim

theorem finF_ok {pu : Bool} {bs : Nat} {rs : List SR} {R : D → Obs → Prop} {J : List Fr → St → Prop} (e : Exit) (s : St) (h : (finF pu bs rs e s).ok R J) : FinQ pu bs rs R e s := by
  cases e <;> try first | exact endT_ok h | exact h.elim
  simp only [finF, panF] at h
  split at h
  · rename_i v
    cases pu with
    | true => exact h.elim
    | false => exact ⟨v, rfl, h⟩
  · exact h.elim

theorem swF_mono : ∀ {n m bs : Nat} {K : List Fr} {s : St} {Q : Exit → St → Prop}, n ≤ m → swF P n bs K s Q → swF P m bs K s Q
  | 0, _, _, _, _, _, _, h => h.elim
  | n + 1, 0, _, _, _, _, hle, _ => by omega
  | n + 1, m + 1, bs, K, s, Q, hle, h => by
    have up : ∀ {K' s'}, swF P n bs K' s' Q → swF P m bs K' s' Q := fun h => swF_mono (by omega) h
    match K, h with
    | [], h => exact h
    | .blk _ :: K, h => exact up h
    | .sc c :: K, h =>
      cases c with
      | skip => exact up h
      | ret => exact h
      | exit i =>
        simp only [swF] at h ⊢
        split
        · rename_i hp; rw [hp] at h; exact up h
        · rename_i hp; rw [hp] at h; exact h
      | reg ops => exact stps_mono (K := fun s' => swF P n bs K s' Q) h fun s' hs => up hs
      | drw pre ops => obtain ⟨es, s', h1, h2, h3⟩ := h; exact ⟨es, s', h1, h2, up h3⟩
      | seq a b => exact up h
      | cond x a b =>
        simp only [swF] at h ⊢
        split at h
        · exact up h
        · exact h.elim
      | block id c => exact up h
      | loop ts c => exact up h
      | spec k =>
        simp only [swF] at h ⊢
        refine spS_mono h fun e s' he => ?_
        cases e <;> try exact he
        · exact up he
        · simp only at he ⊢
          split at he
          · exact up he
          · exact he
      | rangeF N g ps a b =>
        simp only [swF] at h ⊢
        refine sw_mono h fun e s' he => ?_
        cases e <;> try exact he
        · exact up he
        · simp only at he ⊢
          split at he
          · exact up he
          · exact he

theorem Tr.ok_mono {R : D → Obs → Prop} {J J' : List Fr → St → Prop} (h : ∀ K s, J K s → J' K s) : ∀ {T : Tr}, T.ok R J → T.ok R J'
  | .ret _ _, ht => ht
  | .jmp _ _, ht => h _ _ ht
  | .owe _ x, ht => ⟨ht.1, Tr.ok_mono h ht.2⟩
  | .bad, ht => ht

theorem Tr.ok_at {R : D → Obs → Prop} {J : List Fr → St → Prop} {A : Nat → List Fr → St → Prop} (h : ∀ K s, J K s → ∃ n, A n K s) : ∀ {T : Tr}, T.ok R J → ∃ n, T.ok R fun K s => J K s ∧ A n K s
  | .ret _ _, ht => ⟨0, ht⟩
  | .jmp K s, ht => by
    obtain ⟨n, hn⟩ := h K s ht
    exact ⟨n, ht, hn⟩
  | .owe _ x, ht => by
    obtain ⟨n, hn⟩ := Tr.ok_at h ht.2
    exact ⟨n, ht.1, hn⟩
  | .bad, ht => ht.elim

theorem goTStep_ok {tb : Ctr} (htb : tb.OK P) {bs : Nat} {fin : Exit → St → Tr} {R : D → Obs → Prop} {J : List Fr → St → Prop} {Q : Exit → St → Prop} {m : Nat} {ih : List Fr → St → Tr} (hfin : ∀ e s, (fin e s).ok R J → Q e s) (hJ : ∀ K s, J K s → swF P m bs K s Q)
    (up : ∀ {K s}, (ih K s).ok R J → swF P m bs K s Q) {K : List Fr} {s : St} (h : (goTStep P tb bs fin ih K s).ok R J) : swF P (m + 1) bs K s Q := by
    match K, h with
    | [], h => exact hfin _ _ h
    | .blk _ :: K, h => exact up h
    | .sc c :: K, h =>
      cases c with
      | skip => exact up h
      | ret => exact hfin _ _ h
      | exit i =>
        simp only [goTStep] at h
        split at h
        · rename_i K' hp
          simp only [swF, hp]; exact up h
        · rename_i hp
          simp only [swF, hp]; exact hfin _ _ h
      | reg ops =>
        simp only [goTStep] at h
        obtain ⟨s', h1, h2⟩ := opsT_ok htb h
        exact h1 _ (up h2)
      | drw pre ops =>
        simp only [goTStep] at h
        obtain ⟨es, s', h1, h2⟩ := caT_ok htb h
        split at h2
        · rename_i hd
          exact ⟨es, s', h1, hd, up h2⟩
        · exact h2.elim
      | seq a b => exact up h
      | cond x a b =>
        simp only [goTStep] at h
        split at h
        · rename_i t hx
          rcases brT_ok h with ⟨rfl, h⟩ | ⟨rfl, h⟩
          · simp only [swF, hx, if_true]; exact up h
          · simp only [swF, hx]; exact up h
        · exact h.elim
      | block id c => exact up h
      | loop ts c =>
        have h1 := hJ _ _ h
        show swF P m bs (.sc c :: .sc (.loop ts c) :: K) (s.canon bs ts) Q
        exact h1
      | spec k =>
        cases k with
        | frg ts => exact hJ _ _ h
        | pan ops =>
          simp only [goTStep] at h
          rcases opsXT_ok htb h with ⟨s', h1, h2⟩ | ⟨v, s', h1, h2⟩
          · exact h1 _ _ (up h2)
          · exact h1 _ _ (hfin _ _ h2)
        | _ => exact swF_mono (Nat.le_succ m) (hJ _ _ h)
      | rangeF N g ps a b =>
        simp only [goTStep] at h
        split at h
        · rename_i f fa fc hg
          split at h
          · rename_i hc
            split at h
            · rename_i rt hrt
              obtain ⟨r, ob', hcall, hk⟩ := rtT_ok (htb.C _ _ _ _ _ hrt) h
              rcases panT_ok hk with ⟨hpn, hk⟩ | ⟨v, rfl, hk⟩
              case inr =>
                refine ⟨_, _, nodupB_sound hc.1, fun i hi => handN_some (s := ⟨s.tm, rngS P s (s.nx bs) N ps a b⟩) i hi, ⟨f, fa, fc, hg, hc.2⟩, hcall, ?_⟩
                rintro r0 ob0 ⟨rfl, rfl⟩
                exact .inl ⟨v, rfl, hfin _ _ hk⟩
              split at hk
              · rename_i st pend _ _ _ _ _ _ hl
                split at hk
                · exact hk.elim
                · rename_i hst
                  have fin : (match pend with
                      | none => swF P m bs K ⟨s.tm, eraseId (s.nx bs) (St.back ⟨s.tm, rngS P s (s.nx bs) N ps a b⟩ (s.nx bs + 1) (handN ⟨s.tm, rngS P s (s.nx bs) N ps a b⟩ [s.get g, .yld (s.nx bs)]) ob').ob⟩ Q
                      | some .ret => Q .ret ⟨s.tm, eraseId (s.nx bs) (St.back ⟨s.tm, rngS P s (s.nx bs) N ps a b⟩ (s.nx bs + 1) (handN ⟨s.tm, rngS P s (s.nx bs) N ps a b⟩ [s.get g, .yld (s.nx bs)]) ob').ob⟩
                      | some (.exit i) => (match popTo i K with
                        | some K' => swF P m bs K' ⟨s.tm, eraseId (s.nx bs) (St.back ⟨s.tm, rngS P s (s.nx bs) N ps a b⟩ (s.nx bs + 1) (handN ⟨s.tm, rngS P s (s.nx bs) N ps a b⟩ [s.get g, .yld (s.nx bs)]) ob').ob⟩ Q
                        | none => Q (.exit i) ⟨s.tm, eraseId (s.nx bs) (St.back ⟨s.tm, rngS P s (s.nx bs) N ps a b⟩ (s.nx bs + 1) (handN ⟨s.tm, rngS P s (s.nx bs) N ps a b⟩ [s.get g, .yld (s.nx bs)]) ob').ob⟩)
                      | _ => False) → swF P (m + 1) bs (.sc (.rangeF N g ps a b) :: K) s Q := fun hm => by
                    refine ⟨_, _, nodupB_sound hc.1, fun i hi => handN_some (s := ⟨s.tm, rngS P s (s.nx bs) N ps a b⟩) i hi, ⟨f, fa, fc, hg, hc.2⟩, hcall, ?_⟩
                    rintro r0 ob0 ⟨rfl, rfl⟩
                    refine .inr ⟨hpn, st, pend, _, _, _, _, _, _, hl, hst, ?_⟩
                    split at hm
                    · exact hm
                    · exact hm
                    · exact hm
                    · exact hm.elim
                  cases pend with
                  | none => exact fin (up hk)
                  | some c0 =>
                    cases c0 <;> try exact hk.elim
                    · rename_i i0
                      simp only at hk
                      refine fin ?_
                      simp only
                      split at hk
                      · exact up hk
                      · exact hfin _ _ hk
                    · exact fin (hfin _ _ hk)
              · exact hk.elim
            · exact h.elim
          · exact h.elim
        · exact h.elim


theorem goT_N {tb : Ctr} (htb : tb.OK P) {bs : Nat} {fin : Exit → St → Tr} {R : D → Obs → Prop} {J : List Fr → St → Prop} {Q : Exit → St → Prop} {n0 : Nat} (hfin : ∀ e s, (fin e s).ok R J → Q e s) (hJ : ∀ K s, J K s → swF P n0 bs K s Q) :
    ∀ {n : Nat} {K : List Fr} {s : St}, (goT P tb bs fin n K s).ok R J → swF P (n0 + n) bs K s Q
  | 0, K, s, h => h.elim
  | n + 1, K, s, h => by
    rw [goT_succ] at h
    exact goTStep_ok htb hfin (fun K s hj => swF_mono (Nat.le_add_right _ _) (hJ K s hj)) (fun h => goT_N htb hfin hJ h) h

/-- All ways to the next statement: the walk stops where this few frames are left. -/
def goS (P : Program) (tb : Ctr) (bs : Nat) (fin : Exit → St → Tr) (m n : Nat) : List Fr → St → Tr := Nat.rec (fun _ _ => .bad) (fun _ ih => goTStep P tb bs fin fun K s => match K with
  | [] => ih [] s
  | f :: K => if (f :: K).length ≤ m then .jmp (f :: K) s else ih (f :: K) s) n
theorem goS_succ (tb : Ctr) (bs : Nat) (fin : Exit → St → Tr) (m n : Nat) : goS P tb bs fin m (n + 1) = goTStep P tb bs fin fun K s => match K with
  | [] => goS P tb bs fin m n [] s
  | f :: K => if (f :: K).length ≤ m then .jmp (f :: K) s else goS P tb bs fin m n (f :: K) s := rfl
theorem goS_N {tb : Ctr} (htb : tb.OK P) {bs : Nat} {fin : Exit → St → Tr} {R : D → Obs → Prop} {J : List Fr → St → Prop} {Q : Exit → St → Prop} {n0 l : Nat} (hfin : ∀ e s, (fin e s).ok R J → Q e s) (hJ : ∀ K s, J K s → swF P n0 bs K s Q) :
    ∀ {n : Nat} {K : List Fr} {s : St}, (goS P tb bs fin l n K s).ok R J → swF P (n0 + n) bs K s Q
  | 0, K, s, h => h.elim
  | n + 1, K, s, h => by
    rw [goS_succ] at h
    refine goTStep_ok htb hfin (fun K s hj => swF_mono (Nat.le_add_right _ _) (hJ K s hj)) (fun {K s} h => ?_) h
    cases K with
    | nil => exact goS_N htb hfin hJ h
    | cons f K =>
      simp only at h
      split at h
      · exact swF_mono (Nat.le_add_right _ _) (hJ _ _ h)
      · exact goS_N htb hfin hJ h

theorem goT_ok {tb : Ctr} (htb : tb.OK P) {bs : Nat} {fin : Exit → St → Tr} {R : D → Obs → Prop} {J : List Fr → St → Prop} {Q : Exit → St → Prop} (hfin : ∀ e s, (fin e s).ok R J → Q e s) (hJ : ∀ K s, J K s → At P bs K s Q)
    {n : Nat} {K : List Fr} {s : St} (h : (goT P tb bs fin n K s).ok R J) : At P bs K s Q := by
  obtain ⟨n0, h0⟩ := Tr.ok_at (A := fun n K s => swF P n bs K s Q) hJ h
  exact ⟨_, goT_N htb (fun e s hf => hfin e s (Tr.ok_mono (fun _ _ h => h.1) hf)) (fun _ _ h => h.2) h0⟩

/-- The same, the steps told: for loops whose rounds' order is not known. -/
theorem swF.tree {tb : Ctr} (htb : tb.OK P) {pu : Bool} {bs : Nat} {rs : List SR} {R : D → Obs → Prop} {n n0 : Nat} {K : List Fr} {s : St} {T : Tr} (e : goT P tb bs (finF pu bs rs) n K s = T)
    (h : T.ok R (fun K s => swF P n0 bs K s (FinQ pu bs rs R))) : swF P (n0 + n) bs K s (FinQ pu bs rs R) := goT_N htb finF_ok (fun _ _ h => h) (e ▸ h)

/-- A statement, by its tree. -/
theorem At.stop {tb : Ctr} (htb : tb.OK P) {pu : Bool} {bs l : Nat} {rs : List SR} {R : D → Obs → Prop} {n : Nat} {K : List Fr} {s : St} {T : Tr} (e : goS P tb bs (finF pu bs rs) l n K s = T)
    (h : T.ok R (fun K s => At P bs K s (FinQ pu bs rs R))) : At P bs K s (FinQ pu bs rs R) := by
  rw [← e] at h
  obtain ⟨n0, h0⟩ := Tr.ok_at (A := fun n K s => swF P n bs K s (FinQ pu bs rs R)) (fun _ _ h => h) h
  exact ⟨_, goS_N htb finF_ok (fun _ _ h => h.2) h0⟩
/-- What is left of a text behind its first statements. -/
def SC.tl : SC → Nat → SC
  | c, 0 => c
  | .seq _ b, n + 1 => b.tl n
  | c, _ + 1 => c
def sta (sc : SC) (n : Nat) : List Fr := [.sc (sc.tl n)]
/-- What follows the n-th place where things are forgotten. -/
def frgs : SC → List Fr → List (List Fr)
  | .seq (.spec (.frg _)) b, K => (.sc b :: K) :: frgs b K
  | .seq a b, K => frgs a (.sc b :: K) ++ frgs b K
  | .cond _ a b, K => frgs a K ++ frgs b K
  | .block id c, K => frgs c (.blk id :: K)
  | .loop ts c, K => frgs c (.sc (.loop ts c) :: K)
  | _, _ => []
def frg (sc : SC) (n : Nat) : List Fr := (frgs sc []).getD n []

/-- From a loop's head, by the tree. -/
theorem At.tree {tb : Ctr} (htb : tb.OK P) {pu : Bool} {bs : Nat} {rs : List SR} {R : D → Obs → Prop} {n : Nat} {K : List Fr} {s : St} {T : Tr} (e : goT P tb bs (finF pu bs rs) n K s = T)
    (h : T.ok R (fun K s => At P bs K s (FinQ pu bs rs R))) : At P bs K s (FinQ pu bs rs R) := goT_ok htb finF_ok (fun _ _ h => h) (e ▸ h)

theorem at_sw {bs : Nat} {sc : SC} {s : St} {Q : Exit → St → Prop} (h : At P bs [.sc sc] s Q) : sw P bs sc Q s := by
  obtain ⟨n, hn⟩ := h
  refine sw_mono (swF_sound n bs sc [] s Q hn) fun ex s1 ⟨m, _, hr⟩ => ?_
  cases ex <;> simp only [resF', popTo] at hr
  · cases m with
    | zero => cases hr
    | succ m => exact hr
  · exact hr
  · exact hr
  · exact hr

/-- A PURE FUNCTION, BY ITS TREE. -/
theorem FnOK.at [CodesOf P] (hdraw : DrawSound P) {f : FuncId} {N : Nat} {sc : SC} {rs : List SR} (hf : FnC P f N sc rs ∧ pureF P f = true) {args : List D} {r : D}
    (h : At P 0 [.sc sc] ⟨envOf 0 args, []⟩ (FinQ true 0 rs (fun d _ => d = r))) (hlen : Nat.ble args.length N = true := by rfl) : FnOK P f args r := by
  have hlen := Nat.le_of_ble_eq_true hlen
  have hsw := at_sw h
  refine FnOK.of_call hf.2 (CallL.fn hdraw hf.1 hf.2 (first := []) (caps := []) 0 (Nat.le_refl _) (by simpa using hlen) ?_)
  have conv : ∀ (s : St) (d : D), RetL 0 (RE true (fun d _ => d = r)) s d → RetL 0 (RetK r) s d := by
    rintro s d ⟨r', hr', rfl⟩
    unfold retE at hr'
    unfold RetL RetK
    split at hr'
    · rename_i id hid
      split at hr'
      · rename_i sz e es hl
        cases hr'
        exact .inl ⟨id, sz, e, es, hid, hl, rfl⟩
      · cases hr'
    · split at hr'
      · rename_i hclo
        cases hr'
        exact .inr ⟨hclo, rfl⟩
      · cases hr'
  rw [List.nil_append, List.append_nil]
  refine sw_mono hsw fun ex s1 hq => ?_
  cases ex <;> simp only [FinQ, EndQ] at hq ⊢
  · obtain ⟨ds, hds, hr⟩ := hq; exact ⟨ds, hds, conv _ _ hr⟩
  · obtain ⟨ds, hds, hr⟩ := hq; exact ⟨ds, hds, conv _ _ hr⟩
  · obtain ⟨v, rfl, hr⟩ := hq; exact ⟨v, rfl, conv _ _ hr⟩

theorem FnOK.tree [CodesOf P] (hdraw : DrawSound P) {f : FuncId} {N : Nat} {sc : SC} {rs : List SR} (hf : FnC P f N sc rs ∧ pureF P f = true) {tb : Ctr} (htb : tb.OK P) {n : Nat} {args : List D} {r : D} {T : Tr}
    (e : goT P tb 0 (finF true 0 rs) n [.sc sc] ⟨envOf 0 args, []⟩ = T) (h : T.ok (fun d _ => d = r) (fun K s => At P 0 K s (FinQ true 0 rs (fun d _ => d = r)))) (hlen : Nat.ble args.length N = true := by rfl) : FnOK P f args r :=
  FnOK.at hdraw hf (goT_ok htb finF_ok (fun _ _ h => h) (e ▸ h)) hlen

/-- A call with objects, from its run. -/
theorem CallL.at [CodesOf P] (hdraw : DrawSound P) {f : FuncId} {N : Nat} {sc : SC} {rs : List SR} (hf : FnC P f N sc rs ∧ pureF P f = true) {bs : Nat} {first args caps : List D} {ob : Obs} {R : D → Obs → Prop}
    (h : At P bs [.sc sc] ⟨envOf 0 (first ++ args ++ caps), ob⟩ (FinQ false bs rs R)) (hlen : Nat.ble (first ++ args ++ caps).length N = true := by rfl) (hbs : Nat.ble (Obs.top ob) bs = true := by rfl) : CallL P (.func (.func f) first caps) args ob R := by
  have hlen := Nat.le_of_ble_eq_true hlen
  have hbs := Nat.le_of_ble_eq_true hbs
  have hsw := at_sw h
  refine CallL.reordG (CallL.fn hdraw hf.1 hf.2 bs hbs hlen ?_)
  refine sw_mono hsw fun ex s1 hq => ?_
  cases ex <;> simp only [FinQ, RE, EndQ] at hq ⊢ <;> exact hq

/-- A CALL WITH OBJECTS, BY ITS TREE. -/
theorem CallL.tree [CodesOf P] (hdraw : DrawSound P) {f : FuncId} {N : Nat} {sc : SC} {rs : List SR} (hf : FnC P f N sc rs ∧ pureF P f = true) {tb : Ctr} (htb : tb.OK P) {n bs : Nat} {first args caps : List D} {ob : Obs} {R : D → Obs → Prop} {T : Tr}
    (e : goT P tb bs (finF false bs rs) n [.sc sc] ⟨envOf 0 (first ++ args ++ caps), ob⟩ = T) (h : T.ok R (fun K s => At P bs K s (FinQ false bs rs R))) (hlen : Nat.ble (first ++ args ++ caps).length N = true := by rfl) (hbs : Nat.ble (Obs.top ob) bs = true := by rfl) : CallL P (.func (.func f) first caps) args ob R := by
  have hlen := Nat.le_of_ble_eq_true hlen
  have hbs := Nat.le_of_ble_eq_true hbs
  have hsw := at_sw (goT_ok htb finF_ok (fun _ _ h => h) (e ▸ h))
  refine CallL.reordG (CallL.fn hdraw hf.1 hf.2 bs hbs hlen ?_)
  refine sw_mono hsw fun ex s1 hq => ?_
  cases ex <;> simp only [FinQ, RE, EndQ] at hq ⊢ <;> exact hq
end

/-- A round's end: what is handed back to the one who yields. -/
def finY (k rid N : Nat) (ps : Array Tmp) (a b : SC) (keys : List Nat) (ds : List D) : Exit → St → Tr := fun e s => match pendE e with
  | some pend => if (lk s.ob rid).isNone = true then .ret (.bool pend.isNone) (sortO ((rid, .gen (.loop (if pend.isNone then .ready else .done) pend ps a b N keys) ds) :: (s.canon k []).ob)) else .bad
  | none => .bad
/-- The two parts of a loop's body over a function. -/
def yldT (P : Program) (tb : Ctr) (k rid N : Nat) (ps : Array Tmp) (a b : SC) (keys : List Nat) (ds : List D) (n : Nat) (s : St) : Tr :=
  goT P tb k (fun e s => match e with
    | .normal => goT P tb k (finY k rid N ps a b keys ds) n [.sc b] s
    | _ => .bad) n [.sc a] s

section
variable {P : Program}
/-- A CALL OF yield, BY ITS TREE. -/
theorem CallL.yldT [CodesOf P] (hdraw : DrawSound P) {tb : Ctr} (htb : tb.OK P) {n k rid N : Nat} {ps : Array Tmp} {a b : SC} {keys : List Nat} {ds args : List D} {ob : Obs} {R : D → Obs → Prop} {T : Tr}
    (hrec : lk ob rid = some (.gen (.loop .ready none ps a b N keys) ds)) (e : Sx.yldT P tb k rid N ps a b keys ds n ⟨putP (ps.toList.zip args) (keys.zip ds), eraseId rid ob⟩ = T)
    (h : T.ok R (fun _ _ => False)) (hk : Nat.ble (Obs.top ob) k = true := by rfl) (hps : ps.size = args.length := by rfl) (hpN : (ps.toList.all fun t => decide (t < N)) = true := by rfl) : CallL P (.yld rid) args ob R := by
  have hk := Nat.le_of_ble_eq_true hk
  refine CallL.reordG (CallL.yld hdraw k hk hrec hps (fun t ht => by simpa using List.all_eq_true.1 hpN t ht) ?_)
  have h' : (Sx.yldT P tb k rid N ps a b keys ds n ⟨putP (ps.toList.zip args) (keys.zip ds), eraseId rid ob⟩).ok R (fun _ _ => False) := e ▸ h
  unfold Sx.yldT at h'
  refine at_sw (goT_ok htb (fun e s hf => ?_) (fun _ _ h => h.elim) h')
  cases e <;> try exact hf.elim
  refine at_sw (goT_ok htb (fun e s hf => ?_) (fun _ _ h => h.elim) hf)
  unfold finY at hf
  split at hf
  · rename_i pend hpe
    split at hf
    · rename_i hn
      refine ⟨by simpa using hn, ?_⟩
      cases e <;> simp only [pendE, Option.some.injEq, reduceCtorEq] at hpe <;> (subst hpe; exact hf)
    · exact hf.elim
  · exact hf.elim
end

/-- The heads of the loops of a text, in their order. -/
def cuts : SC → List Fr → List (List Fr)
  | .seq a b, K => cuts a (.sc b :: K) ++ cuts b K
  | .cond _ a b, K => cuts a K ++ cuts b K
  | .block id c, K => cuts c (.blk id :: K)
  | .loop ts c, K => (.sc c :: .sc (.loop ts c) :: K) :: cuts c (.sc (.loop ts c) :: K)
  | _, _ => []
def cut (sc : SC) (n : Nat) : List Fr := (cuts sc []).getD n []
/-- The pieces with a rule of their own, and what follows them. -/
def spcs : SC → List Fr → List (List Fr)
  | .seq a b, K => spcs a (.sc b :: K) ++ spcs b K
  | .cond _ a b, K => spcs a K ++ spcs b K
  | .block id c, K => spcs c (.blk id :: K)
  | .loop ts c, K => spcs c (.sc (.loop ts c) :: K)
  | .spec k, K => [.sc (.spec k) :: K]
  | _, _ => []
def spc (sc : SC) (n : Nat) : List Fr := (spcs sc []).getD n []
/-- What follows such a piece. -/
def aft (sc : SC) (n : Nat) : List Fr := (spc sc n).tail
theorem swF_spec {P : Program} {n bs : Nat} {k : Sp} {K : List Fr} {s : St} {Q : Exit → St → Prop} (h : spS P bs k (fun e s' => e = .normal ∧ swF P n bs K s' Q) s) : swF P (n + 1) bs (.sc (.spec k) :: K) s Q := by
  simp only [swF]
  refine spS_mono h fun e s' he => ?_
  obtain ⟨rfl, h⟩ := he
  exact h
/-- The bodies of the loops over functions. -/
def SC.rngs : SC → List (SC × SC)
  | .seq a b => a.rngs ++ b.rngs
  | .cond _ a b => a.rngs ++ b.rngs
  | .block _ c => c.rngs
  | .loop _ c => c.rngs
  | .rangeF _ _ _ a b => (a, b) :: (a.rngs ++ b.rngs)
  | _ => []
def SC.rngA (sc : SC) (n : Nat) : SC := (sc.rngs.getD n (.skip, .skip)).1
def SC.rngB (sc : SC) (n : Nat) : SC := (sc.rngs.getD n (.skip, .skip)).2
end Go.Sx

/- TERMS COMPARED, in plain words. -/
namespace Go.Sx

def ncmp (a b : Int) : Int := if a < b then -1 else if b < a then 1 else 0
/-- The place of a kind in the order. -/
def rkI (k : Int) : Int := if k = 1 then 0 else if k = 2 then 1 else if k = 4 then 2 else if k = 3 then 3 else if k = 5 then 4 else if k = 6 then 5 else 6 + k
def idxI (k : Int) : Int := if k = 1 then 0 else if k = 2 then 1 else if k = 4 then 2 else if k = 3 then 3 else if k = 5 then 4 else if k = 6 then 5 else -1
/-- The first that is not nought. -/
def fst0 : List Int → Int
  | [] => 0
  | x :: r => if x ≠ 0 then x else fst0 r

mutual
def Tm.cmp : Tm → Tm → Int
  | .mk k n s l, b => match b with
    | .mk k' n' s' l' => fst0 [ncmp (rkI k) (rkI k'), if k = 1 then ncmp n n' else 0, ncmp l.length l'.length, Lib.compareBytes s s', Tm.cmpL l l', ncmp n n']
def Tm.cmpL : List Tm → List Tm → Int
  | [], q => match q with
    | [] => 0
    | _ :: _ => -1
  | a :: r, q => match q with
    | [] => 1
    | b :: q => if a.cmp b ≠ 0 then a.cmp b else Tm.cmpL r q
end

mutual
/-- The size as it is counted. -/
def Tm.sz : Tm → Int → Int
  | .mk _ _ _ l, m => 1 + Tm.szL l (m - 1) 0
def Tm.szL : List Tm → Int → Int → Int
  | [], m, n => n
  | a :: r, m, n => if n ≤ m then Tm.szL r m (n + a.sz (m - n)) else n
end

mutual
/-- The same. -/
def Tm.eqb : Tm → Tm → Bool
  | .mk k n s l, b => match b with
    | .mk k' n' s' l' => decide (k = k') && decide (n = n') && decide (s = s') && Tm.eqbL l l'
def Tm.eqbL : List Tm → List Tm → Bool
  | [], q => match q with
    | [] => true
    | _ :: _ => false
  | a :: r, q => match q with
    | [] => false
    | b :: q => a.eqb b && Tm.eqbL r q
end

theorem ncmp_eq {a b : Int} : ncmp a b = 0 ↔ a = b := by
  unfold ncmp; split
  · simp; omega
  · split
    · simp; omega
    · simp; omega
theorem ncmp_neg (a b : Int) : ncmp b a = - ncmp a b := by
  unfold ncmp
  repeat' split
  all_goals omega
theorem ncmp_range (a b : Int) : ncmp a b = -1 ∨ ncmp a b = 0 ∨ ncmp a b = 1 := by
  unfold ncmp; split
  · exact .inl rfl
  · split
    · exact .inr (.inr rfl)
    · exact .inr (.inl rfl)

theorem fst0_range {l : List Int} (h : ∀ x ∈ l, x = -1 ∨ x = 0 ∨ x = 1) : fst0 l = -1 ∨ fst0 l = 0 ∨ fst0 l = 1 := by
  induction l with
  | nil => exact .inr (.inl rfl)
  | cons x r ih =>
    unfold fst0
    split
    · exact h x (List.mem_cons_self ..)
    · exact ih fun y hy => h y (List.mem_cons_of_mem _ hy)

theorem bcmp_range : ∀ (a b : List UInt8), Lib.compareBytes a b = -1 ∨ Lib.compareBytes a b = 0 ∨ Lib.compareBytes a b = 1
  | [], [] => .inr (.inl rfl)
  | [], _ :: _ => .inl rfl
  | _ :: _, [] => .inr (.inr rfl)
  | a :: r, b :: q => by
    unfold Lib.compareBytes
    split
    · exact .inl rfl
    · split
      · exact .inr (.inr rfl)
      · exact bcmp_range r q
theorem bcmp_eq : ∀ {a b : List UInt8}, Lib.compareBytes a b = 0 ↔ a = b
  | [], [] => by simp [Lib.compareBytes]
  | [], _ :: _ => by simp [Lib.compareBytes]
  | _ :: _, [] => by simp [Lib.compareBytes]
  | a :: r, b :: q => by
    unfold Lib.compareBytes
    split
    · rename_i h; simp; intro e; subst e; exact absurd h (UInt8.lt_irrefl _)
    · split
      · rename_i h; simp; intro e; subst e; exact absurd h (UInt8.lt_irrefl _)
      · rename_i h1 h2
        have : a = b := by
          rw [← UInt8.toNat_inj]
          rw [UInt8.lt_iff_toNat_lt] at h1 h2
          omega
        rw [bcmp_eq (a := r) (b := q)]
        simp [this]
theorem bcmp_neg : ∀ (a b : List UInt8), Lib.compareBytes b a = - Lib.compareBytes a b
  | [], [] => rfl
  | [], _ :: _ => rfl
  | _ :: _, [] => rfl
  | a :: r, b :: q => by
    unfold Lib.compareBytes
    by_cases h1 : a < b
    · have h2 : ¬ b < a := by rw [UInt8.lt_iff_toNat_lt] at *; omega
      rw [if_pos h1, if_neg h2, if_pos h1]; rfl
    · by_cases h2 : b < a
      · rw [if_pos h2, if_neg h1, if_pos h2]
      · rw [if_neg h2, if_neg h1, if_neg h1, if_neg h2]; exact bcmp_neg r q
/-- By the order of strings. -/
theorem bcmp_less : ∀ (a b : List UInt8), Lib.compareBytes a b = if Op.bytesLess a b = true then -1 else if (!(Op.bytesLess a b || decide (a = b))) = true then 1 else 0
  | [], [] => rfl
  | [], _ :: _ => rfl
  | _ :: _, [] => by simp [Lib.compareBytes, Op.bytesLess]
  | a :: r, b :: q => by
    unfold Lib.compareBytes Op.bytesLess
    by_cases h1 : a < b
    · simp [h1]
    · by_cases h2 : b < a
      · have : a ≠ b := fun e => by subst e; exact h1 h2
        simp [h1, h2, this]
      · have hab : a = b := by
          rw [← UInt8.toNat_inj]
          rw [UInt8.lt_iff_toNat_lt] at h1 h2
          omega
        subst hab
        rw [bcmp_less r q]
        simp [h1]

mutual
theorem cmp_range : ∀ (a b : Tm), a.cmp b = -1 ∨ a.cmp b = 0 ∨ a.cmp b = 1
  | .mk k n s l, .mk k' n' s' l' => by
    simp only [Tm.cmp]
    refine fst0_range fun x hx => ?_
    simp only [List.mem_cons, List.not_mem_nil, or_false] at hx
    rcases hx with rfl | rfl | rfl | rfl | rfl | rfl
    · exact ncmp_range _ _
    · split
      · exact ncmp_range _ _
      · exact .inr (.inl rfl)
    · exact ncmp_range _ _
    · exact bcmp_range _ _
    · exact cmpL_range l l'
    · exact ncmp_range _ _
theorem cmpL_range : ∀ (a b : List Tm), Tm.cmpL a b = -1 ∨ Tm.cmpL a b = 0 ∨ Tm.cmpL a b = 1
  | [], [] => .inr (.inl rfl)
  | [], _ :: _ => .inl rfl
  | _ :: _, [] => .inr (.inr rfl)
  | a :: r, b :: q => by
    simp only [Tm.cmpL]
    split
    · exact cmp_range a b
    · exact cmpL_range r q
end
end Go.Sx
namespace Go.Sx
mutual
/-- All lists of arguments are this short. -/
def Tm.few (N : Nat) : Tm → Prop
  | .mk _ _ _ l => l.length ≤ N ∧ Tm.fewL N l
def Tm.fewL (N : Nat) : List Tm → Prop
  | [] => True
  | a :: r => a.few N ∧ Tm.fewL N r
end
theorem fewL_all {N : Nat} : ∀ {l : List Tm}, Tm.fewL N l ↔ ∀ t ∈ l, t.few N
  | [] => by simp [Tm.fewL]
  | a :: r => by simp [Tm.fewL, fewL_all (l := r)]

mutual
theorem sz_ge : ∀ (t : Tm) (m : Int), 1 ≤ t.sz m
  | .mk k n s l, m => by
    have := szL_ge l (m - 1) 0
    simp only [Tm.sz]; omega
theorem szL_ge : ∀ (l : List Tm) (m n : Int), n ≤ Tm.szL l m n
  | [], m, n => by simp only [Tm.szL]; omega
  | a :: r, m, n => by
    simp only [Tm.szL]
    split
    · have := szL_ge r m (n + a.sz (m - n))
      have := sz_ge a (m - n)
      omega
    · omega
end
mutual
theorem sz_le : ∀ (t : Tm) (m : Int), 0 ≤ m → t.sz m ≤ m + 1
  | .mk k n s l, m, hm => by
    have := szL_le l (m - 1) 0 (by omega)
    simp only [Tm.sz]; omega
theorem szL_le : ∀ (l : List Tm) (m n : Int), n ≤ m + 1 → Tm.szL l m n ≤ m + 1
  | [], m, n, h => by simp only [Tm.szL]; omega
  | a :: r, m, n, h => by
    simp only [Tm.szL]
    split
    · have := sz_le a (m - n) (by omega)
      exact szL_le r m _ (by omega)
    · omega
end
mutual
theorem sz_few {N : Nat} : ∀ (t : Tm) (m : Int), m ≤ N → t.sz m ≤ m → t.few N
  | .mk k n s l, m, hm, h => by
    simp only [Tm.sz] at h
    have := szL_few (N := N) l (m - 1) 0 (by omega) (by omega)
    exact ⟨by omega, this.1⟩
theorem szL_few {N : Nat} : ∀ (l : List Tm) (m n : Int), m - n ≤ N → Tm.szL l m n ≤ m → Tm.fewL N l ∧ n + l.length ≤ Tm.szL l m n
  | [], m, n, hm, h => by simp [Tm.szL, Tm.fewL]
  | a :: r, m, n, hm, h => by
    simp only [Tm.szL] at h ⊢
    split at h
    · rename_i hnm
      rw [if_pos hnm]
      have h1 := sz_ge a (m - n)
      have h2 := szL_few (N := N) r m (n + a.sz (m - n)) (by omega) h
      have h3 := sz_few (N := N) a (m - n) hm (by omega)
      exact ⟨⟨h3, h2.1⟩, by rw [List.length_cons]; omega⟩
    · omega
end

theorem fst0_zip : ∀ {l q : List Tm} {t : List Int}, l.length = q.length → fst0 (List.zipWith Tm.cmp l q ++ t) = if Tm.cmpL l q ≠ 0 then Tm.cmpL l q else fst0 t
  | [], [], t, _ => by simp [Tm.cmpL]
  | [], _ :: _, t, h => by cases h
  | _ :: _, [], t, h => by cases h
  | a :: r, b :: q, t, h => by
    by_cases hc : a.cmp b ≠ 0
    · have e : Tm.cmpL (a :: r) (b :: q) = a.cmp b := by simp only [Tm.cmpL]; rw [if_pos hc]
      rw [e, if_pos hc]
      simp only [List.zipWith_cons_cons, List.cons_append, fst0]
      rw [if_pos hc]
    · have e : Tm.cmpL (a :: r) (b :: q) = Tm.cmpL r q := by simp only [Tm.cmpL]; rw [if_neg hc]
      rw [e]
      simp only [List.zipWith_cons_cons, List.cons_append, fst0]
      rw [if_neg hc]
      exact fst0_zip (by simpa using h)
/-- The comparison, in the reference model's order. -/
theorem cmp_ref (k : Nat) (n : Int) (s : List UInt8) (l : List Tm) (k' : Nat) (n' : Int) (s' : List UInt8) (l' : List Tm) :
    fst0 ([ncmp (rkI k) (rkI k'), if k = 1 then ncmp n n' else 0, ncmp l.length l'.length, Lib.compareBytes s s'] ++ List.zipWith Tm.cmp l l' ++ [ncmp n n']) = (Tm.mk k n s l).cmp (.mk k' n' s' l') := by
  by_cases hl : l.length = l'.length
  · simp only [Tm.cmp, List.cons_append, List.nil_append, fst0, fst0_zip hl]
  · have h : ncmp l.length l'.length ≠ 0 := fun h => hl (by have := ncmp_eq.1 h; omega)
    simp [Tm.cmp, fst0, h]

theorem fst0_zero : ∀ {l : List Int}, fst0 l = 0 ↔ ∀ x ∈ l, x = 0
  | [] => by simp [fst0]
  | x :: r => by
    unfold fst0
    split
    · rename_i h; simp [h]
    · rename_i h
      have hx : x = 0 := Classical.not_not.1 h
      rw [fst0_zero (l := r)]
      simp [hx]
theorem rkI_inj {k k' : Nat} (h : rkI k = rkI k') : k = k' := by
  unfold rkI at h
  (repeat' split at h) <;> omega

mutual
theorem cmp_eq : ∀ {a b : Tm}, a.cmp b = 0 ↔ a = b
  | .mk k n s l, .mk k' n' s' l' => by
    simp only [Tm.cmp, fst0_zero, Tm.mk.injEq, List.mem_cons, List.not_mem_nil, or_false, forall_eq_or_imp, forall_eq]
    constructor
    · rintro ⟨h1, _, h3, h4, h5, h6⟩
      have h3' : l.length = l'.length := by have := ncmp_eq.1 h3; omega
      exact ⟨rkI_inj (ncmp_eq.1 h1), ncmp_eq.1 h6, bcmp_eq.1 h4, (cmpL_eq h3').1 h5⟩
    · rintro ⟨rfl, rfl, rfl, rfl⟩
      refine ⟨ncmp_eq.2 rfl, ?_, ncmp_eq.2 rfl, bcmp_eq.2 rfl, (cmpL_eq rfl).2 rfl, ncmp_eq.2 rfl⟩
      split
      · exact ncmp_eq.2 rfl
      · rfl
theorem cmpL_eq : ∀ {a b : List Tm}, a.length = b.length → (Tm.cmpL a b = 0 ↔ a = b)
  | [], [], _ => by simp [Tm.cmpL]
  | [], _ :: _, h => by cases h
  | _ :: _, [], h => by cases h
  | a :: r, b :: q, h => by
    simp only [Tm.cmpL, List.cons.injEq]
    by_cases hc : a.cmp b = 0
    · rw [if_neg (by simpa using hc)]
      have := cmp_eq.1 hc
      rw [cmpL_eq (by simpa using h)]
      simp [this]
    · rw [if_pos hc]
      have : a ≠ b := fun e => hc (cmp_eq.2 e)
      simp [hc, this]
end
mutual
theorem eqb_eq : ∀ {a b : Tm}, a.eqb b = true ↔ a = b
  | .mk k n s l, .mk k' n' s' l' => by
    simp only [Tm.eqb, Bool.and_eq_true, decide_eq_true_eq, eqbL_eq, Tm.mk.injEq]
    constructor
    · rintro ⟨⟨⟨h1, h2⟩, h3⟩, h4⟩; exact ⟨h1, h2, h3, h4⟩
    · rintro ⟨h1, h2, h3, h4⟩; exact ⟨⟨⟨h1, h2⟩, h3⟩, h4⟩
theorem eqbL_eq : ∀ {a b : List Tm}, Tm.eqbL a b = true ↔ a = b
  | [], [] => by simp [Tm.eqbL]
  | [], _ :: _ => by simp [Tm.eqbL]
  | _ :: _, [] => by simp [Tm.eqbL]
  | a :: r, b :: q => by
    simp only [Tm.eqbL, Bool.and_eq_true, List.cons.injEq, eqb_eq (a := a) (b := b), eqbL_eq (a := r) (b := q)]
end
theorem eqb_cmp (a b : Tm) : a.eqb b = decide (a.cmp b = 0) := by
  rw [Bool.eq_iff_iff, eqb_eq, decide_eq_true_eq, cmp_eq]
end Go.Sx

/- Plain laws on bytes and lists. -/
namespace Go.Sx
/-- Where the run of bytes that pass, begun at i, ends. -/
def runTo (p : UInt8 → Bool) (s : List UInt8) (i : Nat) : Nat := i + ((s.drop i).takeWhile p).length

theorem runTo_step {p : UInt8 → Bool} {s : List UInt8} {i : Nat} (h : i < s.length) (hp : p (s.getD i 0) = true) : runTo p s i = runTo p s (i + 1) := by
  unfold runTo
  rw [List.drop_eq_getElem_cons h, List.takeWhile_cons]
  rw [List.getD_eq_getElem?_getD, List.getElem?_eq_getElem h, Option.getD_some] at hp
  rw [if_pos hp, List.length_cons]
  omega
theorem runTo_stop {p : UInt8 → Bool} {s : List UInt8} {i : Nat} (h : i < s.length) (hp : p (s.getD i 0) = false) : runTo p s i = i := by
  unfold runTo
  rw [List.drop_eq_getElem_cons h, List.takeWhile_cons]
  rw [List.getD_eq_getElem?_getD, List.getElem?_eq_getElem h, Option.getD_some] at hp
  rw [if_neg (by simp [hp])]
  simp
theorem runTo_end {p : UInt8 → Bool} {s : List UInt8} {i : Nat} (h : s.length ≤ i) : runTo p s i = i := by
  unfold runTo
  rw [List.drop_eq_nil_of_le h]; simp
theorem runTo_le (p : UInt8 → Bool) (s : List UInt8) (i : Nat) : i ≤ runTo p s i := by unfold runTo; omega
theorem runTo_len {p : UInt8 → Bool} {s : List UInt8} {i : Nat} (h : i ≤ s.length) : runTo p s i ≤ s.length := by
  unfold runTo
  have := (List.takeWhile_sublist (l := s.drop i) p).length_le
  rw [List.length_drop] at this
  omega
theorem runTo_text (p : UInt8 → Bool) (s : List UInt8) (i : Nat) : (s.take (runTo p s i)).drop i = (s.drop i).takeWhile p := by
  unfold runTo
  rw [List.drop_take, Nat.add_sub_cancel_left]
  exact (List.prefix_iff_eq_take.1 (List.takeWhile_prefix p)).symm
theorem byte_lt (s : List UInt8) (i : Nat) : 0 ≤ ((s.getD i 0).toNat : Int) ∧ ((s.getD i 0).toNat : Int) < 256 := by
  have := (s.getD i 0).toNat_lt
  omega
end Go.Sx

/- The lexer, plainly. -/
namespace Go.Sx.Lx
open Go.Sx

def isLow (b : UInt8) : Bool := decide (97 ≤ b.toNat) && decide (b.toNat ≤ 122)
def isUp (b : UInt8) : Bool := decide (65 ≤ b.toNat) && decide (b.toNat ≤ 90)
def isDig (b : UInt8) : Bool := decide (48 ≤ b.toNat) && decide (b.toNat ≤ 57)
def isLet (b : UInt8) : Bool := isLow b || isUp b
def isUnd (b : UInt8) : Bool := b == 95
def isName (b : UInt8) : Bool := isLet b || isDig b || isUnd b
def isBlank (b : UInt8) : Bool := b == 32 || b == 9 || b == 10 || b == 13
def inLine (b : UInt8) : Bool := !(b == 10)

/-- How many bytes of blanks and comments; c: within a comment. -/
def skp : Bool → List UInt8 → Nat
  | _, [] => 0
  | false, b :: r => if isBlank b then 1 + skp false r else if b == 37 then 1 + skp true r else 0
  | true, b :: r => if b == 10 then 1 + skp false r else 1 + skp true r

theorem skp_le : ∀ (c : Bool) (l : List UInt8), skp c l ≤ l.length
  | _, [] => by simp [skp]
  | false, b :: r => by
    simp only [skp]
    have h1 := skp_le false r
    have h2 := skp_le true r
    repeat' split
    all_goals simp only [List.length_cons]; omega
  | true, b :: r => by
    simp only [skp]
    have h1 := skp_le false r
    have h2 := skp_le true r
    repeat' split
    all_goals simp only [List.length_cons]; omega

theorem skp_blank : ∀ l : List UInt8, skp false l = (l.takeWhile isBlank).length + skp false (l.drop (l.takeWhile isBlank).length)
  | [] => rfl
  | b :: r => by
    cases hb : isBlank b with
    | true =>
      rw [List.takeWhile_cons, if_pos hb]
      simp only [List.length_cons, List.drop_succ_cons]
      rw [show skp false (b :: r) = 1 + skp false r by simp [skp, hb], skp_blank r]
      omega
    | false => rw [List.takeWhile_cons, if_neg (by simp [hb])]; simp

theorem skp_line : ∀ l : List UInt8, skp true l = (l.takeWhile inLine).length + skp false (l.drop (l.takeWhile inLine).length)
  | [] => rfl
  | b :: r => by
    cases hb : inLine b with
    | true =>
      rw [List.takeWhile_cons, if_pos hb]
      simp only [List.length_cons, List.drop_succ_cons]
      have h : (b == 10) = false := by simpa [inLine] using hb
      rw [show skp true (b :: r) = 1 + skp true r by simp [skp, h], skp_line r]
      omega
    | false =>
      rw [List.takeWhile_cons, if_neg (by simp [hb])]
      have h : b = 10 := by simpa [inLine] using hb
      subst h
      simp [skp, isBlank]

theorem skp_cmt {l : List UInt8} (h : l.head? = some 37) : skp false l = (l.takeWhile inLine).length + skp false (l.drop (l.takeWhile inLine).length) := by
  cases l with
  | nil => cases h
  | cons b r =>
    simp only [List.head?_cons, Option.some.injEq] at h
    subst h
    rw [show skp false (37 :: r) = 1 + skp true r by simp [skp, isBlank], List.takeWhile_cons, if_pos (by decide), skp_line r]
    simp only [List.length_cons, List.drop_succ_cons]
    omega

theorem skp_stop {l : List UInt8} (h : ∀ b, l.head? = some b → isBlank b = false ∧ b ≠ 37) : skp false l = 0 := by
  cases l with
  | nil => rfl
  | cons b r =>
    obtain ⟨h1, h2⟩ := h b rfl
    simp [skp, h1, h2]

/-- Where the blanks and comments begun at i end. -/
def skipTo (s : List UInt8) (i : Nat) : Nat := i + skp false (s.drop i)
theorem skipTo_len {s : List UInt8} {i : Nat} (h : i ≤ s.length) : skipTo s i ≤ s.length := by
  have := skp_le false (s.drop i)
  rw [List.length_drop] at this
  unfold skipTo; omega
theorem skipTo_blank (s : List UInt8) (i : Nat) : skipTo s i = skipTo s (runTo isBlank s i) := by
  unfold skipTo runTo
  rw [skp_blank (s.drop i), List.drop_drop]
  omega
theorem skipTo_cmt {s : List UInt8} {i : Nat} (h : i < s.length) (hb : s.getD i 0 = 37) : skipTo s i = skipTo s (runTo inLine s i) := by
  unfold skipTo runTo
  rw [List.getD_eq_getElem?_getD, List.getElem?_eq_getElem h, Option.getD_some] at hb
  rw [skp_cmt (by rw [List.head?_drop, List.getElem?_eq_getElem h, hb]), List.drop_drop]
  omega
theorem runTo_not {p : UInt8 → Bool} {s : List UInt8} {i : Nat} (h : runTo p s i < s.length) : p (s.getD (runTo p s i) 0) = false := by
  suffices ∀ (l : List UInt8), (l.takeWhile p).length < l.length → p (l.getD (l.takeWhile p).length 0) = false by
    have h2 := this (s.drop i) (by unfold runTo at h; rw [List.length_drop]; omega)
    unfold runTo
    simpa [List.getD, List.getElem?_drop] using h2
  intro l
  induction l with
  | nil => intro h; simp at h
  | cons b r ih =>
    intro h
    rw [List.takeWhile_cons] at h ⊢
    split
    · rename_i hb
      rw [if_pos hb] at h
      simpa using ih (by simpa using h)
    · rename_i hb; simpa using hb
theorem skipTo_stop {s : List UInt8} {i : Nat} (h : runTo isBlank s i = s.length ∨ s.getD (runTo isBlank s i) 0 ≠ 37) (hi : i ≤ s.length) : skipTo s i = runTo isBlank s i := by
  rw [skipTo_blank]
  have hl := runTo_len (p := isBlank) hi
  unfold skipTo
  rw [skp_stop]
  · omega
  · intro b hb
    rw [List.head?_drop] at hb
    obtain ⟨hlt, hbe⟩ := List.getElem?_eq_some_iff.1 hb
    have hg : s.getD (runTo isBlank s i) 0 = b := by rw [List.getD_eq_getElem?_getD, hb]; rfl
    refine ⟨?_, ?_⟩
    · have := runTo_not (p := isBlank) hlt
      rwa [hg] at this
    · rcases h with h | h
      · omega
      · rwa [hg] at h
end Go.Sx.Lx
namespace Go.Sx.Lx
/-- A name whose first byte behind the underscores passes. -/
def wordB (first : UInt8 → Bool) (s : List UInt8) : Bool := match s.dropWhile isUnd with
  | [] => false
  | b :: r => first b && (b :: r).all isName && decide (s.length ≤ 32)
def notS : List UInt8 := [110, 111, 116]
def symbolB (s : List UInt8) : Bool := wordB isLow s && decide (s ≠ notS)
def variableB (s : List UInt8) : Bool := wordB isUp s || (match s with
  | 95 :: r => r.all isDig && decide (s.length ≤ 32)
  | _ => false)
end Go.Sx.Lx
namespace Go.Sx
/-- Texts as cells. -/
def strC (l : List (List UInt8)) : List (List D) := l.map fun t => [D.str t]
theorem strC_get {l : List (List UInt8)} {i : Nat} (h : i < l.length) : (strC l)[i]? = some [D.str (l.getD i [])] := by
  unfold strC
  rw [List.getElem?_map, List.getElem?_eq_getElem h]
  simp [List.getD, h]
theorem strC_len (l : List (List UInt8)) : (strC l).length = l.length := by simp [strC]
/-- Where a text stands, counted from i. -/
def idxS (t : List UInt8) : List (List UInt8) → Int → Int
  | [], _ => -1
  | x :: r, i => if t = x then i else idxS t r (i + 1)
theorem idxS_mem (t : List UInt8) : ∀ (l : List (List UInt8)) (i : Int), 0 ≤ i → (0 ≤ idxS t l i ↔ t ∈ l)
  | [], i, h => by simp [idxS]
  | x :: r, i, h => by
    simp only [idxS, List.mem_cons]
    split
    · rename_i e; simp [e, h]
    · rename_i e; rw [idxS_mem t r (i + 1) (by omega)]; simp [e]
theorem drop_getD {α : Type} {l : List α} {d : α} {i : Nat} (h : i < l.length) : l.drop i = l.getD i d :: l.drop (i + 1) := by
  rw [List.drop_eq_getElem_cons h]; simp [List.getD, h]
end Go.Sx
namespace Go.Sx.Lx
/-- The signs; longer ones stand before their beginnings. -/
def signL : List (List UInt8) := [[58, 45], [58, 126], [58], [46, 46], [46], [44], [59], [124], [40], [41], [123], [125], [91], [93], [61], [33, 61], [60, 61], [62, 61], [60], [62], [43], [45], [42], [47], [92], [64]]
/-- The sign with which a text begins. -/
def signOf (s : List UInt8) : List UInt8 := (signL.find? (·.isPrefixOf s)).getD []
end Go.Sx.Lx
namespace Go.Sx.Lx
/-- The kind of a word, the error. -/
def wordK (s : List UInt8) : Int × Int := if s = notS then (4, 0) else if symbolB s = true then (1, 0) else if variableB s = true then (2, 0) else (0, 31)
def dirs : List (List UInt8) := [[35, 99, 111, 110, 115, 116], [35, 115, 104, 111, 119], [35, 109, 105, 110, 105, 109, 105, 122, 101], [35, 99, 111, 117, 110, 116], [35, 115, 117, 109]]
/-- A number's error. -/
def numE (s : List UInt8) : Int := match Lib.atoiAll s with
  | .ok n => if 2147483647 < n then 32 else if Lib.itoa n = s then 0 else 32
  | _ => 32
/-- A token's kind, its text, the error; of a text that is not empty. -/
def tok (s : List UInt8) : Int × List UInt8 × Int := match s with
  | [] => (0, [], 0)
  | b :: r =>
    if isLet b || isUnd b then ((wordK (s.takeWhile isName)).1, s.takeWhile isName, (wordK (s.takeWhile isName)).2)
    else if isDig b then (3, s.takeWhile isDig, numE (s.takeWhile isDig))
    else if b == 35 then (5, 35 :: r.takeWhile isLet, if 35 :: r.takeWhile isLet ∈ dirs then 0 else 31)
    else (6, signOf s, if signOf s = [] then 30 else 0)
end Go.Sx.Lx
namespace Go.Sx.Lx
/-- A token: its kind, its text, its offset. -/
abbrev Tk := Int × List UInt8 × Int
def tokC (t : Tk) : List D := [.int .u8 t.1, .str t.2.1, .int .i64 t.2.2]
theorem takeWhile_pos {p : UInt8 → Bool} {b : UInt8} {r : List UInt8} (h : p b = true) : 0 < ((b :: r).takeWhile p).length := by
  rw [List.takeWhile_cons, if_pos h]; simp
theorem wordK_nil : wordK [] = (0, 31) := by decide
theorem tok_pos {l : List UInt8} (hl : l ≠ []) (h : (tok l).2.2 = 0) : 0 < (tok l).2.1.length := by
  cases l with
  | nil => exact absurd rfl hl
  | cons b r =>
    unfold tok at h ⊢
    simp only at h ⊢
    split
    · rename_i hb; exact takeWhile_pos (by simp only [isName]; simp only [Bool.or_eq_true] at hb ⊢; rcases hb with h | h <;> simp [h])
    split
    · rename_i hb; exact takeWhile_pos hb
    split
    · simp
    · rename_i h1 h2 h3
      rw [if_neg h1, if_neg h2, if_neg h3] at h
      simp only at h
      by_cases hs : signOf (b :: r) = []
      · rw [if_pos hs] at h; cases h
      · exact List.length_pos_iff.2 hs
theorem tok_len (l : List UInt8) : (tok l).2.1.length ≤ l.length := by
  cases l with
  | nil => simp [tok]
  | cons b r =>
    unfold tok
    simp only
    split
    · exact (List.takeWhile_sublist _).length_le
    split
    · exact (List.takeWhile_sublist _).length_le
    split
    · simpa using (List.takeWhile_sublist (l := r) isLet).length_le
    · simp only [signOf]
      cases hf : signL.find? (·.isPrefixOf (b :: r)) with
      | none => simp
      | some s =>
        have := List.find?_some hf
        exact (List.isPrefixOf_iff_prefix.1 this).length_le
/-- The tokens of a text that begins with one, or is empty; an error and its offset; where it ends. -/
def toksF : Nat → Nat → List UInt8 → List Tk × Option (Nat × Int) × Nat
  | 0, o, _ => ([], none, o)
  | _ + 1, o, [] => ([], none, o)
  | f + 1, o, b :: r =>
    if (tok (b :: r)).2.2 = 0 then
      let n := (tok (b :: r)).2.1.length
      let k := skp false ((b :: r).drop n)
      let q := toksF f (o + n + k) ((b :: r).drop (n + k))
      (((tok (b :: r)).1, (tok (b :: r)).2.1, (o : Int)) :: q.1, q.2)
    else ([], some (o, (tok (b :: r)).2.2), o + (tok (b :: r)).2.1.length)
/-- Lex: the tokens, the error's offset, the error. -/
def lexR (s : List UInt8) : List Tk × Int × Int :=
  if 32768 < s.length then ([], 0, 3) else
  match toksF (s.length + 1) (skp false s) (s.drop (skp false s)) with
  | (_, some (a, e), _) => ([], a, e)
  | (l, none, _) => (l, 0, 0)
end Go.Sx.Lx
namespace Go.Sx.Lx
def deT : List D → Tk
  | [.int _ k, .str t, .int _ a] => (k, t, a)
  | _ => (0, [], 0)
theorem map_deT (l : List Tk) : (l.map tokC).map deT = l := by
  rw [List.map_map]
  exact List.map_id'' (fun _ => rfl) l
theorem tokC_get {l : List Tk} {i : Nat} (h : i < l.length) : (l.map tokC)[i]? = some (tokC (l.getD i default)) := by
  rw [List.getElem?_map, List.getElem?_eq_getElem h]
  simp [List.getD, h]
/-- Tokens alike but for their offsets. -/
def alikeB : List Tk → List Tk → Bool
  | [], [] => true
  | a :: r, b :: q => decide (a.1 = b.1) && decide (a.2.1 = b.2.1) && alikeB r q
  | _, _ => false
theorem alikeB_iff : ∀ (l k : List Tk), alikeB l k = true ↔ l.map (fun t => (t.1, t.2.1)) = k.map (fun t => (t.1, t.2.1))
  | [], [] => by simp [alikeB]
  | a :: r, b :: q => by
    simp only [alikeB, Bool.and_eq_true, decide_eq_true_eq, alikeB_iff r q, List.map_cons, List.cons.injEq, Prod.mk.injEq]
  | [], b :: q => by simp [alikeB]
  | a :: r, [] => by simp [alikeB]
theorem alikeB_len : ∀ (l k : List Tk), l.length ≠ k.length → alikeB l k = false
  | [], [], h => absurd rfl h
  | a :: r, b :: q, h => by
    simp only [alikeB, alikeB_len r q (fun he => h (by simp [he])), Bool.and_false]
  | [], b :: q, _ => rfl
  | a :: r, [], _ => rfl
/-- Blanks and comments alone; c: within a comment. -/
def emptyB : Bool → List UInt8 → Bool
  | _, [] => true
  | c, b :: r => if b = 10 then emptyB false r else if c = true then emptyB true r else if b = 37 then emptyB true r else if b ≠ 32 ∧ b ≠ 9 ∧ b ≠ 13 then false else emptyB false r
end Go.Sx.Lx
namespace Go.Sx.Lx
def pickG (n m : Int) : Int := if n.tmod m < 0 then n.tmod m + m else n.tmod m
end Go.Sx.Lx

/- All subterms of a term. -/
namespace Go.Sx
mutual
def Tm.all (h : Tm → Bool) : Tm → Bool
  | .mk k n s l => h (.mk k n s l) && Tm.allL h l
def Tm.allL (h : Tm → Bool) : List Tm → Bool
  | [] => true
  | a :: r => a.all h && Tm.allL h r
end
mutual
def Tm.depth : Tm → Nat
  | .mk _ _ _ l => Tm.depthL l + 1
def Tm.depthL : List Tm → Nat
  | [] => 0
  | a :: r => Nat.max a.depth (Tm.depthL r)
end
end Go.Sx
namespace Go.Sx
/-- What the rows of the kinds ask. -/
def shapeB (k n : Int) (s : List UInt8) (len : Nat) : Bool :=
  if k = 1 then decide (-2147483647 ≤ n) && decide (n ≤ 2147483647) && decide (s = []) && decide (len = 0)
  else if k = 2 then decide (n = 0) && Lx.symbolB s && decide (len = 0)
  else if k = 3 then decide (n = 0) && Lx.variableB s && decide (len = 0)
  else if k = 4 then decide (n = 0) && Lx.symbolB s && decide (1 ≤ len) && decide (len ≤ 8)
  else if k = 5 then decide (n = 0) && (decide (s = [43]) || decide (s = [45]) || decide (s = [42]) || decide (s = [47]) || decide (s = [92])) && (decide (len = 2) || decide (s = [45]) && decide (len = 1))
  else if k = 6 then decide (n = 0) && decide (s = []) && decide (len = 2)
  else false
def Tm.shape : Tm → Bool
  | .mk k n s l => shapeB k n s l.length
def Tm.valid (t : Tm) : Bool := decide (t.depth ≤ 12) && t.all Tm.shape
end Go.Sx

/- ARITHMETIC, PLAIN. -/
namespace Go.Sx
def fitsB (n : Int) : Bool := decide (-2147483647 ≤ n) && decide (n ≤ 2147483647)
theorem fitsB_iff {n : Int} : fitsB n = true ↔ -2147483647 ≤ n ∧ n ≤ 2147483647 := by simp [fitsB]
/-- An operation of two operands, ahead of the look at its size. -/
def calc0 (op : List UInt8) (a b : Int) : Option Int :=
  if op = [43] then some (a + b) else if op = [45] then some (a - b) else if op = [42] then some (a * b)
  else if op = [47] then (if b = 0 then none else some (a.tdiv b)) else if op = [92] then (if b = 0 then none else some (a.tmod b)) else none
def fitO (o : Option Int) : Option Int := match o with
  | some n => if fitsB n = true then some n else none
  | none => none
/-- arith.Calc -/
def calcR (op : List UInt8) (l : List Int) : Option Int := if l.all fitsB = true then (match l with
  | [a] => if op = [45] then some (-a) else none
  | [a, b] => fitO (calc0 op a b)
  | _ => none) else none
/-- A number, and whether there is one. -/
def resT (o : Option Int) : D := .tuple [.int .i64 (o.getD 0), .bool o.isSome]
theorem mul_fit {a b : Int} (ha : fitsB a = true) (hb : fitsB b = true) : -4611686014132420609 ≤ a * b ∧ a * b ≤ 4611686014132420609 := by
  rw [fitsB_iff] at ha hb
  have h1 : (a * b).natAbs ≤ 2147483647 * 2147483647 := by
    rw [Int.natAbs_mul]
    exact Nat.mul_le_mul (by omega) (by omega)
  omega
theorem tdiv_fit {a b : Int} (ha : fitsB a = true) : fitsB (a.tdiv b) = true := by
  rw [fitsB_iff] at ha ⊢
  have h1 : (a.tdiv b).natAbs ≤ a.natAbs := by
    rw [Int.natAbs_tdiv]
    exact Nat.div_le_self _ _
  omega
theorem tmod_fit {a b : Int} (ha : fitsB a = true) : fitsB (a.tmod b) = true := by
  rw [fitsB_iff] at ha ⊢
  have h1 : (a.tmod b).natAbs ≤ a.natAbs := by
    rw [Int.natAbs_tmod]
    exact Nat.mod_le _ _
  omega
end Go.Sx

/- ALL ROWS OF LISTS, PLAIN. -/
namespace Go.Sx
/-- A new number behind, if it is not there. -/
def insI (n : Int) (acc : List Int) : List Int := if n ∈ acc then acc else acc ++ [n]
def intD (l : List Int) : List D := l.map (.int .i64)
theorem mput_int (n : Int) : ∀ acc : List Int, mput (.int .i64 n) (.int .i64 n) (intD acc) (intD acc) = some (intD (insI n acc), intD (insI n acc))
  | [] => rfl
  | a :: r => by
    have ih := mput_int n r
    simp only [intD, List.map_cons, mput, keqD, if_true]
    by_cases h : n = a
    · subst h
      simp [insI]
    · have hd : decide (n = a) = false := by simp [h]
      rw [hd]
      simp only [intD] at ih
      rw [ih]
      by_cases h2 : n ∈ r
      · simp [insI, h2]
      · simp [insI, h2, h]
theorem insI_len (n : Int) (acc : List Int) : acc.length ≤ (insI n acc).length := by
  unfold insI
  split
  · exact Nat.le_refl _
  · simp
/-- What a row of operands adds. -/
def opB (s : List UInt8) (row acc : List Int) : List Int := match calcR s row with
  | some n => insI n acc
  | none => acc
theorem opB_len (s : List UInt8) (row acc : List Int) : acc.length ≤ (opB s row acc).length := by
  unfold opB
  split
  · exact insI_len _ _
  · exact Nat.le_refl _
/-- A fold over the rows, the row filled from the k-th place on. -/
def fillS {α β : Type} (f : List α → β → β) : List (List α) → Nat → List α × β → List α × β
  | [], _, p => (p.1, f p.1 p.2)
  | l :: ls, k, p => l.foldl (fun p x => fillS f ls (k + 1) (p.1.set k x, p.2)) p
theorem fillS_len {α β : Type} {f : List α → β → β} : ∀ (ls : List (List α)) (k : Nat) (p : List α × β), (fillS f ls k p).1.length = p.1.length
  | [], _, _ => rfl
  | l :: ls, k, p => by
    simp only [fillS]
    have ih := fillS_len (f := f) ls (k + 1)
    generalize fillS f ls (k + 1) = g at ih
    revert p
    intro p
    induction l generalizing p with
    | nil => rfl
    | cons x l ihl => simp only [List.foldl_cons]; rw [ihl, ih]; simp
/-- A size that grows from row to row. -/
theorem fillS_mono {α β : Type} {f : List α → β → β} {z : β → Nat} (hz : ∀ r b, z b ≤ z (f r b)) : ∀ (ls : List (List α)) (k : Nat) (p : List α × β), z p.2 ≤ z (fillS f ls k p).2
  | [], _, p => hz _ _
  | l :: ls, k, p => by
    simp only [fillS]
    have ih := fillS_mono hz ls (k + 1)
    generalize fillS f ls (k + 1) = g at ih
    revert p
    intro p
    induction l generalizing p with
    | nil => exact Nat.le_refl _
    | cons x l ihl => simp only [List.foldl_cons]; exact Nat.le_trans (ih (p.1.set k x, p.2)) (ihl _)
theorem fold_mono {α β : Type} {f : List α → β → β} {z : β → Nat} (hz : ∀ r b, z b ≤ z (f r b)) (ls : List (List α)) (k : Nat) : ∀ (l : List α) (p : List α × β), z p.2 ≤ z (l.foldl (fun p x => fillS f ls (k + 1) (p.1.set k x, p.2)) p).2
  | [], p => Nat.le_refl _
  | x :: l, p => by
    simp only [List.foldl_cons]
    exact Nat.le_trans (fillS_mono hz ls (k + 1) (p.1.set k x, p.2)) (fold_mono hz ls k l _)
/-- The rows, in their order. -/
def prodL {α : Type} : List (List α) → List (List α)
  | [] => [[]]
  | l :: ls => l.flatMap fun x => (prodL ls).map (x :: ·)
theorem fillS_prod {α β : Type} (f : List α → β → β) : ∀ (ls : List (List α)) (k : Nat) (row : List α) (b : β), k + ls.length = row.length → (fillS f ls k (row, b)).2 = (prodL ls).foldl (fun b r => f (row.take k ++ r) b) b ∧ (fillS f ls k (row, b)).1.take k = row.take k
  | [], k, row, b, h => by
    simp only [List.length_nil, Nat.add_zero] at h
    subst h
    simp [fillS, prodL]
  | l :: ls, k, row, b, h => by
    simp only [List.length_cons] at h
    have ih := fillS_prod f ls (k + 1)
    have hl := fillS_len (f := f) ls (k + 1)
    simp only [fillS, prodL]
    generalize fillS f ls (k + 1) = g at ih hl ⊢
    generalize hm : prodL ls = m at ih ⊢
    clear hm
    suffices H : ∀ (l : List α) (row : List α) (b : β), k + (ls.length + 1) = row.length → (l.foldl (fun p x => g (p.1.set k x, p.2)) (row, b)).2 = (l.flatMap fun x => m.map (x :: ·)).foldl (fun b r => f (row.take k ++ r) b) b ∧ (l.foldl (fun p x => g (p.1.set k x, p.2)) (row, b)).1.take k = row.take k from H l row b h
    intro l
    induction l with
    | nil => intro row b _; exact ⟨rfl, rfl⟩
    | cons x l ihl =>
      intro row b h
      obtain ⟨h1, h2⟩ := ih (row.set k x) b (by simp; omega)
      have hl2 := hl (row.set k x, b)
      simp only [List.foldl_cons, List.flatMap_cons, List.foldl_append]
      have htk : (g (row.set k x, b)).1.take k = row.take k := by
        have := congrArg (List.take k) h2
        rw [List.take_take, List.take_take, Nat.min_eq_left (by omega)] at this
        rw [this]
        exact List.take_set_of_le (Nat.le_refl k)
      obtain ⟨h3, h4⟩ := ihl (g (row.set k x, b)).1 (g (row.set k x, b)).2 (by rw [hl2]; simpa using h)
      rw [htk] at h3 h4
      refine ⟨?_, h4⟩
      rw [h3, h1, List.foldl_map]
      have ht : (row.set k x).take (k + 1) = row.take k ++ [x] := by
        rw [List.take_add_one]
        rw [List.take_set_of_le (Nat.le_refl k), List.getElem?_set_self (by omega)]
        rfl
      rw [ht]
      simp only [List.append_assoc, List.singleton_append]
/-- A number's term. -/
def numT (n : Int) : Tm := .mk 1 n [] []
def numC (l : List Int) : List (List D) := l.map fun n => [.int .u8 1, .int .i64 n, .str [], .slice [] []]
theorem numC_cells (l : List Int) : numC l = Tm.cellsL (l.map numT) := by
  rw [cellsL_map]
  simp [numC, numT, Tm.cells, Tm.cellsL]
def Tm.int? : Tm → Option Int
  | .mk k n _ _ => if k = 1 then some n else none
def intsT (l : List Tm) : List Int := l.filterMap Tm.int?
theorem intsT_cons (k : Nat) (n : Int) (s : List UInt8) (a r : List Tm) : intsT (.mk k n s a :: r) = if k = 1 then n :: intsT r else intsT r := by
  by_cases h : k = 1
  · simp only [intsT, List.filterMap_cons, Tm.int?, if_pos h]
  · simp only [intsT, List.filterMap_cons, Tm.int?, if_neg h]
theorem full_ix {n : Nat} {ix : List Nat} (hnd : ix.Nodup) (hlt : ∀ i ∈ ix, i < n) (hl : n ≤ ix.length) (i : Nat) (hi : i < n) : i ∈ ix := by
  by_cases h : i ∈ ix
  · exact h
  · have := List.Nodup.length_le_of_subset (List.nodup_cons.2 ⟨h, hnd⟩) (l₂ := List.range n) (fun j hj => by
      rcases List.mem_cons.1 hj with rfl | hj
      · exact List.mem_range.2 hi
      · exact List.mem_range.2 (hlt j hj))
    simp at this
    omega
theorem perm_ix {acc : List Int} {ix : List Nat} (hnd : ix.Nodup) (hlt : ∀ i ∈ ix, i < acc.length) (hall : ∀ i, i < acc.length → i ∈ ix) : (ix.map fun i => acc.getD i 0).Perm acc := by
  have h : ix.Perm (List.range acc.length) := (List.perm_ext_iff_of_nodup hnd List.nodup_range).2 fun i => ⟨fun hi => List.mem_range.2 (hlt i hi), fun hi => hall i (List.mem_range.1 hi)⟩
  refine (h.map _).trans ?_
  have e : (List.range acc.length).map (fun i => acc.getD i 0) = acc := by
    refine List.ext_getElem? fun j => ?_
    rw [List.getElem?_map]
    by_cases hj : j < acc.length
    · simp [hj]
    · rw [List.getElem?_eq_none (by simpa using hj), List.getElem?_eq_none (by omega)]; rfl
  rw [e]
end Go.Sx

/- Laws of the lexer. -/
namespace Go.Sx.Lx
open Go.Sx

/-- A byte that ends every token. -/
def isSep (c : UInt8) : Bool := isBlank c || c == 37

theorem sep_all : (List.range 256).all (fun n => !(isSep (UInt8.ofNat n)) || (!(isName (UInt8.ofNat n)) && !(isDig (UInt8.ofNat n)) && !(isLet (UInt8.ofNat n)) && signL.all fun s => !(s.contains (UInt8.ofNat n)))) = true := by decide +kernel
theorem sep_spec {c : UInt8} (h : isSep c = true) : isName c = false ∧ isDig c = false ∧ isLet c = false ∧ ∀ s ∈ signL, c ∉ s := by
  have := List.all_eq_true.1 sep_all c.toNat (List.mem_range.2 c.toNat_lt)
  simp only [UInt8.ofNat_toNat, h, Bool.not_true, Bool.false_or, Bool.and_eq_true, Bool.not_eq_true', List.all_eq_true] at this
  refine ⟨this.1.1.1, this.1.1.2, this.1.2, fun s hs hm => ?_⟩
  have h1 := this.2 s hs
  rw [List.contains_iff_mem.2 hm] at h1
  cases h1

theorem takeWhile_sep {p : UInt8 → Bool} {c : UInt8} (h : p c = false) (r : List UInt8) : ∀ l : List UInt8, (l ++ c :: r).takeWhile p = l.takeWhile p
  | [] => by simp [List.takeWhile_cons, h]
  | b :: l => by
    simp only [List.cons_append, List.takeWhile_cons]
    split
    · rw [takeWhile_sep h r l]
    · rfl
theorem prefix_sep {c : UInt8} (r : List UInt8) : ∀ (s l : List UInt8), c ∉ s → s.isPrefixOf (l ++ c :: r) = s.isPrefixOf l
  | [], l, _ => by cases l <;> rfl
  | x :: s, [], h => by
    have : (x == c) = false := by
      cases hx : x == c with
      | false => rfl
      | true => rw [eq_of_beq hx] at h; simp at h
    simp [List.isPrefixOf, this]
  | x :: s, b :: l, h => by
    simp only [List.cons_append, List.isPrefixOf]
    rw [prefix_sep r s l (fun hm => h (List.mem_cons_of_mem _ hm))]
theorem find_congr {α : Type} {p q : α → Bool} : ∀ {l : List α}, (∀ x ∈ l, p x = q x) → l.find? p = l.find? q
  | [], _ => rfl
  | x :: l, h => by
    rw [List.find?_cons, List.find?_cons, h x (List.mem_cons_self ..), find_congr fun y hy => h y (List.mem_cons_of_mem _ hy)]
theorem signOf_sep {c : UInt8} (hc : isSep c = true) (l r : List UInt8) : signOf (l ++ c :: r) = signOf l := by
  unfold signOf
  rw [find_congr fun s hs => prefix_sep r s l ((sep_spec hc).2.2.2 s hs)]
/-- What follows behind a separator does not matter. -/
theorem tok_sep {c : UInt8} (hc : isSep c = true) {l : List UInt8} (hl : l ≠ []) (r : List UInt8) : tok (l ++ c :: r) = tok l := by
  obtain ⟨h1, h2, h3, _⟩ := sep_spec hc
  cases l with
  | nil => exact absurd rfl hl
  | cons b l =>
    have e1 : (b :: l ++ c :: r).takeWhile isName = (b :: l).takeWhile isName := takeWhile_sep h1 r (b :: l)
    have e2 : (b :: l ++ c :: r).takeWhile isDig = (b :: l).takeWhile isDig := takeWhile_sep h2 r (b :: l)
    have e3 : (l ++ c :: r).takeWhile isLet = l.takeWhile isLet := takeWhile_sep h3 r l
    have e4 : signOf (b :: l ++ c :: r) = signOf (b :: l) := signOf_sep hc (b :: l) r
    simp only [List.cons_append] at e1 e2 e3 e4
    simp only [tok, List.cons_append, e1, e2, e3, e4]

theorem skp_sep (b : List UInt8) : ∀ (c : Bool) (l : List UInt8), skp c (l ++ 10 :: b) = if skp c l = l.length then l.length + 1 + skp false b else skp c l
  | false, [] => by simp [skp, isBlank]
  | true, [] => by simp [skp]
  | false, x :: l => by
    simp only [List.cons_append, skp]
    have h1 := skp_sep b false l
    have h2 := skp_sep b true l
    split
    · rw [h1]; split
      · rename_i h; rw [if_pos (by rw [List.length_cons]; omega), List.length_cons]; omega
      · rename_i h; rw [if_neg (by rw [List.length_cons]; omega)]
    split
    · rw [h2]; split
      · rename_i h; rw [if_pos (by rw [List.length_cons]; omega), List.length_cons]; omega
      · rename_i h; rw [if_neg (by rw [List.length_cons]; omega)]
    · rw [if_neg (by simp)]
  | true, x :: l => by
    simp only [List.cons_append, skp]
    have h1 := skp_sep b false l
    have h2 := skp_sep b true l
    split
    · rw [h1]; split
      · rename_i h; rw [if_pos (by rw [List.length_cons]; omega), List.length_cons]; omega
      · rename_i h; rw [if_neg (by rw [List.length_cons]; omega)]
    · rw [h2]; split
      · rename_i h; rw [if_pos (by rw [List.length_cons]; omega), List.length_cons]; omega
      · rename_i h; rw [if_neg (by rw [List.length_cons]; omega)]

/-- More fuel does not matter. -/
theorem toksF_fuel : ∀ (f g o : Nat) (l : List UInt8), l.length < f → l.length < g → toksF f o l = toksF g o l := by
  intro f
  induction f with
  | zero => intro g o l h; omega
  | succ f ih =>
    intro g o l hf hg
    cases g with
    | zero => omega
    | succ g =>
      cases l with
      | nil => rfl
      | cons b r =>
        simp only [toksF]
        split
        · rename_i he
          have hp := tok_pos (l := b :: r) (by simp) he
          have hl : ((b :: r).drop ((tok (b :: r)).2.1.length + skp false ((b :: r).drop (tok (b :: r)).2.1.length))).length < r.length + 1 := by
            rw [List.length_drop, List.length_cons]; omega
          rw [List.length_cons] at hf hg
          rw [ih g _ _ (by omega) (by omega)]
        · rfl
/-- The run that begins with blanks and comments. -/
def run (o : Nat) (l : List UInt8) : List Tk × Option (Nat × Int) × Nat := toksF (l.length + 1) (o + skp false l) (l.drop (skp false l))
theorem run_end {o : Nat} {l : List UInt8} (h : skp false l = l.length) : run o l = ([], none, o + l.length) := by
  unfold run
  rw [h, List.drop_length]; rfl
theorem run_go {o : Nat} {l : List UInt8} (h : skp false l ≠ l.length) : run o l =
    if (tok (l.drop (skp false l))).2.2 = 0 then
      (((tok (l.drop (skp false l))).1, (tok (l.drop (skp false l))).2.1, ((o + skp false l : Nat) : Int)) :: (run (o + skp false l + (tok (l.drop (skp false l))).2.1.length) (l.drop (skp false l + (tok (l.drop (skp false l))).2.1.length))).1,
        (run (o + skp false l + (tok (l.drop (skp false l))).2.1.length) (l.drop (skp false l + (tok (l.drop (skp false l))).2.1.length))).2)
    else ([], some (o + skp false l, (tok (l.drop (skp false l))).2.2), o + skp false l + (tok (l.drop (skp false l))).2.1.length) := by
  have hk := skp_le false l
  have hne : l.drop (skp false l) ≠ [] := fun he => by
    have := congrArg List.length he
    rw [List.length_drop, List.length_nil] at this
    omega
  unfold run
  generalize hd : l.drop (skp false l) = d at hne ⊢
  have hdl : d.length ≤ l.length := by rw [← hd, List.length_drop]; omega
  cases d with
  | nil => exact absurd rfl hne
  | cons b r =>
    have hl : 0 < l.length := by rw [List.length_cons] at hdl; omega
    rw [List.length_cons] at hdl
    cases hlen : l.length with
    | zero => omega
    | succ m =>
      simp only [toksF]
      split
      · rename_i he
        have hp := tok_pos (l := b :: r) (by simp) he
        have e : l.drop (skp false l + (tok (b :: r)).2.1.length) = (b :: r).drop (tok (b :: r)).2.1.length := by rw [← hd, List.drop_drop]
        rw [e, List.drop_drop]
        have hl2 : ((b :: r).drop ((tok (b :: r)).2.1.length + skp false ((b :: r).drop (tok (b :: r)).2.1.length))).length < r.length + 1 := by
          rw [List.length_drop, List.length_cons]; omega
        have hl3 : ((b :: r).drop ((tok (b :: r)).2.1.length + skp false ((b :: r).drop (tok (b :: r)).2.1.length))).length < ((b :: r).drop (tok (b :: r)).2.1.length).length + 1 := by
          simp only [List.length_drop]; omega
        rw [toksF_fuel (m + 1) (((b :: r).drop (tok (b :: r)).2.1.length).length + 1) _ _ (by omega) hl3]
      · rfl

theorem drop_app {l r : List UInt8} {n : Nat} (h : n ≤ l.length) : (l ++ r).drop n = l.drop n ++ r := by
  rw [List.drop_append, show n - l.length = 0 by omega, List.drop_zero]

/-- Two sources with a newline between. -/
theorem run_split (b : List UInt8) : ∀ (m : Nat) (l : List UInt8) (o : Nat), l.length < m → run o (l ++ 10 :: b) =
    match run o l with
    | (ts, some e, p) => (ts, some e, p)
    | (ts, none, _) => (ts ++ (run (o + l.length + 1) b).1, (run (o + l.length + 1) b).2) := by
  intro m
  induction m with
  | zero => intro l o h; omega
  | succ m ih =>
    intro l o hm
    have hk := skp_le false l
    have hs := skp_sep b false l
    by_cases h : skp false l = l.length
    · rw [run_end h]
      rw [if_pos h] at hs
      simp only [List.nil_append]
      unfold run
      rw [hs]
      have e : (l ++ 10 :: b).drop (l.length + 1 + skp false b) = b.drop (skp false b) := by
        rw [List.drop_append, List.drop_eq_nil_of_le (by omega), List.nil_append, show l.length + 1 + skp false b - l.length = skp false b + 1 by omega, List.drop_succ_cons]
      have hlb : (b.drop (skp false b)).length ≤ b.length := by rw [List.length_drop]; omega
      rw [e, toksF_fuel ((l ++ 10 :: b).length + 1) (b.length + 1) _ _ (by rw [List.length_append, List.length_cons]; omega) (by omega)]
      rw [show o + (l.length + 1 + skp false b) = o + l.length + 1 + skp false b by omega]
    · rw [if_neg h] at hs
      have h' : skp false (l ++ 10 :: b) ≠ (l ++ 10 :: b).length := by rw [hs, List.length_append, List.length_cons]; omega
      have hd : (l ++ 10 :: b).drop (skp false (l ++ 10 :: b)) = l.drop (skp false l) ++ 10 :: b := by rw [hs]; exact drop_app hk
      have hne : l.drop (skp false l) ≠ [] := fun he => by
        have := congrArg List.length he
        rw [List.length_drop, List.length_nil] at this
        omega
      rw [run_go h', run_go h, hd, tok_sep (by decide) hne b, hs]
      have htl := tok_len (l.drop (skp false l))
      rw [List.length_drop] at htl
      have e2 : (l ++ 10 :: b).drop (skp false l + (tok (l.drop (skp false l))).2.1.length) = l.drop (skp false l + (tok (l.drop (skp false l))).2.1.length) ++ 10 :: b := drop_app (by omega)
      rw [e2]
      by_cases he : (tok (l.drop (skp false l))).2.2 = 0
      · rw [if_pos he, if_pos he]
        have hp := tok_pos hne he
        rw [ih (l.drop (skp false l + (tok (l.drop (skp false l))).2.1.length)) _ (by rw [List.length_drop]; omega)]
        have el : o + skp false l + (tok (l.drop (skp false l))).2.1.length + (l.drop (skp false l + (tok (l.drop (skp false l))).2.1.length)).length + 1 = o + l.length + 1 := by
          rw [List.length_drop]; omega
        rw [el]
        rcases run (o + skp false l + (tok (l.drop (skp false l))).2.1.length) (l.drop (skp false l + (tok (l.drop (skp false l))).2.1.length)) with ⟨ts, _ | e, p⟩ <;> rfl
      · rw [if_neg he, if_neg he]

/-- A run begun later. -/
def shift (d : Nat) (r : List Tk × Option (Nat × Int) × Nat) : List Tk × Option (Nat × Int) × Nat := (r.1.map fun t => (t.1, t.2.1, t.2.2 + d), r.2.1.map fun e => (e.1 + d, e.2), r.2.2 + d)
theorem run_shift (d : Nat) : ∀ (m : Nat) (l : List UInt8) (o : Nat), l.length < m → run (o + d) l = shift d (run o l) := by
  intro m
  induction m with
  | zero => intro l o h; omega
  | succ m ih =>
    intro l o hm
    have hk := skp_le false l
    by_cases h : skp false l = l.length
    · rw [run_end h, run_end h]
      simp only [shift, List.map_nil, Option.map_none]
      rw [show o + d + l.length = o + l.length + d by omega]
    · have hne : l.drop (skp false l) ≠ [] := fun he => by
        have := congrArg List.length he
        rw [List.length_drop, List.length_nil] at this
        omega
      rw [run_go h, run_go h]
      by_cases he : (tok (l.drop (skp false l))).2.2 = 0
      · rw [if_pos he, if_pos he]
        have hp := tok_pos hne he
        rw [show o + d + skp false l + (tok (l.drop (skp false l))).2.1.length = o + skp false l + (tok (l.drop (skp false l))).2.1.length + d by omega]
        rw [ih _ _ (by rw [List.length_drop]; omega)]
        simp only [shift, List.map_cons]
        rw [show ((o + d + skp false l : Nat) : Int) = ((o + skp false l : Nat) : Int) + d by omega]
      · rw [if_neg he, if_neg he]
        simp only [shift, List.map_nil, Option.map_some]
        rw [show o + d + skp false l = o + skp false l + d by omega, show o + skp false l + d + (tok (l.drop (skp false l))).2.1.length = o + skp false l + (tok (l.drop (skp false l))).2.1.length + d by omega]

/-- A run's answer. -/
def ans (r : List Tk × Option (Nat × Int) × Nat) : List Tk × Int × Int := match r with
  | (_, some (a, e), _) => ([], a, e)
  | (l, none, _) => (l, 0, 0)
theorem lexR_eq (s : List UInt8) : lexR s = if 32768 < s.length then ([], 0, 3) else ans (run 0 s) := by
  unfold lexR run ans
  rw [Nat.zero_add]
  all_goals rfl
theorem run_err : ∀ (m : Nat) (l : List UInt8) (o : Nat), l.length < m → ∀ a e, (run o l).2.1 = some (a, e) → e ≠ 0 ∧ o ≤ a ∧ a < o + l.length ∧ (e = 30 ∨ e = 31 ∨ e = 32) := by
  intro m
  induction m with
  | zero => intro l o h; omega
  | succ m ih =>
    intro l o hm a e hr
    have hk := skp_le false l
    by_cases h : skp false l = l.length
    · rw [run_end h] at hr; cases hr
    · have hne : l.drop (skp false l) ≠ [] := fun he => by
        have := congrArg List.length he
        rw [List.length_drop, List.length_nil] at this
        omega
      rw [run_go h] at hr
      by_cases he : (tok (l.drop (skp false l))).2.2 = 0
      · rw [if_pos he] at hr
        have hp := tok_pos hne he
        have htl := tok_len (l.drop (skp false l))
        rw [List.length_drop] at htl
        obtain ⟨h1, h2, h3, h4⟩ := ih _ _ (by rw [List.length_drop]; omega) a e hr
        rw [List.length_drop] at h3
        exact ⟨h1, by omega, by omega, h4⟩
      · rw [if_neg he] at hr
        simp only [Option.some.injEq, Prod.mk.injEq] at hr
        obtain ⟨rfl, rfl⟩ := hr
        refine ⟨he, by omega, by omega, ?_⟩
        generalize l.drop (skp false l) = x at he ⊢
        unfold tok at he ⊢
        cases x with
        | nil => simp at he
        | cons b r =>
          simp only at he ⊢
          split at he
          · rename_i h1
            rw [if_pos h1]
            simp only [wordK] at he ⊢
            repeat' split at he
            all_goals first | (exact absurd rfl he) | skip
            rename_i g1 g2 g3
            rw [if_neg g1, if_neg g2, if_neg g3]; simp
          · rename_i h1
            rw [if_neg h1]
            split at he
            · rename_i h2
              rw [if_pos h2]
              simp only [numE] at he ⊢
              split at he
              · rename_i n hn
                repeat' split at he
                all_goals first | (exact absurd rfl he) | skip
                all_goals simp_all
              · rename_i hn
                simp_all
            · rename_i h2
              rw [if_neg h2]
              split at he
              · rename_i h3
                rw [if_pos h3]
                simp only at he ⊢
                split at he
                · exact absurd rfl he
                · rename_i h4; rw [if_neg h4]; simp
              · rename_i h3
                rw [if_neg h3]
                simp only at he ⊢
                split at he
                · rename_i h4; rw [if_pos h4]; simp
                · exact absurd rfl he
end Go.Sx.Lx
namespace Go.Sx.Lx
theorem run_toks : ∀ (m : Nat) (l : List UInt8) (o : Nat), l.length < m → (run o l).1.length ≤ l.length ∧ ∀ t ∈ (run o l).1, (o : Int) ≤ t.2.2 ∧ t.2.2 + t.2.1.length ≤ o + l.length := by
  intro m
  induction m with
  | zero => intro l o h; omega
  | succ m ih =>
    intro l o hm
    have hk := skp_le false l
    by_cases h : skp false l = l.length
    · rw [run_end h]; exact ⟨by simp, fun t ht => by cases ht⟩
    · have hne : l.drop (skp false l) ≠ [] := fun he => by
        have := congrArg List.length he
        rw [List.length_drop, List.length_nil] at this
        omega
      rw [run_go h]
      by_cases he : (tok (l.drop (skp false l))).2.2 = 0
      · rw [if_pos he]
        have hp := tok_pos hne he
        have htl := tok_len (l.drop (skp false l))
        rw [List.length_drop] at htl
        obtain ⟨h1, h2⟩ := ih (l.drop (skp false l + (tok (l.drop (skp false l))).2.1.length)) (o + skp false l + (tok (l.drop (skp false l))).2.1.length) (by rw [List.length_drop]; omega)
        rw [List.length_drop] at h1 h2
        refine ⟨by simp only [List.length_cons]; omega, fun t ht => ?_⟩
        rcases List.mem_cons.1 ht with rfl | ht
        · simp only; omega
        · have := h2 t ht; omega
      · rw [if_neg he]; exact ⟨by simp, fun t ht => by cases ht⟩
theorem shift_map (d : Nat) (l : List Tk) : (l.map fun t => ((t.1, t.2.1, t.2.2 + (d : Int)) : Tk)).map (fun t => (t.1, t.2.1)) = l.map fun t => (t.1, t.2.1) := by
  rw [List.map_map]; rfl
theorem alikeB_self (l : List Tk) : alikeB l l = true := (alikeB_iff l l).2 rfl
theorem map_de_to (l : List (List D)) (h : ∃ k : List Tk, l = k.map tokC) : l = (l.map deT).map tokC := by
  obtain ⟨k, rfl⟩ := h
  rw [map_deT]
end Go.Sx.Lx
namespace Go.Sx.Lx
theorem sep_35 : (List.range 256).all (fun n => !(isSep (UInt8.ofNat n)) || !(UInt8.ofNat n == 35)) = true := by decide +kernel
theorem sign_ne : ∀ s ∈ signL, s ≠ [] := by decide
theorem sep_tok {b : UInt8} (h : isSep b = true) (r : List UInt8) : (tok (b :: r)).2.2 ≠ 0 := by
  obtain ⟨h1, h2, h3, h4⟩ := sep_spec h
  have h5 : (b == 35) = false := by
    have := List.all_eq_true.1 sep_35 b.toNat (List.mem_range.2 b.toNat_lt)
    simpa [h] using this
  have h6 : (isLet b || isUnd b) = false := by
    simp only [isName, Bool.or_eq_false_iff] at h1
    simp only [h1.1.1, h1.2, Bool.or_false]
  have h7 : signOf (b :: r) = [] := by
    unfold signOf
    have : signL.find? (·.isPrefixOf (b :: r)) = none := by
      rw [List.find?_eq_none]
      intro s hs hp
      cases s with
      | nil => exact sign_ne _ hs rfl
      | cons x s =>
        have : x = b := by simp [List.isPrefixOf] at hp; exact hp.1
        exact h4 _ hs (by rw [this]; exact List.mem_cons_self ..)
    rw [this]; rfl
  simp only [tok, h6, h2, h5, Bool.false_eq_true, if_false, h7, if_true]
  decide

theorem takeWhile_idem (p : UInt8 → Bool) (l : List UInt8) : (l.takeWhile p).takeWhile p = l.takeWhile p := by
  induction l with
  | nil => rfl
  | cons b r ih =>
    rw [List.takeWhile_cons]
    split
    · rename_i h; rw [List.takeWhile_cons, if_pos h, ih]
    · rfl
theorem sign_self : ∀ s ∈ signL, signOf s = s := by decide +kernel
theorem sign_first : ∀ s ∈ signL, ∀ b ∈ s.head?, isLet b = false ∧ isUnd b = false ∧ isDig b = false ∧ (b == 35) = false := by decide +kernel
theorem signOf_mem {l : List UInt8} (h : signOf l ≠ []) : signOf l ∈ signL := by
  unfold signOf at h ⊢
  cases hf : signL.find? (·.isPrefixOf l) with
  | none => rw [hf] at h; exact absurd rfl h
  | some s => exact List.mem_of_find?_eq_some hf
/-- A token's text, read by itself, is that token. -/
theorem tok_self {l : List UInt8} (hl : l ≠ []) (h : (tok l).2.2 = 0) : tok (tok l).2.1 = tok l := by
  cases l with
  | nil => exact absurd rfl hl
  | cons b r =>
    by_cases h1 : (isLet b || isUnd b) = true
    · have e : tok (b :: r) = ((wordK ((b :: r).takeWhile isName)).1, (b :: r).takeWhile isName, (wordK ((b :: r).takeWhile isName)).2) := by simp only [tok, h1, if_true]
      have hb : isName b = true := by simp only [isName]; simp only [Bool.or_eq_true] at h1 ⊢; rcases h1 with h | h <;> simp [h]
      have e2 : (b :: r).takeWhile isName = b :: r.takeWhile isName := by rw [List.takeWhile_cons, if_pos hb]
      rw [e]
      simp only
      rw [e2]
      simp only [tok, h1, if_true]
      have e3 : (b :: r.takeWhile isName).takeWhile isName = b :: r.takeWhile isName := by rw [List.takeWhile_cons, if_pos hb, takeWhile_idem]
      rw [e3]
    · by_cases h2 : isDig b = true
      · have e : tok (b :: r) = (3, (b :: r).takeWhile isDig, numE ((b :: r).takeWhile isDig)) := by simp only [tok, h1, h2, if_true, if_false]; simp
        have e2 : (b :: r).takeWhile isDig = b :: r.takeWhile isDig := by rw [List.takeWhile_cons, if_pos h2]
        have e3 : (b :: r.takeWhile isDig).takeWhile isDig = b :: r.takeWhile isDig := by rw [List.takeWhile_cons, if_pos h2, takeWhile_idem]
        rw [e]
        simp only
        rw [e2]
        simp only [tok, h1, h2, if_true, e3]; simp
      · by_cases h3 : (b == 35) = true
        · have e : tok (b :: r) = (5, 35 :: r.takeWhile isLet, if 35 :: r.takeWhile isLet ∈ dirs then 0 else 31) := by simp only [tok, h1, h2, h3, if_true]; simp
          have hb : b = 35 := eq_of_beq h3
          subst hb
          rw [e]
          have e4 : tok (35 :: r.takeWhile isLet) = (5, 35 :: (r.takeWhile isLet).takeWhile isLet, if 35 :: (r.takeWhile isLet).takeWhile isLet ∈ dirs then 0 else 31) := by simp only [tok, h1, h2, h3, if_true]; simp
          rw [e4, takeWhile_idem]
        · have e : tok (b :: r) = (6, signOf (b :: r), if signOf (b :: r) = [] then 30 else 0) := by simp only [tok, h1, h2, h3]; simp
          rw [e] at h ⊢
          simp only at h ⊢
          by_cases hs : signOf (b :: r) = []
          · rw [if_pos hs] at h; cases h
          · have hm := signOf_mem hs
            have hself := sign_self _ hm
            have hf := sign_first _ hm
            generalize signOf (b :: r) = s at hs hm hself hf ⊢
            cases s with
            | nil => exact absurd rfl hs
            | cons x s =>
              obtain ⟨g1, g2, g3, g4⟩ := hf x rfl
              simp only [tok, g1, g2, g3, g4, Bool.or_self, Bool.false_eq_true, if_false, hself]

/-- A token that stands by itself. -/
def Val (t : Tk) : Prop := t.2.1 ≠ [] ∧ tok t.2.1 = (t.1, t.2.1, 0)
theorem val_of {l : List UInt8} (hl : l ≠ []) (h : (tok l).2.2 = 0) (a : Int) : Val ((tok l).1, (tok l).2.1, a) := by
  have hp := tok_pos hl h
  refine ⟨fun he => by rw [he] at hp; simp at hp, ?_⟩
  rw [tok_self hl h]
  exact Prod.ext rfl (Prod.ext rfl h)
theorem run_val : ∀ (m : Nat) (l : List UInt8) (o : Nat), l.length < m → ∀ t ∈ (run o l).1, Val t := by
  intro m
  induction m with
  | zero => intro l o h; omega
  | succ m ih =>
    intro l o hm
    have hk := skp_le false l
    by_cases h : skp false l = l.length
    · rw [run_end h]; intro t ht; cases ht
    · have hne : l.drop (skp false l) ≠ [] := fun he => by
        have := congrArg List.length he
        rw [List.length_drop, List.length_nil] at this
        omega
      rw [run_go h]
      by_cases he : (tok (l.drop (skp false l))).2.2 = 0
      · rw [if_pos he]
        have hp := tok_pos hne he
        intro t ht
        rcases List.mem_cons.1 ht with rfl | ht
        · exact val_of hne he _
        · exact ih (l.drop (skp false l + (tok (l.drop (skp false l))).2.1.length)) _ (by rw [List.length_drop]; omega) t ht
      · rw [if_neg he]; intro t ht; cases ht

/-- It begins with a separator, or is empty. -/
def Sepd (r : List UInt8) : Prop := r = [] ∨ ∃ c q, r = c :: q ∧ isSep c = true
theorem val_tok {t : Tk} (h : Val t) {r : List UInt8} (hr : Sepd r) : tok (t.2.1 ++ r) = (t.1, t.2.1, 0) := by
  rcases hr with rfl | ⟨c, q, rfl, hc⟩
  · rw [List.append_nil]; exact h.2
  · rw [tok_sep hc h.1]; exact h.2
theorem val_head {t : Tk} (h : Val t) : ∃ b r, t.2.1 = b :: r ∧ isSep b = false := by
  obtain ⟨h1, h2⟩ := h
  cases hs : t.2.1 with
  | nil => exact absurd hs h1
  | cons b r =>
    refine ⟨b, r, rfl, ?_⟩
    rw [hs] at h2
    cases hb : isSep b with
    | false => rfl
    | true => exact absurd (by rw [h2]) (sep_tok hb r)
theorem skp_head {b : UInt8} (h : isSep b = false) (r : List UInt8) : skp false (b :: r) = 0 := by
  simp only [isSep, Bool.or_eq_false_iff] at h
  simp only [skp, h.1, h.2, Bool.false_eq_true, if_false]
/-- A gap: blanks and comments that end before what is no separator. -/
def Gap (g : List UInt8) : Prop := ∀ b r, isSep b = false → skp false (g ++ b :: r) = g.length
theorem run_piece {g : List UInt8} {t : Tk} {r : List UInt8} (hg : Gap g) (ht : Val t) (hr : Sepd r) (o : Nat) :
    run o (g ++ (t.2.1 ++ r)) = ((t.1, t.2.1, ((o + g.length : Nat) : Int)) :: (run (o + g.length + t.2.1.length) r).1, (run (o + g.length + t.2.1.length) r).2) := by
  obtain ⟨b, q, hb, hs⟩ := val_head ht
  have h1 : skp false (g ++ (t.2.1 ++ r)) = g.length := by rw [hb]; exact hg b (q ++ r) hs
  have h2 : (g ++ (t.2.1 ++ r)).drop g.length = t.2.1 ++ r := List.drop_left' rfl
  have hlt : 0 < t.2.1.length := by rw [hb]; simp
  rw [run_go (by rw [h1]; simp only [List.length_append]; omega), h1, h2, val_tok ht hr, if_pos rfl]
  have h3 : (g ++ (t.2.1 ++ r)).drop (g.length + t.2.1.length) = r := by rw [← List.drop_drop, h2, List.drop_left' rfl]
  rw [h3]
theorem gap_nil : Gap [] := fun b r h => by simpa using skp_head h r
theorem gap_blank {c : UInt8} (h : isBlank c = true) {g : List UInt8} (hg : Gap g) : Gap (c :: g) := fun b r hb => by
  simp only [List.cons_append, skp, h, if_true, hg b r hb, List.length_cons]; omega

/-- The texts behind each other, a blank ahead of each. -/
def tailJ : List Tk → List UInt8
  | [] => []
  | t :: r => 32 :: (t.2.1 ++ tailJ r)
theorem tailJ_sep (l : List Tk) : Sepd (tailJ l) := by
  cases l with
  | nil => exact .inl rfl
  | cons t r => exact .inr ⟨32, _, rfl, rfl⟩
theorem run_tailJ : ∀ (l : List Tk) (o : Nat), (∀ t ∈ l, Val t) → (run o (tailJ l)).2.1 = none ∧ alikeB l (run o (tailJ l)).1 = true
  | [], o, _ => by
    have : run o (tailJ []) = ([], none, o + 0) := run_end rfl
    rw [this]; exact ⟨rfl, rfl⟩
  | t :: r, o, h => by
    have hp := run_piece (gap_blank (c := 32) rfl gap_nil) (h t (List.mem_cons_self ..)) (tailJ_sep r) o
    obtain ⟨h1, h2⟩ := run_tailJ r (o + [(32 : UInt8)].length + t.2.1.length) fun x hx => h x (List.mem_cons_of_mem _ hx)
    have e : tailJ (t :: r) = [32] ++ (t.2.1 ++ tailJ r) := rfl
    rw [e, hp]
    refine ⟨h1, ?_⟩
    simp only [alikeB, decide_true, Bool.and_self, Bool.true_and]
    exact h2
theorem joinTail_eq : ∀ l : List Tk, Lib.joinTail [32] (l.map (·.2.1)) = tailJ l
  | [] => rfl
  | t :: r => by
    have := joinTail_eq r
    simp [Lib.joinTail, tailJ] at this ⊢
    exact this
theorem join_tail (t : Tk) (r : List Tk) : Lib.join ((t :: r).map (·.2.1)) [32] = t.2.1 ++ tailJ r := by
  rw [List.map_cons, Lib.join_cons, joinTail_eq]
theorem run_join (l : List Tk) (h : ∀ t ∈ l, Val t) : (run 0 (Lib.join (l.map (·.2.1)) [32])).2.1 = none ∧ alikeB l (run 0 (Lib.join (l.map (·.2.1)) [32])).1 = true := by
  cases l with
  | nil =>
    rw [List.map_nil, Lib.join_nil]
    have : run 0 [] = ([], none, 0 + 0) := run_end rfl
    rw [this]; exact ⟨rfl, rfl⟩
  | cons t r =>
    rw [join_tail]
    have hp := run_piece gap_nil (h t (List.mem_cons_self ..)) (tailJ_sep r) 0
    obtain ⟨h1, h2⟩ := run_tailJ r (0 + ([] : List UInt8).length + t.2.1.length) fun x hx => h x (List.mem_cons_of_mem _ hx)
    rw [List.nil_append] at hp
    rw [hp]
    refine ⟨h1, ?_⟩
    simp only [alikeB, decide_true, Bool.and_self, Bool.true_and]
    exact h2
theorem tailJ_len : ∀ (l : List Tk) (B : Nat), (∀ t ∈ l, t.2.1.length ≤ B) → (tailJ l).length ≤ l.length * (B + 1)
  | [], B, _ => by simp [tailJ]
  | t :: r, B, h => by
    have h1 := h t (List.mem_cons_self ..)
    have h2 := tailJ_len r B fun x hx => h x (List.mem_cons_of_mem _ hx)
    simp only [tailJ, List.length_cons, List.length_append]
    rw [Nat.add_mul, Nat.one_mul]
    omega

/-- What is skipped is blanks and comments. -/
theorem skp_empty : ∀ (c : Bool) (l : List UInt8), emptyB c (l.take (skp c l)) = true
  | _, [] => by simp [skp, emptyB]
  | false, b :: r => by
    have h1 := skp_empty false r
    have h2 := skp_empty true r
    simp only [skp]
    split
    · rename_i hb
      rw [Nat.add_comm, List.take_succ_cons]
      simp only [emptyB]
      simp only [isBlank, Bool.or_eq_true, beq_iff_eq] at hb
      rcases hb with ((rfl | rfl) | rfl) | rfl <;> simp [h1]
    split
    · rename_i hb
      rw [Nat.add_comm, List.take_succ_cons]
      have hb := eq_of_beq hb
      subst hb
      simp [emptyB, h2]
    · simp [emptyB]
  | true, b :: r => by
    have h1 := skp_empty false r
    have h2 := skp_empty true r
    simp only [skp]
    split
    · rename_i hb
      rw [Nat.add_comm, List.take_succ_cons]
      have hb := eq_of_beq hb
      subst hb
      simp [emptyB, h1]
    · rename_i hb
      rw [Nat.add_comm, List.take_succ_cons]
      have hb : b ≠ 10 := fun h => hb (by simp [h])
      simp [emptyB, hb, h2]
/-- The tokens stand in the source, from a place on, with blanks and comments between. -/
def Occ (s : List UInt8) : Nat → List Tk → Prop
  | i, [] => emptyB false (s.drop i) = true
  | i, t :: r => ∃ n : Nat, t.2.2 = (n : Int) ∧ i ≤ n ∧ n + t.2.1.length ≤ s.length ∧ (s.drop n).take t.2.1.length = t.2.1 ∧ emptyB false ((s.take n).drop i) = true ∧ Occ s (n + t.2.1.length) r
theorem tok_take (l : List UInt8) : l.take (tok l).2.1.length = (tok l).2.1 := by
  cases l with
  | nil => simp [tok]
  | cons b r =>
    have tw : ∀ (p : UInt8 → Bool) (l : List UInt8), l.take (l.takeWhile p).length = l.takeWhile p := fun p l => (List.prefix_iff_eq_take.1 (List.takeWhile_prefix p)).symm
    unfold tok
    simp only
    split
    · exact tw _ _
    split
    · exact tw _ _
    split
    · rename_i h; rw [eq_of_beq h]; simp [tw]
    · simp only [signOf]
      cases hf : signL.find? (·.isPrefixOf (b :: r)) with
      | none => simp
      | some s =>
        have := List.find?_some hf
        exact (List.prefix_iff_eq_take.1 (List.isPrefixOf_iff_prefix.1 this)).symm
theorem run_occ (s : List UInt8) : ∀ (m o : Nat), s.length - o < m → o ≤ s.length → (run o (s.drop o)).2.1 = none → Occ s o (run o (s.drop o)).1 := by
  intro m
  induction m with
  | zero => intro o h; omega
  | succ m ih =>
    intro o hm ho hn
    have hk := skp_le false (s.drop o)
    have hem := skp_empty false (s.drop o)
    rw [List.length_drop] at hk
    by_cases h : skp false (s.drop o) = (s.drop o).length
    · rw [run_end h]
      rw [h, List.take_length] at hem
      exact hem
    · have hne : (s.drop o).drop (skp false (s.drop o)) ≠ [] := fun he => by
        have := congrArg List.length he
        rw [List.length_drop, List.length_nil] at this
        have := skp_le false (s.drop o)
        omega
      rw [List.length_drop] at h
      rw [run_go (by rw [List.length_drop]; exact h)] at hn ⊢
      by_cases he : (tok ((s.drop o).drop (skp false (s.drop o)))).2.2 = 0
      · rw [if_pos he] at hn ⊢
        have hp := tok_pos hne he
        have htl := tok_len ((s.drop o).drop (skp false (s.drop o)))
        have htk := tok_take ((s.drop o).drop (skp false (s.drop o)))
        rw [List.length_drop, List.length_drop] at htl
        rw [List.drop_drop] at hn hp htl htk ⊢
        have ed : (s.drop o).drop (skp false (s.drop o) + (tok (s.drop (o + skp false (s.drop o)))).2.1.length) = s.drop (o + skp false (s.drop o) + (tok (s.drop (o + skp false (s.drop o)))).2.1.length) := by
          rw [List.drop_drop, Nat.add_assoc]
        rw [ed] at hn ⊢
        have hx := ih (o + skp false (s.drop o) + (tok (s.drop (o + skp false (s.drop o)))).2.1.length) (by omega) (by omega) hn
        refine ⟨o + skp false (s.drop o), rfl, by omega, by simp only; omega, htk, ?_, hx⟩
        have : (s.take (o + skp false (s.drop o))).drop o = (s.drop o).take (skp false (s.drop o)) := by rw [List.drop_take]; congr 1; omega
        rw [this]; exact hem
      · rw [if_neg he] at hn; cases hn
end Go.Sx.Lx
namespace Go.Sx.Lx
theorem run_lens : ∀ (m : Nat) (l : List UInt8) (o : Nat), l.length < m → Lib.lens ((run o l).1.map (·.2.1)) ≤ l.length := by
  intro m
  induction m with
  | zero => intro l o h; omega
  | succ m ih =>
    intro l o hm
    have hk := skp_le false l
    by_cases h : skp false l = l.length
    · rw [run_end h]; simp [Lib.lens]
    · have hne : l.drop (skp false l) ≠ [] := fun he => by
        have := congrArg List.length he
        rw [List.length_drop, List.length_nil] at this
        omega
      rw [run_go h]
      by_cases he : (tok (l.drop (skp false l))).2.2 = 0
      · rw [if_pos he]
        have hp := tok_pos hne he
        have htl := tok_len (l.drop (skp false l))
        rw [List.length_drop] at htl
        have h1 := ih (l.drop (skp false l + (tok (l.drop (skp false l))).2.1.length)) (o + skp false l + (tok (l.drop (skp false l))).2.1.length) (by rw [List.length_drop]; omega)
        rw [List.length_drop] at h1
        simp only [Lib.lens, List.map_cons, List.sum_cons] at h1 ⊢
        omega
      · rw [if_neg he]; simp [Lib.lens]
theorem join_le (l : List Tk) : (Lib.join (l.map (·.2.1)) [32]).length ≤ l.length + Lib.lens (l.map (·.2.1)) := by
  cases l with
  | nil => simp [Lib.join_nil]
  | cons t r =>
    rw [List.map_cons, Lib.join_length]
    simp
end Go.Sx.Lx
namespace Go.Sx.Lx
def fills : List (List UInt8) := [[32], [10], [9, 32], [37, 10], [32, 37, 32, 97, 46, 32, 35, 120, 10], [13, 10]]
/-- The end that is appended. -/
def theEnd : List UInt8 := [32, 37, 32, 116, 104, 101, 32, 101, 110, 100]
def pickF (g : Int) : Int := pickG g 6
theorem pickF_lt (g : Int) : 0 ≤ pickF g ∧ pickF g < 6 := by
  have h1 := Int.tmod_lt_of_pos g (b := 6) (by omega)
  have h2 := Int.tmod_lt_of_pos (-g) (b := 6) (by omega)
  rw [Int.neg_tmod] at h2
  unfold pickF pickG
  split <;> omega
def fillOf (g : Int) : List UInt8 := fills.getD (pickF g).toNat []
theorem fillOf_mem (g : Int) : fillOf g ∈ fills := by
  have h := pickF_lt g
  unfold fillOf
  rw [List.getD_eq_getElem?_getD, List.getElem?_eq_getElem (by have : fills.length = 6 := rfl; omega), Option.getD_some]
  exact List.getElem_mem _
theorem fill_gap : ∀ f ∈ fills, Gap f ∧ (∃ c q, f = c :: q ∧ isSep c = true) ∧ f.length ≤ 9 := by
  intro f hf
  simp only [fills, List.mem_cons, List.not_mem_nil, or_false] at hf
  rcases hf with rfl | rfl | rfl | rfl | rfl | rfl
  all_goals refine ⟨fun b r hb => ?_, ⟨_, _, rfl, rfl⟩, by decide⟩
  all_goals
    have h0 : skp false (b :: r) = 0 := skp_head hb r
    simp only [List.cons_append, List.nil_append]
    generalize b :: r = x at h0
    simp [skp, isBlank, h0]
def gapF (gs : List Int) (i : Nat) : Int := if i < gs.length then gs.getD i 0 else i
/-- The tokens with gaps ahead of them, the end. -/
def tailB (gs : List Int) : Nat → List Tk → List UInt8
  | _, [] => theEnd
  | i, t :: r => fillOf (gapF gs i) ++ (t.2.1 ++ tailB gs (i + 1) r)
def offB (gs : List Int) : Nat → Nat → List Tk → List Int
  | _, _, [] => []
  | i, o, t :: r => ((o + (fillOf (gapF gs i)).length : Nat) : Int) :: offB gs (i + 1) (o + (fillOf (gapF gs i)).length + t.2.1.length) r
def finB (gs : List Int) : Nat → List Tk → List UInt8 → List Int → List UInt8 × List Int
  | _, [], s, o => (s, o)
  | i, t :: r, s, o => finB gs (i + 1) r (s ++ fillOf (gapF gs i) ++ t.2.1) (o ++ [((s ++ fillOf (gapF gs i)).length : Int)])
theorem finB_eq (gs : List Int) : ∀ (l : List Tk) (i : Nat) (s : List UInt8) (o : List Int), (finB gs i l s o).1 ++ theEnd = s ++ tailB gs i l ∧ (finB gs i l s o).2 = o ++ offB gs i s.length l
  | [], i, s, o => by simp [finB, tailB, offB]
  | t :: r, i, s, o => by
    obtain ⟨h1, h2⟩ := finB_eq gs r (i + 1) (s ++ fillOf (gapF gs i) ++ t.2.1) (o ++ [((s ++ fillOf (gapF gs i)).length : Int)])
    simp only [finB, tailB, offB]
    rw [h1, h2]
    simp [Nat.add_assoc]
theorem tailB_sep (gs : List Int) (i : Nat) (l : List Tk) : Sepd (tailB gs i l) := by
  cases l with
  | nil => exact .inr ⟨32, _, rfl, rfl⟩
  | cons t r =>
    obtain ⟨_, ⟨c, q, h, hc⟩, _⟩ := fill_gap _ (fillOf_mem (gapF gs i))
    exact .inr ⟨c, q ++ (t.2.1 ++ tailB gs (i + 1) r), by simp only [tailB, h, List.cons_append], hc⟩
theorem run_tailB (gs : List Int) : ∀ (l : List Tk) (i o : Nat), (∀ t ∈ l, Val t) → (run o (tailB gs i l)).2.1 = none ∧ alikeB l (run o (tailB gs i l)).1 = true ∧ (run o (tailB gs i l)).1.map (·.2.2) = offB gs i o l
  | [], i, o, _ => by
    have : run o (tailB gs i []) = ([], none, o + theEnd.length) := run_end (l := theEnd) (by decide)
    rw [this]; exact ⟨rfl, rfl, rfl⟩
  | t :: r, i, o, h => by
    obtain ⟨hg, _, _⟩ := fill_gap _ (fillOf_mem (gapF gs i))
    have hp := run_piece hg (h t (List.mem_cons_self ..)) (tailB_sep gs (i + 1) r) o
    obtain ⟨h1, h2, h3⟩ := run_tailB gs r (i + 1) (o + (fillOf (gapF gs i)).length + t.2.1.length) fun x hx => h x (List.mem_cons_of_mem _ hx)
    have e : tailB gs i (t :: r) = fillOf (gapF gs i) ++ (t.2.1 ++ tailB gs (i + 1) r) := rfl
    rw [e, hp]
    refine ⟨h1, ?_, ?_⟩
    · simp only [alikeB, decide_true, Bool.and_self, Bool.true_and]
      exact h2
    · simp only [List.map_cons, offB, h3]
theorem offB_len (gs : List Int) : ∀ (l : List Tk) (i o : Nat), (offB gs i o l).length = l.length
  | [], _, _ => rfl
  | t :: r, i, o => by simp [offB, offB_len gs r]
end Go.Sx.Lx

/- The reference model's lexer, plainly: its tests are the lexer's. -/
namespace Go.Sx.Lx
open Go.Sx
theorem dropWhile_drop (p : UInt8 → Bool) : ∀ s : List UInt8, s.dropWhile p = s.drop (s.takeWhile p).length
  | [] => rfl
  | b :: r => by
    rw [List.dropWhile_cons, List.takeWhile_cons]
    split
    · rw [List.length_cons, List.drop_succ_cons, dropWhile_drop p r]
    · rfl
theorem runTo_zero (p : UInt8 → Bool) (s : List UInt8) : runTo p s 0 = (s.takeWhile p).length := by unfold runTo; rw [List.drop_zero, Nat.zero_add]
theorem wordB_eq (first : UInt8 → Bool) (s : List UInt8) : wordB first s = (decide (runTo isUnd s 0 < s.length) && first (s.getD (runTo isUnd s 0) 0) && ((s.drop (runTo isUnd s 0)).all isName && decide (s.length ≤ 32))) := by
  unfold wordB
  rw [dropWhile_drop, ← runTo_zero]
  by_cases h : runTo isUnd s 0 < s.length
  · rw [drop_getD (d := 0) h, decide_eq_true h, Bool.true_and]
    simp only [Bool.and_assoc]
  · rw [List.drop_eq_nil_of_le (by omega), decide_eq_false h]; rfl
theorem dig_und : (List.range 256).all (fun n => !(isDig (UInt8.ofNat n)) || (!(isUnd (UInt8.ofNat n)) && !(isUp (UInt8.ofNat n)))) = true := by decide +kernel
theorem dig_spec {b : UInt8} (h : isDig b = true) : isUnd b = false ∧ isUp b = false := by
  have := List.all_eq_true.1 dig_und b.toNat (List.mem_range.2 b.toNat_lt)
  rw [UInt8.ofNat_toNat] at this
  rw [h] at this
  simpa using this
theorem isUnd_iff (b : UInt8) : isUnd b = true ↔ b = 95 := by simp [isUnd]
/-- 'Variable' of the reference model. -/
def varR (s : List UInt8) : Bool :=
  if runTo isUnd s 0 < s.length ∧ isUp (s.getD (runTo isUnd s 0) 0) = true then (s.drop (runTo isUnd s 0)).all isName && decide (s.length ≤ 32)
  else if runTo isUnd s 0 = 1 ∧ s.length ≤ 32 then (s.drop 1).all isDig else false
theorem varR_eq (s : List UInt8) : varR s = variableB s := by
  unfold varR variableB
  rw [wordB_eq]
  by_cases h : runTo isUnd s 0 < s.length ∧ isUp (s.getD (runTo isUnd s 0) 0) = true
  · rw [if_pos h, decide_eq_true h.1, h.2, Bool.true_and, Bool.true_and]
    suffices hx : ∀ (t : List UInt8), s = 95 :: t → t.all isDig = false by
      split
      · rename_i t; rw [hx t rfl]; simp
      · simp
    rintro t rfl
    rw [runTo_zero, List.takeWhile_cons, if_pos (show isUnd 95 = true from rfl)] at h
    simp only [List.length_cons, List.getD_cons_succ] at h
    have h1 : (t.takeWhile isUnd).length < t.length := by omega
    cases ha : t.all isDig with
    | false => rfl
    | true =>
      have := List.all_eq_true.1 ha (t.getD (t.takeWhile isUnd).length 0) (by rw [List.getD_eq_getElem?_getD, List.getElem?_eq_getElem h1]; exact List.getElem_mem h1)
      rw [(dig_spec this).2] at h
      exact absurd h.2 (by simp)
  · rw [if_neg h]
    have hw : (decide (runTo isUnd s 0 < s.length) && isUp (s.getD (runTo isUnd s 0) 0)) = false := by
      cases h1 : decide (runTo isUnd s 0 < s.length) with
      | false => rfl
      | true =>
        cases h2 : isUp (s.getD (runTo isUnd s 0) 0) with
        | false => rfl
        | true => exact absurd ⟨of_decide_eq_true h1, h2⟩ h
    rw [hw, Bool.false_and, Bool.false_or]
    cases s with
    | nil => simp [runTo]
    | cons b t =>
      by_cases hb : b = 95
      · subst hb
        have e : runTo isUnd (95 :: t) 0 = (t.takeWhile isUnd).length + 1 := by rw [runTo_zero, List.takeWhile_cons, if_pos (show isUnd 95 = true from rfl)]; rfl
        rw [e]
        simp only [List.drop_succ_cons, List.drop_zero]
        by_cases ht : (t.takeWhile isUnd).length = 0
        · by_cases hl : (95 :: t : List UInt8).length ≤ 32
          · rw [if_pos ⟨by omega, hl⟩, decide_eq_true hl, Bool.and_true]
          · rw [if_neg (fun h => hl h.2), decide_eq_false hl, Bool.and_false]
        · rw [if_neg (fun h => ht (by omega))]
          cases t with
          | nil => exact absurd rfl ht
          | cons c q =>
            have hc : isUnd c = true := by
              cases hc : isUnd c with
              | true => rfl
              | false => rw [List.takeWhile_cons, if_neg (by simp [hc])] at ht; exact absurd rfl ht
            have hd : isDig c = false := by
              cases hd : isDig c with
              | false => rfl
              | true => rw [(dig_spec hd).1] at hc; cases hc
            simp [hd]
      · have e : runTo isUnd (b :: t) 0 = 0 := by
          rw [runTo_zero, List.takeWhile_cons, if_neg (by rw [isUnd_iff]; exact hb)]; rfl
        rw [e, if_neg (by simp)]
        split
        · rename_i heq; cases heq; exact absurd rfl hb
        · rfl
theorem symbolB_ref (s : List UInt8) : symbolB s = (decide (runTo isUnd s 0 < s.length) && isLow (s.getD (runTo isUnd s 0) 0) && ((s.drop (runTo isUnd s 0)).all isName && decide (s.length ≤ 32)) && !decide (s = notS)) := by
  unfold symbolB
  rw [wordB_eq]
  by_cases h : s = notS <;> simp [h]
end Go.Sx.Lx

/- Numbers and signs of the reference model. -/
namespace Go.Sx.Lx
open Go.Sx
def valN (a : Nat) (l : List UInt8) : Nat := l.foldl (fun a c => a * 10 + (c.toNat - 48)) a
theorem valN_cons (a : Nat) (c : UInt8) (r : List UInt8) : valN a (c :: r) = valN (a * 10 + (c.toNat - 48)) r := by unfold valN; rw [List.foldl_cons]
theorem valN_nil (a : Nat) : valN a [] = a := by unfold valN; rw [List.foldl_nil]
attribute [irreducible] valN
theorem valN_le (l : List UInt8) : ∀ (a : Nat), a ≤ valN a l := by
  induction l with
  | nil => intro a; rw [valN_nil]; exact Nat.le_refl _
  | cons c r ih =>
    intro a
    rw [valN_cons]
    exact Nat.le_trans (by omega) (ih _)
theorem valN_app (l r : List UInt8) : ∀ (a : Nat), valN a (l ++ r) = valN (valN a l) r := by
  induction l with
  | nil => intro a; rw [valN_nil]; rfl
  | cons c l ih => intro a; rw [List.cons_append, valN_cons, valN_cons, ih]
theorem isDig_iff (b : UInt8) : isDig b = true ↔ 48 ≤ b.toNat ∧ b.toNat ≤ 57 := by simp [isDig]
theorem parse_ok : ∀ (l : List UInt8) (a u : Nat), Lib.parseUint10 a l = .ok u → u = valN a l
  | [], a, u, h => by simp only [Lib.parseUint10] at h; cases h; rw [valN_nil]
  | c :: r, a, u, h => by
    simp only [Lib.parseUint10] at h
    split at h
    · split at h
      · cases h
      · split at h
        · cases h
        · rw [valN_cons]; exact parse_ok r _ u h
    · cases h
theorem parse_small : ∀ (l : List UInt8) (a : Nat), l.all isDig = true → valN a l ≤ 2147483647 → Lib.parseUint10 a l = .ok (valN a l)
  | [], a, _, _ => by rw [valN_nil]; rfl
  | c :: r, a, hd, hv => by
    rw [List.all_cons, Bool.and_eq_true, isDig_iff] at hd
    rw [valN_cons] at hv
    have h1 := valN_le r (a * 10 + (c.toNat - 48))
    simp only [Lib.parseUint10]
    rw [valN_cons]
    rw [if_pos hd.1, if_neg (by omega), if_neg (by omega)]
    exact parse_small r _ hd.2 hv
theorem dec_val : ∀ (m : Nat) (l : List UInt8), l.length = m → l ≠ [] → l.all isDig = true → (Lib.decDigits (valN 0 l) = l ↔ l.length = 1 ∨ l.head? ≠ some 48) := by
  intro m
  induction m with
  | zero => intro l h hn; exact absurd (List.length_eq_zero_iff.1 h) hn
  | succ m ih =>
    intro l hl hne hd
    obtain ⟨q, c, rfl⟩ : ∃ q c, l = q ++ [c] := ⟨l.dropLast, l.getLast hne, (List.dropLast_concat_getLast hne).symm⟩
    rw [List.length_append, List.length_singleton] at hl
    rw [List.all_append, Bool.and_eq_true] at hd
    have hc : 48 ≤ c.toNat ∧ c.toNat ≤ 57 := by
      have := hd.2
      rw [List.all_cons, List.all_nil, Bool.and_true, isDig_iff] at this
      exact this
    rw [valN_app, valN_cons, valN_nil]
    have hcc : UInt8.ofNat (48 + (c.toNat - 48)) = c := by rw [show 48 + (c.toNat - 48) = c.toNat by omega]; simp
    cases q with
    | nil =>
      simp only [valN_nil, Nat.zero_mul, Nat.zero_add, List.nil_append, List.length_singleton, true_or, iff_true]
      rw [Lib.decDigits_one (by omega), hcc]
    | cons b r =>
      have hih := ih (b :: r) (by omega) (by simp) hd.1
      have hb : 48 ≤ b.toNat ∧ b.toNat ≤ 57 := by
        have := hd.1
        rw [List.all_cons, Bool.and_eq_true, isDig_iff] at this
        exact this.1
      have hge := valN_le r (0 * 10 + (b.toNat - 48))
      have hv : valN 0 (b :: r) = valN (0 * 10 + (b.toNat - 48)) r := valN_cons _ _ _
      by_cases h0 : valN 0 (b :: r) = 0
      · have hb0 : b = 48 := UInt8.toNat_inj.1 (by have : (48 : UInt8).toNat = 48 := rfl; omega)
        rw [h0, Nat.zero_mul, Nat.zero_add, Lib.decDigits_one (by omega)]
        constructor
        · intro h; have := congrArg List.length h; simp at this
        · rintro (h | h)
          · simp at h
          · rw [hb0] at h; simp at h
      · have hten : ¬ valN 0 (b :: r) * 10 + (c.toNat - 48) < 10 := by omega
        rw [Lib.decDigits, dif_neg hten, show (valN 0 (b :: r) * 10 + (c.toNat - 48)) / 10 = valN 0 (b :: r) by omega, show (valN 0 (b :: r) * 10 + (c.toNat - 48)) % 10 = c.toNat - 48 by omega, hcc]
        rw [List.append_left_inj, hih]
        constructor
        · rintro (h | h)
          · right
            simp only [List.cons_append, List.head?_cons, ne_eq, Option.some.injEq]
            rintro rfl
            have hr : r = [] := by cases r with
              | nil => rfl
              | cons x y => simp at h
            subst hr
            exact h0 (by rw [valN_cons, valN_nil]; rfl)
          · right; simpa using h
        · rintro (h | h)
          · simp at h
          · right; simpa using h
theorem itoa_nat (n : Nat) : Lib.itoa (n : Int) = Lib.decDigits n := by
  unfold Lib.itoa
  rw [if_neg (by omega), Int.toNat_natCast]
theorem numE_iff {s : List UInt8} (hne : s ≠ []) (hd : s.all isDig = true) : numE s = 0 ↔ valN 0 s ≤ 2147483647 ∧ (s.length = 1 ∨ s.head? ≠ some 48) := by
  rw [← dec_val _ s rfl hne hd]
  unfold numE
  cases s with
  | nil => exact absurd rfl hne
  | cons c r =>
    have hc : 48 ≤ c.toNat ∧ c.toNat ≤ 57 := by
      rw [List.all_cons, Bool.and_eq_true, isDig_iff] at hd; exact hd.1
    simp only [Lib.atoiAll]
    rw [if_neg (show ¬ (c.toNat = 43 ∨ c.toNat = 45) by omega)]
    simp only [Lib.parseMag, if_neg (List.cons_ne_nil c r), show ¬ c.toNat = 45 by omega, not_false_iff, true_and, false_and, if_false]
    by_cases hv : valN 0 (c :: r) ≤ 2147483647
    · rw [parse_small _ _ hd hv]
      simp only
      rw [if_neg (by omega)]
      simp only
      rw [if_neg (by omega), itoa_nat]
      by_cases hx : Lib.decDigits (valN 0 (c :: r)) = c :: r
      · rw [if_pos hx]; simp [hx, hv]
      · rw [if_neg hx]; simp [hx]
    · constructor
      · intro h
        exfalso
        cases hp : Lib.parseUint10 0 (c :: r)
        case ok u =>
          have := parse_ok _ _ _ hp
          rw [hp] at h
          simp only at h
          split at h
          · rename_i n heq
            split at heq
            · cases heq
            · cases heq
              rw [if_pos (by omega)] at h; cases h
          · cases h
        all_goals (rw [hp] at h; simp at h)
      · exact fun h => absurd h.1 hv
def twoL : List (List UInt8) := [[58, 45], [58, 126], [46, 46], [33, 61], [60, 61], [62, 61]]
def oneL : List UInt8 := [58, 46, 44, 59, 124, 40, 41, 123, 125, 91, 93, 61, 60, 62, 43, 45, 42, 47, 92, 64]
theorem sign_heads : ∀ s ∈ signL, ∃ h ∈ s.head?, h ∈ 33 :: oneL := by decide +kernel
theorem sign_two : ∀ b ∈ 33 :: oneL, ∀ c ∈ ([45, 126, 46, 61] : List UInt8), (signOf [b, c]).length = if [b, c] ∈ twoL then 2 else if b ∈ oneL then 1 else 0 := by decide +kernel
theorem sign_one : ∀ b ∈ 33 :: oneL, (signOf [b]).length = if [b] ∈ twoL then 2 else if b ∈ oneL then 1 else 0 := by decide +kernel
theorem sign_lens : ∀ s ∈ signL, s.length = 1 ∨ (s.length = 2 ∧ s.getD 1 0 ∈ ([45, 126, 46, 61] : List UInt8)) := by decide +kernel
theorem two_lens : ∀ s ∈ twoL, s.length = 2 ∧ s.getD 1 0 ∈ ([45, 126, 46, 61] : List UInt8) := by decide +kernel
theorem two_fst : ∀ s ∈ twoL, s.getD 0 0 ∈ 33 :: oneL := by decide +kernel
theorem one_sub : ∀ b ∈ oneL, b ∈ 33 :: oneL := fun b h => List.mem_cons_of_mem _ h
theorem signOf_len (b : UInt8) (r : List UInt8) : (signOf (b :: r)).length = if (b :: r).take 2 ∈ twoL then 2 else if b ∈ oneL then 1 else 0 := by
  by_cases hb : b ∈ 33 :: oneL
  · cases r with
    | nil => exact sign_one b hb
    | cons c q =>
      by_cases hc : c ∈ ([45, 126, 46, 61] : List UInt8)
      · have e : signOf (b :: c :: q) = signOf [b, c] := by
          unfold signOf
          rw [find_congr fun s hs => ?_]
          rcases sign_lens s hs with h | ⟨h, _⟩
          · match s, h with
            | [x], _ => simp [List.isPrefixOf]
          · match s, h with
            | [x, y], _ => simp [List.isPrefixOf]
        rw [e]; exact sign_two b hb c hc
      · have e : signOf (b :: c :: q) = signOf [b] := by
          unfold signOf
          rw [find_congr fun s hs => ?_]
          rcases sign_lens s hs with h | ⟨h, h2⟩
          · match s, h with
            | [x], _ => simp [List.isPrefixOf]
          · match s, h, h2 with
            | [x, y], _, h2 =>
              have hy : (y == c) = false := by
                cases hyc : y == c with
                | false => rfl
                | true => rw [beq_iff_eq] at hyc; subst hyc; exact absurd h2 hc
              simp [List.isPrefixOf, hy]
        rw [e, sign_one b hb]
        have n1 : ¬ ([b] ∈ twoL) := fun h => by have := (two_lens _ h).1; simp at this
        have n2 : ¬ ((b :: c :: q).take 2 ∈ twoL) := fun h => hc (two_lens _ h).2
        rw [if_neg n1, if_neg n2]
  · have e : signOf (b :: r) = [] := by
      unfold signOf
      rw [List.find?_eq_none.2 fun s hs => ?_]
      · rfl
      · obtain ⟨h, hh, hm⟩ := sign_heads s hs
        cases s with
        | nil => cases hh
        | cons x y =>
          simp only [List.head?_cons, Option.mem_def, Option.some.injEq] at hh
          subst hh
          simp only [List.isPrefixOf, Bool.and_eq_true, beq_iff_eq, not_and]
          rintro rfl
          exact absurd hm hb
    rw [e, if_neg (fun h => hb (two_fst ((b :: r).take 2) h)), if_neg (fun h => hb (one_sub b h))]
    rfl
end Go.Sx.Lx

/- The lexer's run, byte by byte. -/
namespace Go.Sx.Lx
open Go.Sx
theorem runAt_eq (s : List UInt8) (i : Nat) : run i (s.drop i) = toksF (s.length + 1) (skipTo s i) (s.drop (skipTo s i)) := by
  unfold run
  rw [List.drop_drop]
  have h := skp_le false (s.drop i)
  show toksF _ (skipTo s i) (s.drop (skipTo s i)) = _
  exact toksF_fuel _ _ _ _ (by unfold skipTo; simp only [List.length_drop]; omega) (by simp only [List.length_drop]; omega)
theorem runAt_congr {s : List UInt8} {i j : Nat} (h : skipTo s i = skipTo s j) : run i (s.drop i) = run j (s.drop j) := by rw [runAt_eq, runAt_eq, h]
theorem runAt_end {s : List UInt8} {i : Nat} (h : s.length ≤ i) : (run i (s.drop i)).1 = [] ∧ (run i (s.drop i)).2.1 = none := by
  rw [List.drop_eq_nil_of_le h]; exact ⟨rfl, rfl⟩
theorem runAt_blank {s : List UInt8} {i : Nat} (h : i < s.length) (hb : isBlank (s.getD i 0) = true) : run i (s.drop i) = run (i + 1) (s.drop (i + 1)) := by
  refine runAt_congr ?_
  rw [skipTo_blank s i, runTo_step h hb, ← skipTo_blank]
theorem runAt_cmt {s : List UInt8} {i : Nat} (h : i < s.length) (hb : s.getD i 0 = 37) : run i (s.drop i) = run (runTo inLine s i) (s.drop (runTo inLine s i)) :=
  runAt_congr (skipTo_cmt h hb)
theorem runAt_tok {s : List UInt8} {i : Nat} (h : i < s.length) (h1 : isBlank (s.getD i 0) = false) (h2 : s.getD i 0 ≠ 37) :
    ((tok (s.drop i)).2.2 = 0 → (run i (s.drop i)).1 = ((tok (s.drop i)).1, (tok (s.drop i)).2.1, (i : Int)) :: (run (i + (tok (s.drop i)).2.1.length) (s.drop (i + (tok (s.drop i)).2.1.length))).1 ∧
      (run i (s.drop i)).2.1 = (run (i + (tok (s.drop i)).2.1.length) (s.drop (i + (tok (s.drop i)).2.1.length))).2.1) ∧
    ((tok (s.drop i)).2.2 ≠ 0 → (run i (s.drop i)).2.1 = some (i, (tok (s.drop i)).2.2)) := by
  have hk : skp false (s.drop i) = 0 := by
    rw [drop_getD (d := 0) h]
    refine skp_stop ?_
    intro b hb
    simp only [List.head?_cons, Option.some.injEq] at hb
    subst hb; exact ⟨h1, h2⟩
  have hg := run_go (o := i) (l := s.drop i) (by rw [hk, List.length_drop]; omega)
  rw [hk] at hg
  simp only [List.drop_zero, Nat.add_zero, Nat.zero_add, List.drop_drop] at hg
  rw [hg]
  constructor
  · intro he; rw [if_pos he]; exact ⟨rfl, rfl⟩
  · intro he; rw [if_neg he]
/- What a token is, by its first byte. -/
theorem tok_name {s : List UInt8} {i : Nat} (h : i < s.length) (hb : (isLet (s.getD i 0) || isUnd (s.getD i 0)) = true) :
    tok (s.drop i) = ((wordK ((s.take (runTo isName s (i + 1))).drop i)).1, (s.take (runTo isName s (i + 1))).drop i, (wordK ((s.take (runTo isName s (i + 1))).drop i)).2) ∧ i + ((s.take (runTo isName s (i + 1))).drop i).length = runTo isName s (i + 1) := by
  have hn : isName (s.getD i 0) = true := by unfold isName; rw [Bool.or_eq_true] at hb; rcases hb with h | h <;> simp only [h, Bool.true_or, Bool.or_true]
  rw [← runTo_step h hn, runTo_text]
  refine ⟨?_, rfl⟩
  rw [drop_getD (d := 0) h]
  simp only [tok]
  rw [if_pos hb]
theorem dig_first : (List.range 256).all (fun n => !(isDig (UInt8.ofNat n)) || (!(isLet (UInt8.ofNat n)) && !(isUnd (UInt8.ofNat n)))) = true := by decide +kernel
theorem dig_not {b : UInt8} (h : isDig b = true) : isLet b = false ∧ isUnd b = false := by
  have := List.all_eq_true.1 dig_first b.toNat (List.mem_range.2 b.toNat_lt)
  rw [UInt8.ofNat_toNat, h] at this
  simpa using this
theorem tok_dig {s : List UInt8} {i : Nat} (h : i < s.length) (hb : isDig (s.getD i 0) = true) :
    tok (s.drop i) = (3, (s.take (runTo isDig s (i + 1))).drop i, numE ((s.take (runTo isDig s (i + 1))).drop i)) ∧ i + ((s.take (runTo isDig s (i + 1))).drop i).length = runTo isDig s (i + 1) ∧
    (s.take (runTo isDig s (i + 1))).drop i ≠ [] ∧ ((s.take (runTo isDig s (i + 1))).drop i).all isDig = true := by
  rw [← runTo_step h hb, runTo_text]
  refine ⟨?_, rfl, ?_, ?_⟩
  · rw [drop_getD (d := 0) h]
    obtain ⟨h1, h2⟩ := dig_not hb
    simp only [tok]
    rw [if_neg (by rw [h1, h2]; decide), if_pos hb]
  · rw [drop_getD (d := 0) h]
    exact List.length_pos_iff.1 (takeWhile_pos hb)
  · rw [List.all_eq_true]
    intro x hx
    exact (List.all_eq_true.1 (List.all_takeWhile (p := isDig) (l := s.drop i)) x hx)
theorem tok_dir {s : List UInt8} {i : Nat} (h : i < s.length) (hb : s.getD i 0 = 35) :
    tok (s.drop i) = (5, (s.take (runTo isLet s (i + 1))).drop i, if (s.take (runTo isLet s (i + 1))).drop i ∈ dirs then 0 else 31) ∧ i + ((s.take (runTo isLet s (i + 1))).drop i).length = runTo isLet s (i + 1) := by
  have h1 := runTo_le isLet s (i + 1)
  have h2 := runTo_len (p := isLet) (s := s) (i := i + 1) (by omega)
  have e : (s.take (runTo isLet s (i + 1))).drop i = 35 :: (s.drop (i + 1)).takeWhile isLet := by
    rw [drop_getD (d := 0) (by rw [List.length_take]; omega), runTo_text]
    congr 1
    rw [List.getD_eq_getElem?_getD, List.getElem?_take, if_pos (by omega), ← List.getD_eq_getElem?_getD]
    exact hb
  rw [e]
  refine ⟨?_, ?_⟩
  · rw [drop_getD (d := 0) h, hb]
    rfl
  · unfold runTo; rw [List.length_cons]; omega
theorem tok_sign {s : List UInt8} {i : Nat} (h : i < s.length) (h1 : (isLet (s.getD i 0) || isUnd (s.getD i 0)) = false) (h2 : isDig (s.getD i 0) = false) (h3 : s.getD i 0 ≠ 35) :
    tok (s.drop i) = (6, signOf (s.drop i), if signOf (s.drop i) = [] then 30 else 0) := by
  rw [drop_getD (d := 0) h]
  simp only [tok]
  rw [if_neg (by rw [h1]; decide), if_neg (by rw [h2]; decide), if_neg (by simp only [beq_iff_eq]; exact h3)]
/-- What the reference's Lex answers. -/
def ansR (l : List Tk) (q : List Tk × Option (Nat × Int) × Nat) : List Tk × Int × Int := match q.2.1 with
  | some (a, e) => ([], a, e)
  | none => (l ++ q.1, 0, 0)
theorem ansR_go {l : List Tk} {t : Tk} {q q' : List Tk × Option (Nat × Int) × Nat} (h1 : q.1 = t :: q'.1) (h2 : q.2.1 = q'.2.1) : ansR l q = ansR (l ++ [t]) q' := by
  unfold ansR
  rw [h2]
  cases q'.2.1 with
  | none => simp [h1]
  | some x => rfl
theorem ansR_err {l : List Tk} {q : List Tk × Option (Nat × Int) × Nat} {a : Nat} {e : Int} (h : q.2.1 = some (a, e)) : ansR l q = ([], (a : Int), e) := by
  unfold ansR; rw [h]
theorem ansR_end {l : List Tk} {q : List Tk × Option (Nat × Int) × Nat} (h1 : q.1 = []) (h : q.2.1 = none) : ansR l q = (l, 0, 0) := by
  unfold ansR; rw [h, h1]; simp
theorem rl_go {s : List UInt8} {i j : Nat} {es : List Tk} {k : Int} {T : List UInt8} (h : i < s.length) (h1 : isBlank (s.getD i 0) = false) (h2 : s.getD i 0 ≠ 37) (hk : tok (s.drop i) = (k, T, 0)) (hj : i + T.length = j) :
    ansR es (run i (s.drop i)) = ansR (es ++ [(k, T, (i : Int))]) (run j (s.drop j)) := by
  have := (runAt_tok h h1 h2).1
  rw [hk] at this
  obtain ⟨e1, e2⟩ := this rfl
  simp only [hj] at e1 e2
  exact ansR_go e1 e2
theorem rl_err {s : List UInt8} {i : Nat} {es : List Tk} {k : Int} {T : List UInt8} {e : Int} (h : i < s.length) (h1 : isBlank (s.getD i 0) = false) (h2 : s.getD i 0 ≠ 37) (hk : tok (s.drop i) = (k, T, e)) (he : e ≠ 0) :
    ansR es (run i (s.drop i)) = ([], (i : Int), e) := by
  have := (runAt_tok h h1 h2).2
  rw [hk] at this
  exact ansR_err (this he)
theorem wordK_zero {t : List UInt8} (h : (wordK t).1 = 0) : (wordK t).2 = 31 := by
  unfold wordK at h ⊢
  split at h
  · cases h
  split at h
  · cases h
  split at h
  · cases h
  · rename_i h1 h2 h3; rw [if_neg h1, if_neg h2, if_neg h3]
theorem wordK_some {t : List UInt8} (h : (wordK t).1 ≠ 0) : (wordK t).2 = 0 := by
  unfold wordK at h ⊢
  split
  · rfl
  split
  · rfl
  split
  · rfl
  · rename_i h1 h2 h3; rw [if_neg h1, if_neg h2, if_neg h3] at h; exact absurd rfl h
theorem lexR_ans (s : List UInt8) : lexR s = if 32768 < s.length then ([], 0, 3) else ansR [] (run 0 s) := by
  rw [lexR_eq]
  split
  · rfl
  · unfold ans ansR
    rcases run 0 s with ⟨l, _ | ⟨a, e⟩, p⟩ <;> rfl
end Go.Sx.Lx

/- AN OWN ROW THAT A CALL HANDS BACK IS NO MORE WRITTEN TO. -/
namespace Go.Sx
open Go.RowKit
variable [Globs] [Codes]
variable {P : Program}

def memF (φ : Mem) (g n : Nat) (xs : List Value) : Mem := fun b o => if b = g then (if o < n then xs[o]? else none) else φ b o
theorem CallL.frz {d : D} {args : List D} {ob : Obs} {sz : Nat} {e : TypeId} {es : List (List D)} {i0 : Nat} (hc : CallL P d args ob fun r o => r = .vec i0 ∧ o = [(i0, .arr false sz e es)]) : CallL P d args ob fun r o => r = .vec i0 ∧ o = [(i0, .arr true sz e es)] := by
  intro F hF n φ h w v vs hp hv hvs
  refine (hc F hF n φ h w v vs hp hv hvs).mono ?_
  intro e' w' hpost
  obtain ⟨u, r0, ob0, φ', h', rfl, ⟨rfl, rfl⟩, hrv, ha⟩ := hpost.dest fun r o hr => by rw [hr.1]; rfl
  have hob := ha.loc.obj i0 (.arr false sz e es) (by simp [lk])
  obtain ⟨h0, hsz, xs, hown, hrep, hb⟩ := hob
  rcases hown.2 with ⟨hnil, hlen⟩ | ⟨g, cap, cur, hv', hge, hblk, hn, hcap, hcs, htk⟩
  · -- nothing there
    have hbn : blk (h' i0) = none := by rw [hnil]; rfl
    refine .ret ⟨rfl, rfl⟩ (φ' := φ') (h' := h') hrv ⟨⟨ha.loc.one, ha.loc.glob.sub fun b ⟨i, hi, hbi⟩ => ?_, ha.loc.mem, fun i o ho => ?_, fun i j b hi hj hbi hbj => ?_⟩, ha.ext, ha.new, ha.frame, ha.hfix, ha.os, ha.tape, ha.output, ha.grow⟩
    · simp only [lk] at hi
      split at hi
      · rename_i e; subst e; rw [hbn] at hbi; cases hbi
      · cases hi
    · simp only [lk] at ho
      split at ho
      · rename_i e; subst e; cases ho
        exact ⟨h0, hsz, xs, hown, hrep, fun b hb' => by rw [hbn] at hb'; cases hb'⟩
      · cases ho
    · simp only [lk] at hi hj
      split at hi
      · split at hj
        · omega
        · cases hj
      · cases hi
  · have hbg : blk (h' i0) = some g := by rw [hv']; rfl
    obtain ⟨hog, hφ0⟩ := hb g hbg
    have hφ0 : ∀ o, φ' g o = none := fun o => by rw [hφ0 o]; simp
    obtain ⟨φ2, hφd⟩ : ∃ m, m = memF φ' g (es.length * sz) xs := ⟨_, rfl⟩
    have hφn : ∀ b o, b ≠ g → φ2 b o = φ' b o := fun b o hb => by rw [hφd]; exact if_neg hb
    have hφm : ∀ b o v, φ' b o = some v → φ2 b o = some v := fun b o v hv => by
      have hbg : b ≠ g := fun e => by rw [e, hφ0 o] at hv; cases hv
      rw [hφn b o hbg]; exact hv
    have hφg : ∀ o, φ2 g o = if o < es.length * sz then xs[o]? else none := fun o => by rw [hφd]; exact if_pos rfl
    have hZe : ∀ b, ZOf [(i0, Ob.arr true sz e es)] h' b → ZOf [(i0, Ob.arr false sz e es)] h' b := by
      rintro b ⟨i, hi, hbi⟩
      simp only [lk] at hi
      split at hi
      · rename_i e; subst e; exact ⟨i, by simp [lk], hbi⟩
      · cases hi
    have hcell : ∀ o, o < es.length * sz → w'.cell? ⟨g, o, none⟩ = xs[o]? := fun o ho => by
      have h1 : (cur.toList.take (es.length * sz))[o]? = xs[o]? := by rw [htk]
      rw [List.getElem?_take_of_lt ho, Array.getElem?_toList] at h1
      simp only [World.cell?, hblk]
      rw [← h1]
      simp
    refine .ret ⟨rfl, rfl⟩ (φ' := φ2) (h' := h') (hrv.mono hφm) ⟨⟨ha.loc.one, ⟨fun g' cs hgc => (ha.loc.glob.ok g' cs hgc).mono hφm, fun g' arr hx => ?_, fun g' hx => ?_⟩, fun b o u hu => ?_, fun i o ho => ?_, fun i j b hi hj _ _ => ?_⟩, fun b o v hv => hφm _ _ _ (ha.ext b o v hv), fun b o u h1 h2 => ?_, ha.frame, fun i hi => ha.hfix i hi, ha.os, ha.tape, ha.output, ha.grow⟩
    · obtain ⟨hw, hz⟩ := ha.loc.glob.x g' arr hx
      exact ⟨hw, fun hz' => hz (hZe _ hz')⟩
    · obtain ⟨hw, hz⟩ := ha.loc.glob.i g' hx
      exact ⟨hw, fun hz' => hz (hZe _ hz')⟩
    · by_cases hbg : b = g
      · subst hbg
        rw [hφg] at hu
        split at hu
        · rename_i ho; rw [hcell o ho]; exact hu
        · cases hu
      · rw [hφn b o hbg] at hu
        exact ha.loc.mem b o u hu
    · simp only [lk] at ho
      split at ho
      · rename_i e; subst e; cases ho
        refine ⟨h0, hsz, xs, hown, fun i x j d hi hj => (hrep i x j d hi hj).mono hφm, fun b hb' => ?_⟩
        rw [hbg] at hb'
        cases hb'
        exact ⟨hog, fun o => by rw [hφg o]; simp⟩
      · cases ho
    · simp only [lk] at hi hj
      split at hi
      · split at hj
        · omega
        · cases hj
      · cases hi
    · by_cases hbg : b = g
      · exact hbg ▸ hog
      · rw [hφn b o hbg] at h1
        exact ha.new b o u h1 h2
end Go.Sx

/- RESULTS KEPT: a table of calls that have been worked out. -/
namespace Go.Sx
mutual
def dEq : D → D → Bool
  | .int k a, .int k' b => decide (k = k') && decide (a = b)
  | .str a, .str b => decide (a = b)
  | .bool a, .bool b => a == b
  | .slice a x, .slice b y => dEqLL a b && dEqLL x y
  | .agg a, .agg b => dEqL a b
  | _, _ => false
def dEqL : List D → List D → Bool
  | [], [] => true
  | a :: r, b :: q => dEq a b && dEqL r q
  | _, _ => false
def dEqLL : List (List D) → List (List D) → Bool
  | [], [] => true
  | a :: r, b :: q => dEqL a b && dEqLL r q
  | _, _ => false
end
mutual
theorem dEq_ok : ∀ a b : D, dEq a b = true → a = b
  | .int k a, b, h => by
    cases b <;> simp [dEq] at h
    rw [h.1, h.2]
  | .str a, b, h => by
    cases b <;> simp [dEq] at h
    rw [h]
  | .bool a, b, h => by
    cases b <;> simp [dEq] at h
    rw [h]
  | .slice a x, b, h => by
    cases b <;> simp [dEq] at h
    rw [dEqLL_ok a _ h.1, dEqLL_ok x _ h.2]
  | .agg a, b, h => by
    cases b <;> simp [dEq] at h
    rw [dEqL_ok a _ h]
  | .undef, b, h => by cases b <;> simp [dEq] at h
  | .nilp, b, h => by cases b <;> simp [dEq] at h
  | .nilf, b, h => by cases b <;> simp [dEq] at h
  | .tuple _, b, h => by cases b <;> simp [dEq] at h
  | .ptr _ _, b, h => by cases b <;> simp [dEq] at h
  | .fptr _, b, h => by cases b <;> simp [dEq] at h
  | .vec _, b, h => by cases b <;> simp [dEq] at h
  | .vptr _ _ _ _, b, h => by cases b <;> simp [dEq] at h
  | .map _, b, h => by cases b <;> simp [dEq] at h
  | .func _ _ _, b, h => by cases b <;> simp [dEq] at h
  | .raw _, b, h => by cases b <;> simp [dEq] at h
  | .nils, b, h => by cases b <;> simp [dEq] at h
  | .own _ _ _, b, h => by cases b <;> simp [dEq] at h
  | .yld _, b, h => by cases b <;> simp [dEq] at h
  | .ifc, b, h => by cases b <;> simp [dEq] at h
  | .pan _, b, h => by cases b <;> simp [dEq] at h
theorem dEqL_ok : ∀ a b : List D, dEqL a b = true → a = b
  | [], [], _ => rfl
  | [], _ :: _, h => by simp [dEqL] at h
  | _ :: _, [], h => by simp [dEqL] at h
  | a :: r, b :: q, h => by
    simp only [dEqL, Bool.and_eq_true] at h
    rw [dEq_ok a b h.1, dEqL_ok r q h.2]
theorem dEqLL_ok : ∀ a b : List (List D), dEqLL a b = true → a = b
  | [], [], _ => rfl
  | [], _ :: _, h => by simp [dEqLL] at h
  | _ :: _, [], h => by simp [dEqLL] at h
  | a :: r, b :: q, h => by
    simp only [dEqLL, Bool.and_eq_true] at h
    rw [dEqL_ok a b h.1, dEqLL_ok r q h.2]
end
abbrev Memo := List (FuncId × List D × D)
def memoF : Memo → FuncId → List D → Option D
  | [], _, _ => none
  | (g, ys, r) :: l, f, xs => if f = g ∧ dEqL xs ys = true then some r else memoF l f xs
section
variable [Globs] [Codes]
def Memo.OK (P : Program) : Memo → Prop
  | [] => True
  | (g, ys, r) :: l => FnOK P g ys r ∧ Memo.OK P l
theorem memoF_ok {P : Program} : ∀ {l : Memo}, l.OK P → ∀ {f : FuncId} {xs : List D} {r : D}, memoF l f xs = some r → FnOK P f xs r
  | [], _, _, _, _, h => by cases h
  | (g, ys, r0) :: l, hl, f, xs, r, h => by
    simp only [memoF] at h
    split at h
    · rename_i hc
      cases h
      rw [hc.1, dEqL_ok _ _ hc.2]
      exact hl.1
    · exact memoF_ok hl.2 h
/-- A table with results kept. -/
def Tab.mem (t : Tab) (l : Memo) : Tab := { t with F := fun f xs => match memoF l f xs with
  | some r => some r
  | none => t.F f xs }
theorem Tab.OK.mem_ok {P : Program} {t : Tab} (ht : t.OK P) {l : Memo} (hl : l.OK P) : (t.mem l).OK P := by
  refine ⟨ht.T, ht.C, fun f xs r h => ?_⟩
  simp only [Tab.mem] at h
  split at h
  · cases h; exact memoF_ok hl (by assumption)
  · exact ht.F f xs r h
end
end Go.Sx
