/- Own work: a layer over the kit: plain data, a walk over it, its soundness. -/
import Derived.Test.YtdkbjkccpnhjgaaDoorSxW
set_option linter.unusedSectionVars false
set_option linter.unusedVariables false
set_option linter.unusedSimpArgs false
set_option linter.deprecated false
namespace Go.Sx
open Go.RowKit
variable [Globs] [Codes]

section
variable {P : Program} {F : Fence} {N : Nat} {cx : Cx} {bs : Nat} {ops : Array Oper} {sops : List SOp} {ds : List Deferred} {Q : Exit → St → Prop} {bt fz : Nat → Bool} {pre : List Nat} {es : List Eff} {s0 : St}

/-- What stands, when the operations in L are done. -/
structure Inv (es : List Eff) (s0 : St) (L : Nat → Prop) (s : St) : Prop where
  tm : ∀ t, Latest L (fun k => (es[k]?).bind (twr · t)) (lk s0.tm t) (lk s.tm t)
  ob : ∀ i, Latest L (fun k => (es[k]?).bind (fun e => lk e.ob i)) (lk s0.ob i) (lk s.ob i)
  clean : ∀ i, s0.clean i = true → (∀ k e, L k → es[k]? = some e → e.men i = false) → s.clean i = true
  top : ∀ q, s0.top ≤ q → (∀ k e, L k → es[k]? = some e → e.top ≤ q) → s.top ≤ q

theorem Inv.congr {L L' : Nat → Prop} {s : St} (h : Inv es s0 L s) (he : ∀ k, L k ↔ L' k) : Inv es s0 L' s :=
  ⟨fun t => (h.tm t).congr he, fun i => (h.ob i).congr he, fun i h1 h2 => h.clean i h1 fun k e hk => h2 k e ((he k).1 hk), fun q h1 h2 => h.top q h1 fun k e hk => h2 k e ((he k).1 hk)⟩

theorem Inv.zero : Inv es s0 (fun _ => False) s0 := ⟨fun _ => Latest.none fun _ h => h, fun _ => Latest.none fun _ h => h, fun _ h _ => h, fun _ h _ => h⟩

theorem Inv.step {L : Nat → Prop} {s : St} (h : Inv es s0 L s) {k : Nat} {e : Eff} (hk : es[k]? = some e) (ht : ∀ t j e', L j → es[j]? = some e' → (twr e t).isSome → (twr e' t).isSome → j ≤ k) (ho : ∀ i j e', L j → es[j]? = some e' → (lk e.ob i).isSome → (lk e'.ob i).isSome → j ≤ k) :
    Inv es s0 (fun j => L j ∨ j = k) (s.app e) := by
  refine ⟨fun t => ?_, fun i => ?_, fun i h1 h2 => ?_, fun q h1 h2 => ?_⟩
  · rw [app_tm]
    cases hq : twr e t with
    | none => exact (h.tm t).skip (by simp [hk, hq])
    | some x =>
      refine Latest.put (by simp [hk, hq]) fun j hj hw => ?_
      cases he : es[j]? with
      | none => rw [he] at hw; cases hw
      | some e' => rw [he] at hw; exact ht t j e' hj he (by rw [hq]; rfl) hw
  · rw [app_ob]
    cases hq : lk e.ob i with
    | none => exact (h.ob i).skip (by simp [hk, hq])
    | some x =>
      refine Latest.put (by simp [hk, hq]) fun j hj hw => ?_
      cases he : es[j]? with
      | none => rw [he] at hw; cases hw
      | some e' => rw [he] at hw; exact ho i j e' hj he (by rw [hq]; rfl) hw
  · exact app_clean (h.clean i h1 fun j e' hj he => h2 j e' (.inl hj) he) (h2 k e (.inr rfl) hk)
  · exact app_top (h.top q h1 fun j e' hj he => h2 j e' (.inl hj) he) (h2 k e (.inr rfl) hk)

theorem Inv.at (n : Nat) (hn : n ≤ es.length) : Inv es s0 (· < n) (stAt es s0 n) := by
  induction n with
  | zero =>
    have : stAt es s0 0 = s0 := by cases es <;> rfl
    rw [this]
    exact Inv.zero.congr fun k => by simp
  | succ n ih =>
    have he : es[n]? = some es[n] := List.getElem?_eq_getElem (by omega)
    rw [stAt_succ he]
    exact ((ih (by omega)).step he (fun t j e' hj _ _ _ => Nat.le_of_lt hj) (fun i j e' hj _ _ _ => Nat.le_of_lt hj)).congr fun k => by show (k < n ∨ k = n) ↔ k < n + 1; omega

theorem has_dst {b : Nat} {o : SOp} {s : St} {e : Eff} (h : Has P b o s e) {t : Nat} (ht : (twr e t).isSome) : o.dst = some t := by
  have key : ∀ d : Option Nat, (∃ x, e.tm = d.map (·, x)) → d = some t := fun d ⟨x, hx⟩ => by
    simp only [twr, hx] at ht
    cases d with
    | none => cases ht
    | some t' =>
      simp only [Option.map_some] at ht
      split at ht
      · rename_i e; rw [e]
      · cases ht
  have body : HasB P b o s e → o.dst = some t := fun hb => by
    cases o with
    | a dst g op xs =>
      obtain ⟨_, _, h3⟩ := hb
      by_cases hx : ∃ x, e.tm = dst.map (·, x)
      · exact key dst hx
      · exact (let ⟨d, nb, hk⟩ := evl_ex h3; hx ⟨d, hk.1⟩).elim
    | st g sz x y =>
      simp only [HasB] at hb
      split at hb
      · split at hb
        · rw [hb.2.2.2] at ht; simp [twr] at ht
        · exact hb.elim
      · exact hb.elim
    | app dst g fz sz et x y =>
      simp only [HasB] at hb
      split at hb
      · obtain ⟨_, hb⟩ := hb
        split at hb
        · exact key (some dst) ⟨_, by rw [hb.2]; rfl⟩
        · split at hb
          · exact key (some dst) ⟨_, by rw [hb.2.2.2]; rfl⟩
          · exact hb.elim
        · exact hb.elim
      · exact hb.elim
    | cd dst g x xs =>
      obtain ⟨nm, r, ob', base, _, _, _, _, he⟩ := hb
      exact key dst ⟨_, by rw [he]⟩
  have skip : e = ⟨[], o.dst.map (·, .nov), [], none⟩ → o.dst = some t := fun he => key o.dst ⟨_, by rw [he]⟩
  unfold Has at h
  cases hg : o.gd with
  | none => rw [hg] at h; exact body h
  | some gw =>
    obtain ⟨q, w⟩ := gw
    rw [hg] at h
    simp only [gud] at h
    split at h
    · split at h
      · exact body h
      · exact skip h
    · exact skip h
    · exact h.elim

theorem tmps_gd {o : SOp} {t : Nat} (h : t ∈ tmpsG o.gd) : t ∈ o.tmps := by
  cases o <;> simp only [SOp.gd] at h <;> simp only [SOp.tmps, List.mem_append] <;> exact .inr h

theorem Has.congr {b : Nat} {o : SOp} {s s' : St} {e : Eff} (h : Has P b o s e) (ht : ∀ t ∈ o.tmps, lk s.tm t = lk s'.tm t) (ho : ∀ i ∈ e.rd, lk s.ob i = lk s'.ob i) : Has P b o s' e :=
  gud_congr (fun t h => ht t (tmps_gd h)) (gud_mono (fun hb => hb.congr ht ho) id h)

/-- ONE OF THE OPERATIONS, what it waits for being done. -/
theorem one_has (hcan : ∀ k o, sops[k]? = some o → ∃ e, es[k]? = some e ∧ Has P bs o (stAt es s0 k) e) (hlen : sops.length = es.length) (hchk : dchk bs pre sops es s0 = true) {L : Nat → Prop} {s : St} (hI : Inv es s0 L s) (htop : s0.top ≤ bs)
    {k : Nat} {o : SOp} (hk : sops[k]? = some o) (hL : ¬ L k) (hlt : ∀ j, L j → j < es.length) (hpre : ∀ i, befor pre i k = true → L i) (hcl : ∀ j i, L j → befor pre i j = true → L i) :
    ∃ e, es[k]? = some e ∧ Has P bs o s e ∧ (e.ob ≠ [] → ∀ t, o.dst = some t → s.clean (bs + t) = true) ∧ (∀ q, e.cd = some q → s.top ≤ q) ∧ Inv es s0 (fun j => L j ∨ j = k) (s.app e) := by
  obtain ⟨e, he, hh⟩ := hcan k o hk
  have hkl : k < es.length := (List.getElem?_eq_some_iff.1 he).1
  have hsop : ∀ j e', es[j]? = some e' → ∃ o', sops[j]? = some o' ∧ Has P bs o' (stAt es s0 j) e' := fun j e' hj => by
    have hjl := (List.getElem?_eq_some_iff.1 hj).1
    have : sops[j]? = some sops[j] := List.getElem?_eq_getElem (by omega)
    obtain ⟨e'', q1, q2⟩ := hcan j _ this
    rw [hj] at q1
    cases q1
    exact ⟨_, this, q2⟩
  -- an operation ahead in the text that is not in L, and one behind that is
  have nbe : ∀ j, j < k → ¬ L j → ¬ befor pre j k = true := fun j _ hnl hb => hnl (hpre j hb)
  have naf : ∀ j, k < j → L j → ¬ befor pre k j = true := fun j _ hl hb => hL (hcl j k hl hb)
  have hcat := Inv.at (es := es) (s0 := s0) k (by omega)
  have hmem : ∀ {l : List Nat} {t : Nat}, l.contains t = false → t ∉ l := fun h hm => by rw [List.contains_iff_mem.2 hm] at h; cases h
  have hag : ∀ t ∈ o.tmps, lk (stAt es s0 k).tm t = lk s.tm t := fun t ht => (hcat.tm t).uniq (hI.tm t) fun j hw => by
    cases hj : es[j]? with
    | none => rw [hj] at hw; cases hw
    | some e' =>
      rw [hj] at hw
      obtain ⟨o', ho', hh'⟩ := hsop j e' hj
      have hd := has_dst hh' (t := t) hw
      refine ⟨fun hjk => ?_, fun hl => ?_⟩
      · apply Classical.byContradiction
        intro hnl
        have := dchk_tmp hchk hjk ho' hk (nbe j hjk hnl)
        simp only [tmpApart, hd, Bool.and_eq_true, Bool.not_eq_true'] at this
        exact hmem this.1.1 ht
      · rcases Nat.lt_trichotomy j k with h | h | h
        · exact h
        · subst h; exact absurd hl hL
        · have := dchk_tmp hchk h hk ho' (naf j h hl)
          simp only [tmpApart, hd, Bool.and_eq_true, Bool.not_eq_true'] at this
          exact absurd ht (hmem this.2)
  have hao : ∀ i ∈ e.rd, lk (stAt es s0 k).ob i = lk s.ob i := fun i hi => (hcat.ob i).uniq (hI.ob i) fun j hw => by
    cases hj : es[j]? with
    | none => rw [hj] at hw; cases hw
    | some e' =>
      rw [hj] at hw
      obtain ⟨x, hx⟩ := Option.isSome_iff_exists.1 hw
      obtain ⟨p, hp, hpi⟩ := lk_mem hx
      refine ⟨fun hjk => ?_, fun hl => ?_⟩
      · apply Classical.byContradiction
        intro hnl
        have := ((dchk_mem hchk hjk hj he (nbe j hjk hnl)).1 p hp).1
        rw [hpi] at this
        exact this hi
      · rcases Nat.lt_trichotomy j k with h | h | h
        · exact h
        · subst h; exact absurd hl hL
        · have := (dchk_mem hchk h he hj (naf j h hl)).2 p hp
          rw [hpi] at this
          exact absurd hi this
  refine ⟨e, he, hh.congr hag hao, fun hne t ht => ?_, fun q hq => ?_, hI.step he (fun t j e' hj hej hw hw' => ?_) (fun i j e' hj hej hw hw' => ?_)⟩
  · refine hI.clean _ ?_ fun j e' hj hej => ?_
    · simp only [St.clean, Bool.and_eq_true, List.all_eq_true, Bool.not_eq_true']
      refine ⟨fun p hp => D.top_men _ _ ?_, fun p hp => D.topL_men _ _ ?_⟩
      · have h1 : Env.top s0.tm ≤ bs + t := Nat.le_trans (Nat.le_max_left _ _) (Nat.le_trans htop (Nat.le_add_right _ _))
        exact env_mem h1 hp
      · have h1 : Obs.top s0.ob ≤ bs + t := Nat.le_trans (Nat.le_max_right _ _) (Nat.le_trans htop (Nat.le_add_right _ _))
        exact obs_mem h1 hp
    · rcases (dchk_names hchk hk he).1 hne t ht j e' hej with h | h | h
      · subst h; exact absurd hj hL
      · exact absurd (hcl j k hj h) hL
      · exact h
  · refine hI.top q (dchk_top hchk (List.mem_of_getElem? he) hq) fun j e' hj hej => ?_
    rcases (dchk_names hchk hk he).2 q hq j e' hej with h | h | h
    · subst h; exact absurd hj hL
    · exact absurd (hcl j k hj h) hL
    · exact h
  · obtain ⟨o', ho', hh'⟩ := hsop j e' hej
    apply Classical.byContradiction
    intro hlt'
    have := dchk_tmp hchk (by omega) hk ho' (naf j (by omega) hj)
    have d1 := has_dst hh hw
    have d2 := has_dst hh' hw'
    simp [tmpApart, d1, d2] at this
  · apply Classical.byContradiction
    intro hlt'
    obtain ⟨x, hx⟩ := Option.isSome_iff_exists.1 hw
    obtain ⟨y, hy⟩ := Option.isSome_iff_exists.1 hw'
    obtain ⟨p, hp, hpi⟩ := lk_mem hx
    obtain ⟨p', hp', hpi'⟩ := lk_mem hy
    exact ((dchk_mem hchk (by omega) he hej (naf j (by omega) hj)).1 p hp).2 p' hp' (by rw [hpi, hpi'])

/-- A REGION THAT DRAWS ITS ORDER. -/
theorem drawn_go (hF : Fence.Open F) (hbs : cx.bs ≤ bs) (hgl : GlobOK cx.φ0) (hl : ops.toList.mapM (fun o => compO P bt (fz (o.dst.getD 0)) ops o) = some sops) (hd : dstsOK cx.N ops = true)
    (hlow : ∀ i o, ops[i]? = some o → ∀ e ∈ o.after, Region.binds .any e = true → e.on < i) (hwt : PreOK pre ops)
    (hcan : ∀ k o, sops[k]? = some o → ∃ e, es[k]? = some e ∧ Has P bs o (stAt es s0 k) e) (hlen : sops.length = es.length) (hchk : dchk bs pre sops es s0 = true) (htop : s0.top ≤ bs) (hK : Q .normal (stAt es s0 es.length)) :
    ∀ (fuel : Nat) (listed : Array Bool) (s : St) (φ : Mem) (h : Nat → Value) (tmps : Array Value) (w : World), listed.size = ops.size → Closed ops listed →
      Inv es s0 (fun k => listed.getD k false = true) s → (un ops listed).length ≤ fuel → Mod cx s φ h tmps w → wpAnyIn F N P .any ops (PostM cx ds Q) fuel listed ⟨tmps, ds⟩ w := by
  have hlo : sops.length = ops.size := by have := mapM_len hl; simpa using this
  -- all are done
  have last : ∀ (listed : Array Bool) (s : St) (φ : Mem) (h : Nat → Value) (tmps : Array Value) (w : World), listed.size = ops.size → (∀ k, k < ops.size → listed.getD k false = true) → Inv es s0 (fun k => listed.getD k false = true) s → Mod cx s φ h tmps w → PostM cx ds Q .normal ⟨tmps, ds⟩ w := by
    intro listed s φ h tmps w hsz hall hI hm
    have hat := Inv.at (es := es) (s0 := s0) es.length (Nat.le_refl _)
    have hiff : ∀ k, k < es.length ↔ listed.getD k false = true := fun k => by
      refine ⟨fun hk => hall k (by omega), fun hk => ?_⟩
      apply Classical.byContradiction
      intro hn
      have : listed.getD k false = false := by simp [Array.getD, show ¬ k < listed.size by omega]
      rw [this] at hk; cases hk
    refine PostM.of hK (hm.weaken (fun t d hd => ?_) fun i o ho => ?_)
    · rw [← hd]; exact (hI.tm t).uniq (hat.tm t) fun k _ => (hiff k).symm
    · rw [← ho]; exact (hI.ob i).uniq (hat.ob i) fun k _ => (hiff k).symm
  have hnone : ∀ listed : Array Bool, listed.size = ops.size → un ops listed = [] → ∀ k, k < ops.size → listed.getD k false = true := fun listed hsz hun k hk => by
    cases hq : listed.getD k false with
    | true => rfl
    | false =>
      have : k ∈ un ops listed := List.mem_filter.2 ⟨List.mem_range.2 hk, by rw [getD_tf (by omega), hq]; rfl⟩
      rw [hun] at this; cases this
  intro fuel
  induction fuel with
  | zero =>
    intro listed s φ h tmps w hsz hcl hI hun hm
    have hunil : un ops listed = [] := List.eq_nil_of_length_eq_zero (by omega)
    refine ⟨?_, last listed s φ h tmps w hsz (hnone listed hsz hunil) hI hm⟩
    cases hq : Region.ready .any ops listed with
    | nil => rfl
    | cons x xs =>
      have := ready_un (ops := ops) (listed := listed) (i := x) (by rw [hq]; simp)
      rw [hunil] at this; cases this
  | succ fuel ih =>
    intro listed s φ h tmps w hsz hcl hI hun hm
    refine ⟨fun hrn => ?_, fun i hi => ?_⟩
    · -- nothing is ready: all are done
      refine last listed s φ h tmps w hsz (fun k hk => ?_) hI hm
      cases hq : listed.getD k false with
      | true => rfl
      | false =>
        exfalso
        have : ∃ k, k < ops.size ∧ listed.getD k false = false ∧ ∀ j, j < k → listed.getD j false = true := by
          induction k using Nat.strongRecOn with
          | _ k ihk =>
            by_cases hj : ∃ j, j < k ∧ listed.getD j false = false
            · obtain ⟨j, hjk, hjq⟩ := hj
              exact ihk j hjk (by omega) hjq
            · refine ⟨k, hk, hq, fun j hjk => ?_⟩
              cases hq' : listed.getD j false with
              | true => rfl
              | false => exact absurd ⟨j, hjk, hq'⟩ hj
        obtain ⟨k0, h1, h2, h3⟩ := this
        have hr : k0 ∈ Region.ready .any ops listed := mem_ready.2 ⟨by rw [getD_tf (by omega)]; exact h2, ops[k0], Array.getElem?_eq_getElem h1, fun e he hb => h3 _ (hlow k0 ops[k0] (Array.getElem?_eq_getElem h1) e he hb)⟩
        rw [hrn] at hr; cases hr
    · obtain ⟨h1, o, ho, hrd⟩ := mem_ready.1 hi
      have hilt := (Array.getElem?_eq_some_iff.1 ho).1
      rw [getD_tf (by omega)] at h1
      obtain ⟨so, hcs, hso⟩ := mapM_get hl i o (by simpa using ho)
      obtain ⟨e, he, hh, hclean, hcd, hI'⟩ := one_has hcan hlen hchk hI htop hso (by simp only [h1]; simp)
        (fun j hj => by
          apply Classical.byContradiction
          intro hn
          have : listed.getD j false = false := by simp [Array.getD, show ¬ j < listed.size by omega]
          rw [this] at hj; cases hj)
        (fun j hb => befor_listed hwt hcl i j (fun o' ho' => by rw [ho] at ho'; cases ho'; exact hrd) hb)
        (fun j q hj hb => befor_listed hwt hcl j q (fun o' ho' => hcl j o' ho' hj) hb)
      have hst := stp_of_has hh hclean hcd
      have hs := step_sound (ds := ds) (n := N) (Q := PostM cx ds Q) hF hbs hgl hcs (dstsOK_spec hd o (by simpa using Array.mem_of_getElem? ho)) hm hst
      have hnext : ∀ a w', NextM cx ds (fun s1 => Alike s1 (s.app e)) a w' → wpAnyIn F N P .any ops (PostM cx ds Q) fuel (listed.setIfInBounds i true) a w' := by
        rintro ⟨tm, df⟩ w' ⟨hdf, s1, φ', h', hal, hm'⟩
        cases hdf
        refine ih _ (s.app e) φ' h' tm w' (by simpa using hsz) (hcl.set (by omega) fun o' ho' => by rw [ho] at ho'; cases ho'; exact hrd) (hI'.congr fun k => (getD_set (by omega)).symm) (by have := un_set hsz (ready_un hi); omega) (hm'.weaken (fun t d hd => by rw [hal.1 t]; exact hd) fun i o ho => by rw [hal.2 i]; exact ho)
      unfold wpOpIn
      simp only [ho]
      split at hs
      · rename_i hw
        rw [if_pos hw]
        exact Oper.wpIn_mono hnext hs
      · rename_i hw
        rw [if_neg hw]
        exact ⟨hs.1, hnext _ _ hs.2⟩

end

theorem drawSound {P : Program} (hmix : P.follows .mixedOrders = true) : DrawSound P := by
  intro cx F N ds hF bt fz ops Q sops pre id bs hbs hgl hl hd hN hok s φ h tmps w htop hm es s' hcan hchk hK
  simp only [drawOK, Bool.and_eq_true, decide_eq_true_eq, List.all_eq_true, List.mem_range, beq_iff_eq] at hok
  obtain ⟨hplen, h2⟩ := hok
  obtain ⟨hlen, rfl, hc⟩ := canon_spec hcan
  have hlow : ∀ i o, ops[i]? = some o → ∀ e ∈ o.after, Region.binds .any e = true → e.on < i := fun i o ho e he hb => by
    have := h2 i (Array.getElem?_eq_some_iff.1 ho).1
    simp only [ho, List.all_eq_true, Bool.and_eq_true, Bool.or_eq_true, Bool.not_eq_true', decide_eq_true_eq] at this
    rcases this.1 e (by simpa using he) with h | h
    · rw [hb] at h; cases h
    · exact h
  have hwt : PreOK pre ops := fun i j hb => by
    have hj : j < ops.size := by
      apply Classical.byContradiction
      intro hn
      simp only [befor, List.getD, List.getElem?_eq_none (show pre.length ≤ j by omega)] at hb
      simp at hb
    have ho : ops[j]? = some ops[j] := Array.getElem?_eq_getElem hj
    have := h2 j hj
    simp only [ho, Bool.and_eq_true, beq_iff_eq] at this
    have hbit : (pre.getD j 0 &&& reachM pre (ops[j]).after.toList 0).testBit i = true := by rw [this.2]; exact hb
    rw [Nat.testBit_and, Bool.and_eq_true] at hbit
    rcases reachM_mem hbit.2 with h | ⟨e, he, hbi, h⟩
    · simp at h
    · exact ⟨_, ho, e, by simpa using he, hbi, hlow j _ ho e (by simpa using he) hbi, h⟩
  refine wpIn_region_any hmix ?_
  have hnl : ∀ i, (Array.replicate ops.size false).getD i false = false := fun i => by
    by_cases hi : i < ops.size <;> simp [Array.getD, hi]
  refine drawn_go hF hbs hgl hl hd hlow hwt hc hlen hchk htop hK ops.size (Array.replicate ops.size false) s φ h tmps _ (by simp) (fun i o ho hi => by rw [hnl i] at hi; cases hi) (Inv.zero.congr fun k => by rw [hnl k]; simp) ?_ hm.drew
  unfold un
  exact Nat.le_trans (List.length_filter_le _ _) (by simp)

end Go.Sx
