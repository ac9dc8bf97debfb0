/- Own work: a layer over the kit: plain data, a walk over it, its soundness. -/
import Derived.Test.YtdkbjkccpnhjgaaDoorSxR
set_option linter.unusedSectionVars false
set_option linter.unusedVariables false
set_option linter.unusedSimpArgs false
set_option linter.deprecated false
namespace Go.Sx
open Go.RowKit
variable [Globs] [Codes]

def putP : List (Nat × D) → Env → Env
  | [], tm => tm
  | (t, d) :: r, tm => putP r ((t, d) :: eraseId t tm)

section
variable {P : Program} {F : Fence} {n : Nat}

theorem putP_rv {φ : Mem} {h : Nat → Value} : ∀ (ps : List Nat) (vs : List Value) (ds : List D) (tm : Env) (tmps : Array Value), RVL φ h vs ds → (∀ t ∈ ps, t < tmps.size) → (∀ t d, lk tm t = some d → RV φ h (tmps.getD t Go.undef) d) →
    ∀ t d, lk (putP (ps.zip ds) tm) t = some d → RV φ h (((ps.zip vs).foldl (fun tm x => tm.setIfInBounds x.1 x.2) tmps).getD t Go.undef) d
  | [], vs, ds, tm, tmps, _, _, h3 => by simpa [putP] using h3
  | p :: ps, v :: vs, d0 :: ds, tm, tmps, h1, h2, h3 => by
    intro t d hl
    simp only [List.zip_cons_cons, putP] at hl
    simp only [List.zip_cons_cons, List.foldl_cons]
    refine putP_rv ps vs ds _ (tmps.setIfInBounds p v) h1.2 (fun t ht => by simpa using h2 t (List.mem_cons_of_mem _ ht)) (fun t d hl => ?_) t d hl
    rw [look_put] at hl
    simp only [lk] at hl
    have hp := h2 p (by simp)
    split at hl
    · rename_i e; cases hl; subst e
      have : (tmps.setIfInBounds t v).getD t Go.undef = v := by simp [Array.getD, hp]
      rw [this]; exact h1.1
    · rename_i e
      have : (tmps.setIfInBounds p v).getD t Go.undef = tmps.getD t Go.undef := by simp [Array.getD_eq_getD_getElem?, Ne.symm e]
      rw [this]; exact h3 t d hl
  | p :: ps, [], [], tm, tmps, _, _, h3 => by simpa [putP] using h3
  | _ :: _, [], _ :: _, _, _, h1, _, _ => h1.elim
  | _ :: _, _ :: _, [], _, _, h1, _, _ => h1.elim

theorem zipfold_size : ∀ (l : List (Nat × Value)) (tmps : Array Value), (l.foldl (fun tm x => tm.setIfInBounds x.1 x.2) tmps).size = tmps.size
  | [], _ => rfl
  | _ :: l, tmps => by rw [List.foldl_cons, zipfold_size l]; simp

def Cx.setk (cx : Cx) (l : Nat) (o : Obj) : Cx := { cx with kp := fun b => if b = l then some o else cx.kp b }

theorem Mod.setKp {cx : Cx} {s : St} {φ : Mem} {h : Nat → Value} {tmps : Array Value} {w : World} {l : Nat} {o0 o1 : Obj} (hm : Mod cx s φ h tmps w) (hk : cx.kp l = some o0) (hown : cx.own l) : Mod (cx.setk l o1) s φ h tmps (w.putObj l o1) := by
  obtain ⟨h1, h2, h3⟩ := hm.kept l o0 hk
  have hlt := (Array.getElem?_eq_some_iff.1 h1).1
  have hoth : ∀ k, k ≠ l → (w.putObj l o1).heap[k]? = w.heap[k]? := fun k hk => World.putObj_heap_other hk
  refine ⟨hm.size, hm.tm, fun g o v hv => ?_, hm.ext, hm.new, fun i o ho => ?_, hm.sep, hm.os, hm.tape, hm.output, by rw [World.putObj_size]; exact hm.grow, hm.one, fun k hk1 hk2 => ?_, hm.hfix, fun k o hko => ?_⟩
  · have hg : g ≠ l := fun e => by rw [e, h2] at hv; cases hv
    rw [World.cell?_of_block (w := w) (a := ⟨g, o, none⟩) (hoth g hg)]
    exact hm.mem g o v hv
  · exact (hm.ob i o ho).keep (fun _ hb => hb) (fun k hk => hoth k fun e => h3 i (by rw [ho]; rfl) (e ▸ hk)) (fun _ _ _ h => h) (fun _ _ _ => rfl) (fun _ _ _ r => r)
  · rw [hoth k (fun e => by subst e; exact hown.elim (fun h => by have h' : k < cx.w0.heap.size := hk1; omega) (fun h => hk2 h))]; exact hm.frame k hk1 hk2
  · simp only [Cx.setk] at hko
    split at hko
    · rename_i e
      cases hko
      subst e
      exact ⟨World.putObj_heap_same hlt, h2, h3⟩
    · rename_i e
      obtain ⟨q1, q2, q3⟩ := hm.kept k o hko
      exact ⟨by rw [hoth k e]; exact q1, q2, q3⟩

/-- What a round leaves. -/
def YRet (P : Program) (k : Nat) (R : D → Obs → Prop) (rid N : Nat) (ps : Array Tmp) (a b : SC) (keys : List Nat) (ds : List D) (pend : Option Code) (s : St) : Prop :=
  R (.bool pend.isNone) ((rid, .gen (.loop (if pend.isNone then .ready else .done) pend ps a b N keys) ds) :: (s.canon k []).ob)

theorem zip_lk {t : Nat} {d : D} : ∀ {keys : List Nat} {ds : List D}, lk (keys.zip ds) t = some d → ∃ j : Nat, keys[j]? = some t ∧ ds[j]? = some d
  | [], _, h => by simp [lk] at h
  | _ :: _, [], h => by simp [lk] at h
  | k :: keys, x :: ds, h => by
    simp only [List.zip_cons_cons, lk] at h
    split at h
    · rename_i e; cases h; exact ⟨0, by simp [e], by simp⟩
    · obtain ⟨j, h1, h2⟩ := zip_lk h
      exact ⟨j + 1, by simpa using h1, by simpa using h2⟩

theorem kept_nil {α : Type} (l : List (Nat × α)) : kept l [] = [] := rfl

theorem canon_rid {s : St} {k rid : Nat} (h : lk s.ob rid = none) (hk : rid < k) : lk (s.canon k []).ob rid = none := by
  cases hq : lk (s.canon k []).ob rid with
  | none => rfl
  | some o =>
    exfalso
    simp only [St.canon, canS] at hq
    rw [lk_append] at hq
    cases h1 : lk (oldO k (canG k (newN k s.ob (kept s.tm []))) s.ob) rid with
    | some o' =>
      obtain ⟨_, o0, h2, _⟩ := oldO_lk _ _ _ h1
      rw [h] at h2; cases h2
    | none =>
      rw [h1] at hq
      simp only [Option.none_or] at hq
      obtain ⟨i, o0, h2, h3, _⟩ := newO_lk _ _ _ _ hq
      simp only [canG] at h2
      split at h2
      · cases h2; rw [h] at h3; cases h3
      · cases h4 : idx i (newN k s.ob (kept s.tm [])) with
        | none => rw [h4] at h2; cases h2
        | some q => rw [h4] at h2; simp at h2; omega

/-- A CALL OF yield: THE LOOP's BODY. -/
theorem CallL.yld [CodesOf P] (hdraw : DrawSound P) {N : Nat} {ps : Array Tmp} {a b : SC} {keys : List Nat} {ds : List D} {rid : Nat} {args : List D} {ob : Obs} {R : D → Obs → Prop} (k : Nat) (hk : Obs.top ob ≤ k)
    (hrec : lk ob rid = some (.gen (.loop .ready none ps a b N keys) ds)) (hps : ps.size = args.length) (hpN : ∀ t ∈ ps.toList, t < N)
    (hsw : sw P k a (fun e s => match e with
      | .normal => sw P k b (fun e s' => lk s'.ob rid = none ∧ match e with
        | .normal => YRet P k R rid N ps a b keys ds none s'
        | .ret => YRet P k R rid N ps a b keys ds (some .ret) s'
        | .exit i => YRet P k R rid N ps a b keys ds (some (.exit i)) s'
        | _ => False) s
      | _ => False) ⟨putP (ps.toList.zip args) (keys.zip ds), eraseId rid ob⟩) :
    CallL P (.yld rid) args ob R := by
  intro F hF n φ h w v vs hp hv hvs
  obtain ⟨l, hhl, rfl⟩ : ∃ l, h rid = .pointer (some ⟨l, 0, none⟩) ∧ v = .func (.yield l) #[] #[] := by
    cases hv with
    | pure r => cases r
    | yld _ l hh => exact ⟨l, hh, rfl⟩
  have hob := hp.obj rid _ hrec
  rw [hhl] at hob
  obtain ⟨b0, vals, o, hb0, hown, hheap, hgis, hvl, hvrv, hnone⟩ := hob
  cases hb0
  obtain ⟨_, r, rfl, hst, hpe, hpar, hca, hcb, htsz, rfl⟩ := hgis
  obtain ⟨hia, ha⟩ := (CodesOf.ci (P := P) _ _ _).1 hca
  obtain ⟨hib, hb⟩ := (CodesOf.ci (P := P) _ _ _).1 hcb
  have hlt := (Array.getElem?_eq_some_iff.1 hheap).1
  have hridk : rid < k := (Obs.top_get hk hrec).1
  have hvsz : vs.size = r.params.size := by rw [hpar, hps]; have := hvs.length; simpa using this
  have hrv0 : ∀ t d, lk (keys.zip ds) t = some d → RV φ h (r.tmps.getD t Go.undef) d := fun t d hl => by
    obtain ⟨j, h1, h2⟩ := zip_lk hl
    have h3 := hvrv j d h2
    have : (keys.map fun t => r.tmps.getD t Go.undef).getD j Go.undef = r.tmps.getD t Go.undef := by simp [List.getD, List.getElem?_map, h1]
    rw [this] at h3
    exact h3
  -- the round's frame
  have hrun : (callv (.func (.yield l) #[] #[]) vs).run P w = .ok (.round l r.fn ((r.params.zip vs).foldl (fun tmps (t, a) => tmps.setIfInBounds t a) r.tmps) r.assign r.body) w := by
    simp only [callv, Deferred.ofValue, invoke, Sem.run_bind, Sem.run_pure, Result.andThen_ok]
    rw [Array.empty_append]
    exact run_yield hheap hvsz
  rw [hrun]
  show RoundIn F n P l r.fn _ r.assign r.body w _
  refine roundIn_of_wpIn (hF.fn _) ?_
  have hfold : (r.params.zip vs).foldl (fun tmps (t, a) => tmps.setIfInBounds t a) r.tmps = (ps.toList.zip vs.toList).foldl (fun tm x => tm.setIfInBounds x.1 x.2) r.tmps := by
    rw [hpar, ← Array.foldl_toList, Array.toList_zip]
  rw [hfold]
  have htmsz : ((ps.toList.zip vs.toList).foldl (fun tm x => tm.setIfInBounds x.1 x.2) r.tmps).size = N := by rw [zipfold_size, htsz]
  have hm' := hp.enter (N := N) (k := k) (kp := fun b => if b = l then some (.loop r) else none) (E := putP (ps.toList.zip args) (keys.zip ds)) (ob1 := eraseId rid ob) htmsz
    (putP_rv ps.toList vs.toList args (keys.zip ds) r.tmps hvs (fun t ht => by rw [htsz]; exact hpN t ht) hrv0)
    (fun i o ho => by
      rw [look_erase] at ho
      split at ho
      · cases ho
      · exact ho)
    (fun q o hq => by
      split at hq
      · rename_i e
        cases hq
        subst e
        refine ⟨hheap, hnone, fun i hi hbi => ?_⟩
        rw [look_erase] at hi
        split at hi
        · cases hi
        · rename_i hne
          exact hne (hp.sep i rid q hi (by rw [hrec]; rfl) hbi (by rw [hhl]; rfl))
      · cases hq)
  have hZl : ZOf ob h l := ⟨rid, by rw [hrec]; rfl, by rw [hhl]; rfl⟩
  refine wpIn_mono (sw_sound (n := n) hdraw (hF.inRound l) r.assign a ha _ [] rfl rfl hp.glob (fun l' hl' => ⟨r, by
    have : some l = some l' := hl'
    cases this
    simp⟩) _ _ φ h _ w hm' hsw) ?_
  rintro e a1 w1 ⟨ms1, hnd1, hdf1, s1, φ1, h1, hq1, hm1⟩
  cases e <;> try exact hq1.elim
  -- the round begins
  have hk1 : ∀ {cx1 : Cx}, cx1.kp l = some (.loop r) → ∀ ms, (cx1.more ms).kp l = some (.loop r) := fun hk ms => by simp [Cx.more, hk]
  have hk1' := hk1 (cx1 := { N, w0 := w, φ0 := φ, Z := ZOf ob h, bs := k, h0 := h, kp := fun b => if b = l then some (.loop r) else none }) (by simp) ms1
  have hheap1 := (hm1.kept l _ hk1').1
  refine ⟨_, run_beginRound hheap1 hst, ?_⟩
  have hm1b := hm1.setKp (o1 := .loop { r with state := .busy }) hk1' (.inr hZl)
  obtain ⟨tm1, df1⟩ := a1
  refine wpIn_mono (sw_sound (n := n) hdraw (hF.inRound l) r.body b hb _ df1 rfl rfl hp.glob (fun l' hl' => ⟨{ r with state := .busy }, by
    have : some l = some l' := hl'
    cases this
    simp [Cx.setk]⟩) _ _ φ1 h1 tm1 _ hm1b hq1) ?_
  rintro e a2 w2 ⟨ms2, hnd2, hdf2, s2, φ2, h2, ⟨hrn, hq2⟩, hm2⟩
  have hk2 : ((Cx.setk (Cx.more { N, w0 := w, φ0 := φ, Z := ZOf ob h, bs := k, h0 := h, kp := fun b => if b = l then some (.loop r) else none } ms1) l (.loop { r with state := .busy })).more ms2).kp l = some (.loop { r with state := .busy }) := by
    simp [Cx.more, Cx.setk]
  have hheap2 := (hm2.kept l _ hk2).1
  have fin : ∀ pend : Option Code, YRet P k R rid N ps a b keys ds pend s2 →
      ∃ v w', (Instr.endRound l pend).run P w2 = .ok v w' ∧ Post ob φ h w R (.returned v) w' := by
    intro pend hy
    refine ⟨_, _, run_endRound pend hheap2, ?_⟩
    have hm3 := hm2.setKp (o1 := .loop { { r with state := .busy } with state := if pend.isNone then .ready else .done, pending := pend }) hk2 (.inr hZl)
    obtain ⟨hh, _, hm4⟩ := hm3.canS (tm := []) (fun _ _ h => by simp [lk] at h) (nw := newN k s2.ob [])
    have hcn : canS k (newN k s2.ob []) [] s2.ob = s2.canon k [] := rfl
    have hm5 : Mod _ (s2.canon k []) φ2 hh _ _ := hm4
    have hhl' : hh rid = .pointer (some ⟨l, 0, none⟩) := by rw [hm5.hfix rid hridk]; exact hhl
    have hrn' := canon_rid hrn hridk
    have hkl := hm5.kept l (.loop { { r with state := .busy } with state := if pend.isNone then .ready else .done, pending := pend }) (by simp [Cx.setk])
    refine ⟨_, .bool pend.isNone, _, φ2, hh, rfl, hy, .pure (.bool _), ⟨⟨hm5.one, fun g cs hg => (hp.glob g cs hg).mono hm5.ext, hm5.mem, fun i o ho => ?_, fun i j q hi hj hqi hqj => ?_⟩, hm5.ext, fun b o u q1 q2 => (hm5.new b o u q1 q2), fun b q1 q2 => hm5.frame b q1 q2, fun i hi => ?_, hm5.os, hm5.tape, hm5.output, hm5.grow⟩⟩
    · simp only [lk] at ho
      split at ho
      · rename_i e
        subst e
        cases ho
        rw [hhl']
        refine ⟨l, keys.map fun t => r.tmps.getD t Go.undef, _, rfl, .inr hZl, hkl.1, ⟨⟨l, rfl⟩, _, rfl, rfl, rfl, hpar, hca, hcb, htsz, rfl⟩, hvl, fun j d hd => ?_, fun off => hkl.2.1 off⟩
        have hdt : D.top d ≤ k := topL_get (Obs.top_get hk hrec).2 (List.mem_of_getElem? hd)
        exact ((hvrv j d hd).mono hm5.ext).under hdt fun i hi => hm5.hfix i hi
      · have hob := hm5.ob i o ho
        exact hob.keep (fun b hb => hb) (fun _ _ => rfl) (fun _ _ _ h => h) (fun _ _ _ => rfl) (fun _ _ _ r => r)
    · have key : ∀ i', (lk (s2.canon k []).ob i').isSome → blk (hh i') = some q → blk (hh rid) = some q → False := fun i' h1 h2 h3 => by
        rw [hhl'] at h3
        cases h3
        exact hkl.2.2 i' h1 h2
      simp only [lk] at hi hj
      by_cases e1 : i = rid <;> by_cases e2 : j = rid
      · rw [e1, e2]
      · rw [if_neg e2] at hj
        exact (key j hj hqj (by rw [← e1]; exact hqi)).elim
      · rw [if_neg e1] at hi
        exact (key i hi hqi (by rw [← e2]; exact hqj)).elim
      · rw [if_neg e1] at hi
        rw [if_neg e2] at hj
        exact hm5.sep i j q hi hj hqi hqj
    · obtain ⟨o, ho⟩ := Option.isSome_iff_exists.1 hi
      exact hm5.hfix i (Obs.top_get hk ho).1
  cases e <;> first | exact hq2.elim | exact fin _ hq2

end
end Go.Sx
