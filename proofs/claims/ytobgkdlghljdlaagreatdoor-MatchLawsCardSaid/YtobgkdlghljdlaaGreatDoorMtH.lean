/- The law of bindings, but for what is awake: joined. -/
import Derived.Test.YtobgkdlghljdlaaGreatDoorMtG
set_option linter.unusedSectionVars false
set_option linter.unusedVariables false
set_option linter.unusedSimpArgs false
set_option linter.deprecated false
set_option maxRecDepth 100000
namespace Go.Proofs.YtobgkdlghljdlaaGreatDoor
open Go.Sx
structure SmT (x : Tm) : Prop where
  wf : x.wf 281474976710656
  dep : x.depth ≤ 1000000000
  few : x.few 1000
structure SmB (b : List Bd) : Prop where
  len : b.length ≤ 1000000
  nm : ∀ x ∈ b, x.n.length ≤ 281474976710656
  val : ∀ x ∈ b, SmT x.v
theorem SmB.wf {b : List Bd} (h : SmB b) : ∀ x ∈ b, x.wf 281474976710656 := fun x hx => ⟨h.nm x hx, (h.val x hx).wf⟩
theorem SmB.dep {b : List Bd} (h : SmB b) : ∀ x ∈ b, x.v.depth ≤ 1000000000 := fun x hx => (h.val x hx).dep
theorem SmB.few {b : List Bd} (h : SmB b) : ∀ x ∈ b, x.v.few 1000 := fun x hx => (h.val x hx).few
theorem bindB_mem {b c : List Bd} {s : List UInt8} {v : Tm} (h : bindB b s v = some c) : validB b = true ∧ Lx.variableB s = true ∧ v.value = true ∧ (∀ w, getB b s = some w → w = v) ∧ ∀ x ∈ c, x = ⟨s, v⟩ ∨ x ∈ b := by
  unfold bindB at h
  split at h
  · rename_i hc
    simp only [Bool.and_eq_true] at hc
    refine ⟨hc.1, hc.2.1, hc.2.2, ?_⟩
    split at h
    · rename_i w hw
      split at h
      · rename_i e
        cases h
        exact ⟨fun w' hw' => (by rw [hw] at hw'; cases hw'; exact eqb_eq.1 e), fun x hx => .inr hx⟩
      · cases h
    · rename_i hn
      cases h
      exact ⟨fun w' hw' => (by rw [hn] at hw'; cases hw'), fun x hx => insB_mem.1 hx⟩
  · cases h
theorem bindB_no {b : List Bd} {s : List UInt8} {v : Tm} (h : bindB b s v = none) (hb : validB b = true) (hs : Lx.variableB s = true) (hv : v.value = true) : ∃ w, getB b s = some w ∧ w.eqb v = false := by
  unfold bindB at h
  simp only [hb, hs, hv, Bool.and_self, ↓reduceIte] at h
  cases hg : getB b s with
  | none => rw [hg] at h; cases h
  | some w =>
    rw [hg] at h
    dsimp only at h
    refine ⟨w, rfl, ?_⟩
    by_cases e : w.eqb v = true
    · rw [if_pos e] at h; cases h
    · exact Bool.eq_false_iff.2 e
/-- What was bound. -/
theorem l7f_at (t v : Tm) (ht : SmT t) (hv : SmT v) (b : List Bd) (nm : List UInt8) (old : Bool) : AtL 7 ⟨tmV (bdL b) nm ++ [(10, .slice [] []), (11, .bool false), (13, .bool old)], [(0, .cells t.cells), (1, .cells v.cells)]⟩ := by
  have h8 := l8_at t v ht.wf hv.wf
  obtain ⟨k, n, s, a⟩ := t
  obtain ⟨kv, nv, sv, av⟩ := v
  refine At.tree mCtr_ok (ML7_eq k n s (Tm.cellsL a) kv nv sv (Tm.cellsL av) (bdL b) nm [] false old) ?_
  unfold ML7
  exact h8
theorem l7t_at (t v : Tm) (ht : SmT t) (hv : SmT v) (b c : List Bd) (hb : SmB b) (hB : b.length ≤ 150) (nm : List UInt8) (hn : nm.length ≤ 281474976710656) (h : bindB b nm v = some c) : AtL 7 ⟨tmV (bdL b) nm ++ [(10, .slice (bdL c) []), (11, .bool true), (13, .bool (getV b nm).isSome)], [(0, .cells t.cells), (1, .cells v.cells)]⟩ := by
  have h8 := l8_at t v ht.wf hv.wf
  obtain ⟨m1, m2, m3, m4, m5⟩ := bindB_mem h
  obtain ⟨v1, v2, v3, v4⟩ := bind_valid h
  have hc : SmB c := ⟨by split at v4 <;> omega, fun x hx => by
    rcases m5 x hx with rfl | hx
    · exact hn
    · exact hb.nm x hx, fun x hx => by
    rcases m5 x hx with rfl | hx
    · exact hv
    · exact hb.val x hx⟩
  have hg := mget_ok c hc.len hc.wf hc.dep hc.few nm
  have hgv : getV c nm = some v := by unfold getV; rw [if_pos v1]; exact v2
  rw [hgv] at hg
  have he := equal_ok v v hv.wf hv.wf
  rw [eqb_eq.2 rfl] at he
  have hx := extends_ok c b hc.len hc.wf hc.dep hc.few (by have := hb.len; omega) (fun x hx => (hb.val x hx).wf) fun x hx => by unfold getV; rw [if_pos v1]; exact v3 x hx
  have hva := mva_ok c hc.len hc.wf hc.dep
  rw [v1] at hva
  have hbv : getV b nm = getB b nm := by unfold getV; rw [if_pos m1]
  rw [hbv]
  have hcl := bdL_len c
  have hbl := bdL_len b
  generalize (getB b nm).isSome = old at v4 ⊢
  obtain ⟨k, n, s, a⟩ := t
  obtain ⟨kv, nv, sv, av⟩ := v
  refine At.tree mCtr_ok (ML7_eq k n s (Tm.cellsL a) kv nv sv (Tm.cellsL av) (bdL b) nm (bdL c) true old) ?_
  unfold ML7
  cases old
  · have e : ((bdL c).length : Int) = ((bdL b).length : Int) + 1 := by rw [hcl, hbl, v4]; rfl
    rw [e]
    refine ⟨hg, by omega, he, ?_⟩
    rw [decide_eq_true rfl]
    exact ⟨hx, hva, h8⟩
  · have e : ((bdL c).length : Int) = ((bdL b).length : Int) := by rw [hcl, hbl, v4]; rfl
    rw [e]
    refine ⟨hg, he, ?_⟩
    rw [decide_eq_true rfl]
    exact ⟨hx, hva, h8⟩
/-- What Get answers, in cells. -/
theorem opD_is (o : Option Tm) (ho : ∀ w, o = some w → SmT w) : ∃ (w : Tm), w.wf 281474976710656 ∧ opD o = .tuple [.agg w.cells, .bool o.isSome] ∧ ∀ w', o = some w' → w = w' := by
  cases o with
  | none => exact ⟨.mk 0 0 [] [], ⟨by decide, by decide, by decide, Nat.zero_le _, Nat.zero_le _, trivial⟩, rfl, fun w' h => (by cases h)⟩
  | some w => exact ⟨w, (ho w rfl).wf, rfl, fun w' h => by cases h; rfl⟩
/-- The binding of the name. -/
theorem l4_at (t v : Tm) (ht : SmT t) (hv : SmT v) (b : List Bd) (hb : SmB b) (hB : b.length ≤ 150) (nm : List UInt8) (hn : nm.length ≤ 281474976710656) : AtL 4 ⟨tmV (bdL b) nm, [(0, .cells t.cells), (1, .cells v.cells)]⟩ := by
  have h1 := mva_ok b hb.len hb.wf hb.dep
  have h2 := variable_ok nm (by omega)
  have h3 := value_ok v hv.wf hv.dep
  have huv : (v.all Tm.plain && v.valid) = v.value := rfl
  rw [huv] at h3
  have hbd := mbind_ok b hb.len hb.wf hb.dep hb.few nm hn v hv.wf hv.dep hv.few
  have hgt := mget_ok b hb.len hb.wf hb.dep hb.few nm
  have ho : ∀ w, getV b nm = some w → SmT w := fun w hw => by
    unfold getV at hw
    split at hw
    · exact hb.val _ (getB_some hw)
    · cases hw
  obtain ⟨w, hww, hw, hwe⟩ := opD_is _ ho
  have he := equal_ok w v hww hv.wf
  rw [hw] at hgt
  cases hbb : bindB b nm v with
  | some c =>
    have h7 := l7t_at t v ht hv b c hb hB nm hn hbb
    obtain ⟨m1, m2, m3, m4, m5⟩ := bindB_mem hbb
    rw [hbb] at hbd
    rw [m1] at h1
    rw [m2] at h2
    rw [m3] at h3
    have hgV : getV b nm = getB b nm := by unfold getV; rw [if_pos m1]
    have hev : (getV b nm).isSome = true → w.eqb v = true := fun h => by
      cases hq : getB b nm with
      | none => rw [hgV, hq] at h; cases h
      | some w' =>
        have e1 := hwe w' (by rw [hgV]; exact hq)
        rw [e1]
        exact eqb_eq.2 (m4 w' hq)
    generalize (getV b nm).isSome = old at h7 hgt hev
    generalize w.eqb v = ew at he hev
    obtain ⟨k, n, s, a⟩ := t
    obtain ⟨kv, nv, sv, av⟩ := v
    obtain ⟨kw, nw, sw, aw⟩ := w
    refine At.tree mCtr_ok (ML4_eq k n s (Tm.cellsL a) kv nv sv (Tm.cellsL av) (bdL b) nm (bdL c) true) ?_
    unfold ML4
    refine ⟨hbd, ?_⟩
    rw [ok_jmp]
    refine At.tree mCtr_ok (ML5_eq k n s (Tm.cellsL a) kv nv sv (Tm.cellsL av) (bdL b) nm (bdL c) true kw nw sw (Tm.cellsL aw) old) ?_
    unfold ML5
    refine ⟨hgt, ?_⟩
    rw [ok_jmp]
    refine At.tree mCtr_ok (ML6_eq k n s (Tm.cellsL a) kv nv sv (Tm.cellsL av) (bdL b) nm (bdL c) true kw nw sw (Tm.cellsL aw) old true true true ew) ?_
    unfold ML6
    cases old
    · exact ⟨h1, h2, h3, h7⟩
    · have e := hev rfl
      subst e
      exact ⟨h1, h2, h3, he, h7⟩
  | none =>
    rw [hbb] at hbd
    have h7 := fun old => l7f_at t v ht hv b nm old
    have hev : validB b = true → Lx.variableB nm = true → v.value = true → (getV b nm).isSome = true ∧ w.eqb v = false := fun e1 e2 e3 => by
      obtain ⟨w', g1, g2⟩ := bindB_no hbb e1 e2 e3
      have hgV : getV b nm = getB b nm := by unfold getV; rw [if_pos e1]
      have := hwe w' (by rw [hgV]; exact g1)
      rw [this, hgV, g1]
      exact ⟨rfl, g2⟩
    generalize (getV b nm).isSome = old at hgt hev
    generalize validB b = vb at h1 hev
    generalize Lx.variableB nm = vn at h2 hev
    generalize v.value = vv at h3 hev
    generalize w.eqb v = ew at he hev
    obtain ⟨k, n, s, a⟩ := t
    obtain ⟨kv, nv, sv, av⟩ := v
    obtain ⟨kw, nw, sw, aw⟩ := w
    refine At.tree mCtr_ok (ML4_eq k n s (Tm.cellsL a) kv nv sv (Tm.cellsL av) (bdL b) nm [] false) ?_
    unfold ML4
    refine ⟨hbd, ?_⟩
    rw [ok_jmp]
    refine At.tree mCtr_ok (ML5_eq k n s (Tm.cellsL a) kv nv sv (Tm.cellsL av) (bdL b) nm [] false kw nw sw (Tm.cellsL aw) old) ?_
    unfold ML5
    refine ⟨hgt, ?_⟩
    rw [ok_jmp]
    refine At.tree mCtr_ok (ML6_eq k n s (Tm.cellsL a) kv nv sv (Tm.cellsL av) (bdL b) nm [] false kw nw sw (Tm.cellsL aw) old vb vn vv ew) ?_
    unfold ML6
    cases vb
    · exact ⟨h1, h7 _⟩
    · cases vn
      · exact ⟨h1, h2, h7 _⟩
      · cases vv
        · exact ⟨h1, h2, h3, h7 _⟩
        · obtain ⟨e1, e2⟩ := hev rfl rfl rfl
          subst e1 e2
          exact ⟨h1, h2, h3, he, h7 _⟩
/-- Applied twice. -/
theorem l2_at (t v : Tm) (ht : SmT t) (hv : SmT v) (b : List Bd) (hb : SmB b) (hB : b.length ≤ 150) (nm : List UInt8) (hn : nm.length ≤ 281474976710656) : AtL 2 ⟨tmV (bdL b) nm, [(0, .cells t.cells), (1, .cells v.cells)]⟩ := by
  have h4 := l4_at t v ht hv b hb hB nm hn
  obtain ⟨p1, p2, p3, p4⟩ := vldB_props b
  have huf : (t.ap (vldB b)).few 1000 := ap_few (fun x hx => hb.few x (p2 x hx)) t ht.few
  have huw : (t.ap (vldB b)).wf 281474976710656 := ap_wf (fun x hx => (hb.wf x (p2 x hx)).2) t ht.wf
  have a1 := apply_ok b hb.len hb.wf hb.dep hb.few t ht.few
  have a2 := apply_ok b hb.len hb.wf hb.dep hb.few _ huf
  rw [ap_ap p4 t] at a2
  have e1 := sa_ok _ _ huw huw
  unfold SaP at e1
  rw [eqb_eq.2 rfl] at e1
  have e2 := sa_ok _ _ huw ht.wf
  unfold SaP at e2
  have hva := mva_ok b hb.len hb.wf hb.dep
  have hut : validB b = false → (t.ap (vldB b)).eqb t = true := fun h => by
    unfold vldB
    rw [if_neg (by rw [h]; decide), ap_nil]
    exact eqb_eq.2 rfl
  generalize (t.ap (vldB b)).eqb t = ut at e2 hut
  generalize t.ap (vldB b) = u at a1 a2 e1 e2
  generalize validB b = vb at hva hut
  obtain ⟨k, n, s, a⟩ := t
  obtain ⟨kv, nv, sv, av⟩ := v
  obtain ⟨ku, nu, su, au⟩ := u
  refine At.tree mCtr_ok (ML2_eq k n s (Tm.cellsL a) kv nv sv (Tm.cellsL av) (bdL b) nm ku nu su (Tm.cellsL au)) ?_
  unfold ML2
  refine ⟨a1, ?_⟩
  rw [ok_jmp]
  refine At.tree mCtr_ok (ML3_eq k n s (Tm.cellsL a) kv nv sv (Tm.cellsL av) (bdL b) nm ku nu su (Tm.cellsL au) vb ut) ?_
  unfold ML3
  cases vb
  · have e := hut rfl
    subst e
    exact ⟨a2, e1, hva, e2, h4⟩
  · exact ⟨a2, e1, hva, h4⟩
theorem sm_of {b : List Bd} {t v : Tm} (ht : t.wf 281474976710656) (hv : v.wf 281474976710656) (hb : ∀ x ∈ b, x.wf 281474976710656) (hB : b.length ≤ 150) (h : smB b (Tm.szL [t, v] 150 0) ≤ 150) : SmT t ∧ SmT v ∧ SmB b := by
  obtain ⟨h1, h2⟩ := smB_le b _ (szL_ge [t, v] 150 0) h
  have hf := fewL_all.1 (szL_few (N := 1000) [t, v] 150 0 (by decide) h1).1
  have hd := szL_depth [t, v] 150 0 h1
  have mt : t ∈ [t, v] := List.mem_cons_self ..
  have mv : v ∈ [t, v] := List.mem_cons_of_mem _ (List.mem_cons_self ..)
  have dt := depthL_mem0 mt
  have dv := depthL_mem0 mv
  exact ⟨⟨ht, by omega, hf t mt⟩, ⟨hv, by omega, hf v mv⟩, by omega, fun x hx => (hb x hx).1, fun x hx => ⟨(hb x hx).2, by have := sz_depth x.v 150 (h2 x hx); omega, sz_few x.v 150 (by decide) (h2 x hx)⟩⟩
/-- THE LAW, BUT FOR WHAT IS AWAKE. -/
theorem law_of (hw : FnOK Tryz.prog 7 [] (.bool true)) (t v : Tm) (b : List Bd) (nm : List UInt8) (ht : t.wf 281474976710656) (hv : v.wf 281474976710656) (hbw : ∀ x ∈ b, x.wf 281474976710656) (hbl : b.length ≤ 281474976710656) (hn : nm.length ≤ 281474976710656) :
    FnOK Tryz.prog 5 [.agg t.cells, .agg v.cells, .slice (bdL b) [], .str nm] (.bool true) := by
  have hs := small_ok b [t, v] hbl (fun x hx => (hbw x hx).2) (by show 2 ≤ _; decide) (fun x hx => by
    rcases List.mem_cons.1 hx with rfl | hx
    · exact ht
    · rcases List.mem_cons.1 hx with rfl | hx
      · exact hv
      · cases hx)
  have h2 : smlB b [t, v] = true → b.length ≤ 150 → AtL 2 ⟨tmV (bdL b) nm, [(0, .cells t.cells), (1, .cells v.cells)]⟩ := fun e hB => by
    obtain ⟨s1, s2, s3⟩ := sm_of ht hv hbw hB (of_decide_eq_true e)
    exact l2_at t v s1 s2 b s3 hB nm hn
  have hbe := bdL_len b
  generalize smlB b [t, v] = sm at hs h2
  obtain ⟨k, n, s, a⟩ := t
  obtain ⟨kv, nv, sv, av⟩ := v
  refine FnOK.tree hdraw fp5 mCtr_ok (ML_eq k n s (Tm.cellsL a) kv nv sv (Tm.cellsL av) (bdL b) nm) ?_
  unfold ML
  rw [ok_jmp]
  refine At.tree mCtr_ok (ML0_eq k n s (Tm.cellsL a) kv nv sv (Tm.cellsL av) (bdL b) nm) ?_
  unfold ML0
  refine ⟨hw, ?_⟩
  rw [ok_jmp]
  refine At.tree mCtr_ok (ML1_eq k n s (Tm.cellsL a) kv nv sv (Tm.cellsL av) (bdL b) nm sm) ?_
  unfold ML1
  cases sm
  · exact ⟨hs, rfl⟩
  · refine ⟨hs, ?_⟩
    simp only [ok_br, ok_owe, ok_ret, ok_jmp, decide_eq_true_eq, decide_eq_false_iff_not, Int.toNat_natCast, true_and, and_true, Bool.not_eq_true', Bool.not_eq_false', List.drop_zero, List.take_length, D.bool.injEq, D.int.injEq, D.str.injEq, true_implies, Int.le_refl]
    rw [hbe]
    refine ⟨fun h => (by first | trivial | cases h), fun _ => trivial, fun h => ?_⟩
    exact h2 rfl (by omega)
end Go.Proofs.YtobgkdlghljdlaaGreatDoor
