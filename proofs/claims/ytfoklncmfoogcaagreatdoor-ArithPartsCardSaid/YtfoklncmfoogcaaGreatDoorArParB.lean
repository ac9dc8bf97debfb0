/- The law of the parts of terms holds. -/
import Derived.Test.YtfoklncmfoogcaaGreatDoorArPar
set_option linter.unusedSectionVars false
set_option linter.unusedVariables false
set_option linter.unusedSimpArgs false
set_option linter.deprecated false
set_option maxRecDepth 100000
namespace Go.Proofs.YtfoklncmfoogcaaGreatDoor
open Go.Sx
abbrev QAP : Exit → St → Prop := FinQ true 0 rs7 fun r _ => r = .bool true
def AtP (i : Nat) (s : St) : Prop := At Tryz.prog 0 (frg sc7 i) s QAP
theorem numL_ok (m : Int) : FnOK Tryz.prog 18 [.int .i64 m] (.agg (tC 1 m [] [])) := by
  refine FnOK.tree hdraw fp18 (ctr_ok libT_ok qnone_ok) (PNumL_eq m) ?_
  unfold PNumL
  exact rfl
theorem eqb_self (x : Tm) : x.eqb x = true := eqb_eq.2 rfl
theorem ap10 (m : Int) (hm : fitsB m = true) : AtP 10 ⟨[(3, .ptr 0 0), (11, .int .i64 m), (12, .bool true)], [(0, .cells (numT m).cells)]⟩ := by
  have := fitsB_iff.1 hm
  have hw : (numT m).wf 281474976710656 := by simp only [numT, Tm.wf, List.length_nil]; exact ⟨by omega, by omega, by omega, Nat.zero_le _, Nat.zero_le _, trivial⟩
  have he := equal_ok (numT m) (numT m) hw hw
  rw [eqb_self] at he
  refine At.tree (dCtr_ok qnone_ok) (AP10_eq 1 m [] [] m) ?_
  unfold AP10
  exact ⟨numL_ok m, he, rfl⟩
theorem ap8 (k : Nat) (n : Int) (s : List UInt8) (l : List Tm) (v : Tm) (os : List Int) (hl : os.length ≤ 1000) (h5 : k = 5 → ∃ m, calcR s os = some m ∧ v = numT m) : AtP 8 ⟨[(1, .ptr 0 0), (3, .ptr 1 0), (7, .vec 2)], [(0, .cells (Tm.mk k n s l).cells), (1, .cells v.cells), (2, .arr true 1 3 (intC .i64 os))]⟩ := by
  have e5 : ((k : Int) = 5) = (k = 5) := propext (by omega)
  obtain ⟨kv, nv, sv, lv⟩ := v
  refine At.tree (dCtr_ok qnone_ok) (AP8_eq k n s (Tm.cellsL l) kv nv sv (Tm.cellsL lv) (intC .i64 os)) ?_
  unfold AP8
  simp only [ok_br, ok_owe, ok_ret, ok_jmp, decide_eq_true_eq, decide_eq_false_iff_not, Int.toNat_natCast, true_and, and_true, Bool.not_eq_true', Bool.not_eq_false', List.drop_zero, List.take_length, D.bool.injEq, D.int.injEq, D.str.injEq, true_implies, Int.le_refl, e5]
  refine ⟨fun _ => trivial, fun hk => ?_⟩
  obtain ⟨m, hm, hv⟩ := h5 hk
  have hc := calB_ok s [] os (by omega)
  rw [hm] at hc
  have hv10 := ap10 m (calcR_fits hm)
  rw [← hv] at hv10
  refine At.tree (dCtr_ok (asmO_ok _ _)) (AP9_eq k n s (Tm.cellsL l) kv nv sv (Tm.cellsL lv) (intC .i64 os) m true) ?_
  unfold AP9
  exact ⟨hc, hv10⟩
theorem apl (k : Nat) (n : Int) (s : List UInt8) (l : List Tm) (v : Tm) (vs : List Tm) (hl : l.length ≤ 1000) (hlen : vs.length = l.length) (hw : Tm.wfL 281474976710656 l) (hwv : Tm.wfL 281474976710656 vs) (hfew : Tm.fewL 1000 l) (hd : ∀ x ∈ l, x.depth ≤ 1000000000)
    (hev : ∀ (i : Nat) (h : i < l.length) (h' : i < vs.length), l[i].eval = some vs[i]) (h4 : k = 4 → v = .mk 4 0 s vs) (h5 : k = 5 → ∃ m, calcR s (vs.map Tm.num) = some m ∧ v = numT m) : ∀ (m i : Nat), l.length - i = m → i ≤ l.length →
    At Tryz.prog 0 (cut sc7 0) ⟨[(1, .ptr 0 0), (3, .ptr 1 0), (7, .vec 2), (8, .int .i64 i)], [(0, .cells (Tm.mk k n s l).cells), (1, .cells v.cells), (2, .arr true 1 3 (intC .i64 ((vs.take i).map Tm.num)))]⟩ QAP := by
  have e4 : ((k : Int) = 4) = (k = 4) := propext (by omega)
  obtain ⟨kv, nv, sv, lv⟩ := v
  intro m
  induction m with
  | zero =>
    intro i hm hi
    have h8 := ap8 k n s l (.mk kv nv sv lv) (vs.map Tm.num) (by simp; omega) h5
    have ht : vs.take i = vs := List.take_of_length_le (by omega)
    rw [ht]
    refine At.tree (dCtr_ok qnone_ok) (APL_eq k n s (Tm.cellsL l) kv nv sv (Tm.cellsL lv) (intC .i64 (vs.map Tm.num)) i 0 0 [] [] 0 0 [] []) ?_
    unfold APL
    simp only [ok_br, ok_owe, ok_ret, ok_jmp, decide_eq_true_eq, decide_eq_false_iff_not, Int.toNat_natCast, true_and, and_true, Bool.not_eq_true', Bool.not_eq_false', List.drop_zero, List.take_length, D.bool.injEq, D.int.injEq, D.str.injEq, true_implies, Int.le_refl, cellsL_length]
    exact ⟨fun h => by omega, fun _ => h8⟩
  | succ m ih =>
    intro i hm hi
    have h1 : i < l.length := by omega
    have h2 : i < vs.length := by omega
    have hx := cellsL_get h1
    have hy := cellsL_get h2
    have hI := ih (i + 1) (by omega) (by omega)
    have hE := eval_ok l[i] (wfL_all.1 hw _ (List.getElem_mem h1)) (fewL_all.1 hfew _ (List.getElem_mem h1)) (hd _ (List.getElem_mem h1))
    rw [hev i h1 h2] at hE
    have hq := equal_ok vs[i] vs[i] (wfL_all.1 hwv _ (List.getElem_mem h2)) (wfL_all.1 hwv _ (List.getElem_mem h2))
    rw [eqb_self] at hq
    have ht : intC .i64 ((vs.take (i + 1)).map Tm.num) = intC .i64 ((vs.take i).map Tm.num) ++ [[.int .i64 vs[i].num]] := by
      rw [List.take_add_one, List.getElem?_eq_getElem h2]
      simp only [intC, List.map_append, Option.toList_some, List.map_cons, List.map_nil]
    rw [ht] at hI
    have hlo : (intC .i64 ((vs.take i).map Tm.num)).length = i := by simp [intC]; omega
    generalize l[i] = x at hx hE
    generalize vs[i] = y at hy hE hq hI
    obtain ⟨kx, nx, sx, ax⟩ := x
    obtain ⟨ky, ny, sy, ay⟩ := y
    refine At.tree (dCtr_ok qnone_ok) (APL_eq k n s (Tm.cellsL l) kv nv sv (Tm.cellsL lv) (intC .i64 ((vs.take i).map Tm.num)) i kx nx sx (Tm.cellsL ax) ky ny sy (Tm.cellsL ay)) ?_
    unfold APL
    simp only [ok_br, ok_owe, ok_ret, ok_jmp, decide_eq_true_eq, decide_eq_false_iff_not, Int.toNat_natCast, true_and, and_true, Bool.not_eq_true', Bool.not_eq_false', List.drop_zero, List.take_length, D.bool.injEq, D.int.injEq, D.str.injEq, true_implies, Int.le_refl, cellsL_length, e4, hlo]
    refine ⟨fun _ => ⟨⟨by omega, hx⟩, hE, fun hk => ?_, fun hk => ⟨⟨by simp [allLen], by omega⟩, by omega, hI⟩⟩, fun h => by omega⟩
    have := h4 hk
    simp only [Tm.mk.injEq] at this
    obtain ⟨_, _, _, rfl⟩ := this
    exact ⟨⟨by omega, hy⟩, hq, ⟨by simp [allLen], by omega⟩, by omega, hI⟩
theorem ap6 (k : Nat) (n : Int) (s : List UInt8) (l : List Tm) (v : Tm) (hx : (Tm.mk k n s l).wf 281474976710656) (hf : (Tm.mk k n s l).few 1000) (hd : (Tm.mk k n s l).depth ≤ 1000) (hv : (Tm.mk k n s l).eval = some v) : AtP 6 ⟨[(1, .ptr 0 0), (3, .ptr 1 0)], [(0, .cells (Tm.mk k n s l).cells), (1, .cells v.cells)]⟩ := by
  have hgo : At Tryz.prog 0 (cut sc7 0) ⟨[(1, .ptr 0 0), (3, .ptr 1 0), (7, .vec 2), (8, .int .i64 (0 : Nat))], [(0, .cells (Tm.mk k n s l).cells), (1, .cells v.cells), (2, .arr true 1 3 (intC .i64 (([] : List Tm).map Tm.num)))]⟩ QAP := by
    simp only [Tm.wf] at hx
    obtain ⟨_, _, _, _, _, hw⟩ := hx
    simp only [Tm.few] at hf
    simp only [Tm.depth] at hd
    by_cases h0 : l = []
    · subst h0
      obtain ⟨rfl, h5, h4⟩ := eval_leaf hv
      exact apl k n s [] (.mk k n s []) [] (by simp) rfl trivial trivial trivial (fun x hx => by cases hx) (fun i h => by simp at h) (fun h => absurd h h4) (fun h => absurd h h5) _ 0 rfl (Nat.zero_le _)
    · obtain ⟨vs, hvs, hlen, hev, hk⟩ := eval_kid hv h0
      have hwv : Tm.wfL 281474976710656 vs := by
        rw [wfL_all]
        intro y hy
        obtain ⟨x, hx, hxe⟩ := evL_mem hvs hy
        exact ev_wf x y (wfL_all.1 hw x hx) hxe
      have := apl k n s l v vs hf.1 hlen hw hwv hf.2 (fun x hx => by have := depthL_mem0 hx; omega) hev (fun h => by
        rcases hk with ⟨_, h2⟩ | ⟨h5, _⟩
        · exact h2
        · omega) (fun h => by
        rcases hk with ⟨h4, _⟩ | ⟨_, ns, m, h1, h2, h3⟩
        · omega
        · exact ⟨m, by rw [nums_of h1]; exact h2, h3⟩) _ 0 rfl (Nat.zero_le _)
      rw [List.take_zero] at this
      exact this
  obtain ⟨kv, nv, sv, lv⟩ := v
  refine At.tree (dCtr_ok qnone_ok) (AP6_eq k n s (Tm.cellsL l) kv nv sv (Tm.cellsL lv)) ?_
  unfold AP6
  rw [ok_jmp]
  refine At.tree (dCtr_ok qnone_ok) (AP7_eq k n s (Tm.cellsL l) kv nv sv (Tm.cellsL lv)) ?_
  unfold AP7
  exact hgo
theorem ap4 (x v : Tm) (hx : x.wf 281474976710656) (hf : x.few 1000) (hd : x.depth ≤ 1000) (hv : x.eval = some v) : AtP 4 ⟨[(1, .ptr 0 0), (3, .ptr 1 0)], [(0, .cells x.cells), (1, .cells v.cells)]⟩ := by
  have hev := (eval_some hv).2.2.2
  have hwv := ev_wf x v hx hev
  have hfv := ev_few x v hf hev
  obtain ⟨hval, hdv⟩ := eval_value hv
  have hE := eval_ok v hwv hfv (by omega)
  rw [eval_self hval] at hE
  have h1 := equal_ok v v hwv hwv
  rw [eqb_self] at h1
  have h2 := value_ok v hwv (by omega)
  have h2' : (v.all Tm.plain && v.valid) = true := hval
  rw [h2'] at h2
  have h3 := value_ok x hx (by omega)
  have h4 := equal_ok x v hx hwv
  have hq : (x.all Tm.plain && x.valid) = true → x.eqb v = true := fun h => by
    have : x.eval = some x := eval_self h
    rw [hv] at this
    cases this
    exact eqb_self _
  obtain ⟨k, n, s, l⟩ := x
  have h6 := ap6 k n s l v hx hf hd hv
  have hkk : v.cells = v.cells := rfl
  have h44 : ∀ kv nv sv lv, v = Tm.mk kv nv sv lv → kv = 4 → k = 4 ∧ lv.length = l.length := fun kv nv sv lv he h4 => by
    by_cases h0 : l = []
    · subst h0
      obtain ⟨hvv, _, hk4⟩ := eval_leaf hv
      rw [he] at hvv
      cases hvv
      exact absurd h4 hk4
    · obtain ⟨vs, _, hlen, _, hk⟩ := eval_kid hv h0
      rcases hk with ⟨hk, hvv⟩ | ⟨hk, ns, m, _, _, hvv⟩
      · rw [he] at hvv
        cases hvv
        exact ⟨hk, hlen⟩
      · rw [he] at hvv
        cases hvv
        omega
  generalize (Tm.mk k n s l).eqb v = q at h4 hq
  generalize ((Tm.mk k n s l).all Tm.plain && (Tm.mk k n s l).valid) = vt at h3 hq
  obtain ⟨kv, nv, sv, lv⟩ := v
  have h44 := h44 kv nv sv lv rfl
  refine At.tree (dCtr_ok qnone_ok) (AP4_eq k n s (Tm.cellsL l) kv nv sv (Tm.cellsL lv)) ?_
  unfold AP4
  refine ⟨hE, ?_⟩
  refine At.tree (dCtr_ok qnone_ok) (AP5_eq k n s (Tm.cellsL l) kv nv sv (Tm.cellsL lv) vt q) ?_
  unfold AP5
  have e4 : ((kv : Int) = 4) = (kv = 4) := propext (by omega)
  have e4' : ((k : Int) = 4) = (k = 4) := propext (by omega)
  have el : ((lv.length : Int) = (l.length : Int)) = (lv.length = l.length) := propext (by omega)
  simp only [ok_br, ok_owe, ok_ret, ok_jmp, decide_eq_true_eq, decide_eq_false_iff_not, Int.toNat_natCast, true_and, and_true, Bool.not_eq_true', Bool.not_eq_false', List.drop_zero, List.take_length, D.bool.injEq, D.int.injEq, D.str.injEq, true_implies, Int.le_refl, cellsL_length, e4, e4', el]
  have hj : (decide (kv = 4) = true → k = 4 ∧ lv.length = l.length) := fun h => h44 (of_decide_eq_true h)
  refine ⟨h1, h2, h3, fun hvt => ⟨h4, fun hq2 => ?_, fun _ => ⟨fun h4k => ⟨fun hk => absurd (h44 h4k).1 hk, fun _ => ⟨fun hk => absurd (h44 h4k).2 hk, fun _ => h6⟩⟩, fun _ => h6⟩⟩, fun _ => ⟨fun h4k => ⟨fun hk => absurd (h44 h4k).1 hk, fun _ => ⟨fun hk => absurd (h44 h4k).2 hk, fun _ => h6⟩⟩, fun _ => h6⟩⟩
  rw [hq hvt] at hq2
  cases hq2
/-- ArithParts, if the chapter's examples hold. -/
theorem parts_of (hA : FnOK Tryz.prog 8 [] (.bool true)) (x : Tm) (hx : x.wf 281474976710656) : FnOK Tryz.prog 7 [.agg x.cells] (.bool true) := by
  have hs := sz_ok x hx 60 (by omega) (by omega)
  have hfew := sz_few (N := 1000) x 60 (by omega)
  have hdep := sz_depth x 60
  have hE := fun hf => eval_ok x hx hf
  have h4 := fun v => ap4 x v hx
  have hval := fun hd => value_ok x hx hd
  have hself := fun h => @eval_self x h
  unfold Tm.value at hself
  generalize x.sz 60 = c at hs hfew hdep
  generalize x.eval = o at hE h4 hself
  generalize x.depth = d at *
  generalize x.few 1000 = F at *
  generalize (x.all Tm.plain && x.valid) = vt at *
  obtain ⟨k, n, s, l⟩ := x
  refine FnOK.tree hdraw fp7 (ctr_ok libT_ok qnone_ok) (AP_eq k n s (Tm.cellsL l)) ?_
  unfold AP
  rw [ok_jmp]
  refine At.tree (dCtr_ok qnone_ok) (AP0_eq k n s (Tm.cellsL l)) ?_
  unfold AP0
  refine ⟨hA, ?_⟩
  refine At.tree (dCtr_ok qnone_ok) (AP1_eq k n s (Tm.cellsL l) c) ?_
  unfold AP1
  rw [ok_owe, ok_br, ok_ret, ok_jmp]
  refine ⟨hs, fun _ => rfl, fun hc => ?_⟩
  have hc := of_decide_eq_false hc
  have hF : F := hfew (by omega)
  have hD : (d : Int) ≤ 60 := hdep (by omega)
  have hE := hE hF (by omega)
  cases o with
  | none =>
    refine At.tree (dCtr_ok qnone_ok) (AP2_eq k n s (Tm.cellsL l) 0 0 [] [] false) ?_
    unfold AP2
    refine ⟨hE, ?_⟩
    refine At.tree (dCtr_ok qnone_ok) (AP3_eq k n s (Tm.cellsL l) 0 0 [] [] false vt) ?_
    unfold AP3
    refine ⟨hval (by omega), ?_⟩
    cases vt with
    | false => exact rfl
    | true => exact absurd (hself rfl) (by simp)
  | some v =>
    have h4 := h4 v hF (by omega) rfl
    obtain ⟨kv, nv, sv, lv⟩ := v
    refine At.tree (dCtr_ok qnone_ok) (AP2_eq k n s (Tm.cellsL l) kv nv sv (Tm.cellsL lv) true) ?_
    unfold AP2
    refine ⟨hE, ?_⟩
    refine At.tree (dCtr_ok qnone_ok) (AP3_eq k n s (Tm.cellsL l) kv nv sv (Tm.cellsL lv) true vt) ?_
    unfold AP3
    exact h4
end Go.Proofs.YtfoklncmfoogcaaGreatDoor
