/- TermText RETURNS true. -/
import Derived.Test.YtbcgpkgdbepfbaaGreatDoorTextT
import Derived.Test.YtbcgpkgdbepfbaaGreatDoorSx7
set_option linter.unusedSectionVars false
set_option linter.unusedVariables false
set_option linter.unusedSimpArgs false
set_option linter.deprecated false
set_option maxRecDepth 100000
namespace Go.Proofs.YtbcgpkgdbepfbaaGreatDoor
open Go.Sx
theorem strT_v {x : Tm} (h : x.valid = true) : strT x = x.text := by unfold strT; rw [h]
theorem strT_n {x : Tm} (h : x.valid = false) : strT x = [] := by unfold strT; rw [h]
theorem val_all {x : Tm} (h : x.valid = true) : x.depth ≤ 12 ∧ x.all Tm.shape = true := by
  unfold Tm.valid at h
  rw [Bool.and_eq_true, decide_eq_true_eq] at h
  exact h
theorem strT_nil (x : Tm) : decide (strT x = []) = !x.valid := by
  cases h : x.valid with
  | false => rw [strT_n h]; rfl
  | true =>
    rw [strT_v h]
    exact decide_eq_false (Pa.text_ne (val_all h).2)
theorem strT_eq {x y : Tm} (hx : x.valid = true) (hy : y.valid = true) : decide (strT x = strT y) = x.eqb y := by
  rw [strT_v hx, strT_v hy, Bool.eq_iff_iff, decide_eq_true_eq, eqb_eq]
  exact ⟨Pa.text_inj (val_all hx).2 (val_all hy).2, fun h => by rw [h]⟩
theorem strT_len (x : Tm) : (strT x).length ≤ 16945772188860 := by
  cases h : x.valid with
  | false => rw [strT_n h]; decide
  | true =>
    rw [strT_v h]
    have h2 := val_all h
    have h1 := text_len x h2.2
    have h3 : 9 ^ x.depth ≤ 9 ^ 12 := Nat.pow_le_pow_right (by decide) h2.1
    have hp12 : (9 : Nat) ^ 12 = 282429536481 := by decide
    omega
theorem f_valid {x y : Tm} (h : Tm.valid (.mk 4 0 [102] [x, y]) = true) : x.valid = true ∧ y.valid = true ∧ (∀ a b : Tm, (a = x ∨ a = y) → (b = x ∨ b = y) → Tm.valid (.mk 5 0 [45] [a, b]) = true) ∧ strT (.mk 4 0 [102] [x, y]) = [102, 40] ++ strT x ++ [44] ++ strT y ++ [41] := by
  have h2 := val_all h
  simp only [Tm.depth, Tm.depthL, Tm.all, Tm.allL, Bool.and_eq_true, and_true] at h2
  obtain ⟨h3, _, h4, h5⟩ := h2
  have hx : x.depth ≤ 11 := by
    have := Nat.le_max_left x.depth (Nat.max y.depth 0)
    exact Nat.le_trans this (Nat.le_of_succ_le_succ h3)
  have hy : y.depth ≤ 11 := by
    have := Nat.le_max_right x.depth (Nat.max y.depth 0)
    exact Nat.le_trans (Nat.le_trans (Nat.le_max_left ..) this) (Nat.le_of_succ_le_succ h3)
  have vx : x.valid = true := by unfold Tm.valid; rw [h4, decide_eq_true (by omega)]; rfl
  have vy : y.valid = true := by unfold Tm.valid; rw [h5, decide_eq_true (by omega)]; rfl
  refine ⟨vx, vy, fun a b ha hb => ?_, ?_⟩
  · have da : a.depth ≤ 11 ∧ a.all Tm.shape = true := by rcases ha with rfl | rfl <;> exact ⟨by assumption, by assumption⟩
    have db : b.depth ≤ 11 ∧ b.all Tm.shape = true := by rcases hb with rfl | rfl <;> exact ⟨by assumption, by assumption⟩
    unfold Tm.valid
    simp only [Tm.depth, Tm.depthL, Tm.all, Tm.allL, da.2, db.2, Bool.and_eq_true, decide_eq_true_eq, and_true]
    exact ⟨decide_eq_true (Nat.succ_le_succ (Nat.max_le.2 ⟨da.1, Nat.max_le.2 ⟨db.1, Nat.zero_le _⟩⟩)), rfl⟩
  · rw [strT_v h, strT_v vx, strT_v vy]
    simp [Tm.text, Tm.texts, Lib.join_cons, Lib.joinTail]
mutual
theorem sz_depth : ∀ (t : Tm) (m : Int), t.sz m ≤ m → (t.depth : Int) ≤ m
  | .mk k n s l, m, h => by
    simp only [Tm.sz] at h
    have := szL_depth l (m - 1) 0 (by omega)
    simp only [Tm.depth]
    omega
theorem szL_depth : ∀ (l : List Tm) (m n : Int), Tm.szL l m n ≤ m → (Tm.depthL l : Int) ≤ m - n
  | [], m, n, h => by
    simp only [Tm.szL] at h
    simp only [Tm.depthL]
    omega
  | a :: r, m, n, h => by
    simp only [Tm.szL] at h
    simp only [Tm.depthL]
    split at h
    · have h0 := sz_ge a (m - n)
      have h1 := szL_ge r m (n + a.sz (m - n))
      have h2 := szL_depth r m (n + a.sz (m - n)) h
      have h3 := sz_depth a (m - n) (by omega)
      have : Nat.max a.depth (Tm.depthL r) = a.depth ∨ Nat.max a.depth (Tm.depthL r) = Tm.depthL r := by
        rcases Nat.le_total a.depth (Tm.depthL r) with h | h
        · exact .inr (Nat.max_eq_right h)
        · exact .inl (Nat.max_eq_left h)
      omega
    · omega
end
theorem text_true (x y : Tm) (hx : x.wf 281474976710656) (hy : y.wf 281474976710656) : FnOK Tryz.prog 8 [.agg x.cells, .agg y.cells] (.bool true) := by
  have hsm := small_ok [x, y] (by simp) ⟨hx, hy, trivial⟩
  have hF := funT_ok [102] (Tm.cellsL [x, y]) []
  have hO1 := opT_ok [45] (Tm.cellsL [x, y]) []
  have hO2 := opT_ok [45] (Tm.cellsL [y, x]) []
  have hE := equal_ok x y hx hy
  have wfm : ∀ (k : Nat) (s : List UInt8) (a b : Tm), k ≤ 255 → s.length ≤ 1 → a.wf 281474976710656 → b.wf 281474976710656 → Tm.wf 281474976710656 (.mk k 0 s [a, b]) := fun k s a b hk hs ha hb => by
    simp only [Tm.wf, Tm.wfL]
    exact ⟨hk, by omega, by omega, by omega, by simp, ha, hb, trivial⟩
  have hdp : decide (Tm.szL [x, y] 300 0 ≤ 300) = true → x.depth ≤ 300 ∧ y.depth ≤ 300 := fun h => by
    have := szL_depth [x, y] 300 0 (of_decide_eq_true h)
    simp only [Tm.depthL] at this
    have h1 : x.depth ≤ Nat.max x.depth (Nat.max y.depth 0) := Nat.le_max_left ..
    have h2 : y.depth ≤ Nat.max x.depth (Nat.max y.depth 0) := Nat.le_trans (Nat.le_max_left y.depth 0) (Nat.le_max_right x.depth (Nat.max y.depth 0))
    constructor <;> omega
  have dpm : ∀ (k : Nat) (s : List UInt8) (a b : Tm), a.depth ≤ 300 → b.depth ≤ 300 → Tm.depth (.mk k 0 s [a, b]) ≤ 1000000000 := fun k s a b ha hb => by
    simp only [Tm.depth, Tm.depthL]
    have : Nat.max a.depth (Nat.max b.depth 0) ≤ 300 := Nat.max_le.2 ⟨ha, Nat.max_le.2 ⟨hb, by decide⟩⟩
    omega
  have hs1 := fun hd => string_ok x hx hd
  have hs2 := fun hd => string_ok y hy hd
  have hv1 := fun hd => valid_ok x hx hd
  have hv2 := fun hd => valid_ok y hy hd
  have hsf := fun hd => string_ok (.mk 4 0 [102] [x, y]) (wfm 4 [102] x y (by decide) (by decide) hx hy) hd
  have hvf := fun hd => valid_ok (.mk 4 0 [102] [x, y]) (wfm 4 [102] x y (by decide) (by decide) hx hy) hd
  have hso1 := fun hd => string_ok (.mk 5 0 [45] [x, y]) (wfm 5 [45] x y (by decide) (by decide) hx hy) hd
  have hso2 := fun hd => string_ok (.mk 5 0 [45] [y, x]) (wfm 5 [45] y x (by decide) (by decide) hy hx) hd
  have n1 := strT_nil x
  have n2 := strT_nil y
  have ee := @strT_eq x y
  have l1 := strT_len x
  have l2 := strT_len y
  have hf := @f_valid x y
  have hfn := @strT_n (.mk 4 0 [102] [x, y])
  have hoe : Tm.valid (.mk 4 0 [102] [x, y]) = true → decide (strT (.mk 5 0 [45] [x, y]) = strT (.mk 5 0 [45] [y, x])) = x.eqb y := fun h => by
    have h1 := (hf h).2.2.1
    rw [strT_eq (h1 x y (.inl rfl) (.inr rfl)) (h1 y x (.inr rfl) (.inl rfl)), Bool.eq_iff_iff, eqb_eq, eqb_eq]
    constructor
    · intro h; injection h with _ _ _ h; injection h with h _
    · intro h; rw [h]
  have d1 := dpm 4 [102] x y
  have d2 := dpm 5 [45] x y
  have d3 := dpm 5 [45] y x
  replace hf := fun h => (⟨(hf h).1, (hf h).2.1, (hf h).2.2.2⟩ : _ ∧ _ ∧ _)
  generalize Tm.valid (.mk 4 0 [102] [x, y]) = vf at *
  generalize strT (.mk 4 0 [102] [x, y]) = f at *
  generalize strT (.mk 5 0 [45] [x, y]) = x1 at *
  generalize strT (.mk 5 0 [45] [y, x]) = x2 at *
  generalize decide (Tm.szL [x, y] 300 0 ≤ 300) = sm at *
  generalize strT x = t at *
  generalize strT y = u at *
  generalize x.valid = va at *
  generalize y.valid = vb at *
  generalize x.eqb y = e at *
  simp only [Tm.cells, Tm.cellsL] at hsm hF hO1 hO2 hsf hvf hso1 hso2
  clear wfm dpm hx hy
  have dx : x.depth ≤ 300 → x.depth ≤ 1000000000 := fun h => by omega
  have dy : y.depth ≤ 300 → y.depth ≤ 1000000000 := fun h => by omega
  generalize x.depth = px at *
  generalize y.depth = py at *
  generalize Tm.depth (.mk 4 0 [102] [x, y]) = pf at *
  generalize Tm.depth (.mk 5 0 [45] [x, y]) = po1 at *
  generalize Tm.depth (.mk 5 0 [45] [y, x]) = po2 at *
  obtain ⟨k, n, s, l⟩ := x
  obtain ⟨k', n', s', l'⟩ := y
  refine FnOK.tree hdraw fp8 (dCtr_ok qnone_ok) (PTT_eq k n s (Tm.cellsL l) k' n' s' (Tm.cellsL l') sm va vb e vf t u f x1 x2) ?_
  unfold PTT
  simp only [ok_br, ok_owe, ok_ret]
  have key : sm = true → FnOK Tryz.prog 31 [.agg (Tm.cells (.mk k n s l))] (.str t) ∧ FnOK Tryz.prog 31 [.agg (Tm.cells (.mk k' n' s' l'))] (.str u) ∧ FnOK Tryz.prog 21 [.agg (Tm.cells (.mk k n s l))] (.bool va) ∧ FnOK Tryz.prog 21 [.agg (Tm.cells (.mk k' n' s' l'))] (.bool vb) := fun h =>
    ⟨hs1 (dx (hdp h).1), hs2 (dy (hdp h).2), hv1 (dx (hdp h).1), hv2 (dy (hdp h).2)⟩
  have key2 := fun h : sm = true => hsf (d1 (hdp h).1 (hdp h).2)
  have key3 := fun h : sm = true => hvf (d1 (hdp h).1 (hdp h).2)
  have key4 := fun h : sm = true => hso1 (d2 (hdp h).1 (hdp h).2)
  have key5 := fun h : sm = true => hso2 (d3 (hdp h).2 (hdp h).1)
  clear hs1 hs2 hv1 hv2 hsf hvf hso1 hso2 d1 d2 d3 hdp dx dy
  have b1 : 2 + t.length ≤ 4611686018427387904 := by omega
  have b2 : ([102, 40] ++ t).length + 1 ≤ 4611686018427387904 := by simp; omega
  have b3 : ([102, 40] ++ t ++ [44]).length + u.length ≤ 4611686018427387904 := by simp; omega
  have b4 : ([102, 40] ++ t ++ [44] ++ u).length + 1 ≤ 4611686018427387904 := by simp; omega
  refine ⟨awake_ok, hsm, fun h => trivial, fun h => ?_⟩
  have hm : sm = true := by cases sm with | true => rfl | false => simp at h
  obtain ⟨k1, k2, k3, k4⟩ := key hm
  have c2 := key2 hm
  have c3 := key3 hm
  have c4 := key4 hm
  have c5 := key5 hm
  clear key key2 key3 key4 key5 hsm hm h
  rw [n1]
  refine ⟨k1, k2, k3, fun h => by cases va <;> simp at h, fun _ => ⟨k3, ?_⟩⟩
  have rest1 : (!vf) = true → D.bool (decide (f = [])) = .bool true := fun h => by
    have : vf = false := by cases vf with | true => simp at h | false => rfl
    rw [hfn this]; rfl
  have rest2 : (!vf) = false → vf = true := fun h => by cases vf with | true => rfl | false => simp at h
  have rest3 : (!vf) = false → decide (f = [102, 40] ++ t ++ [44] ++ u ++ [41]) = false → False := fun h h2 => by
    rw [(hf (rest2 h)).2.2] at h2
    simp at h2
  have rest4 : (!vf) = false → D.bool ((!decide (x1 = x2)) == !e) = .bool true := fun h => by
    rw [hoe (rest2 h)]; cases e <;> rfl
  refine ⟨fun hva => ⟨k4, fun hvb => ⟨hE, fun h => ?_, fun _ => ⟨hF, c2, c3, rest1, fun h => ⟨b1, b2, b3, b4, fun _ => ⟨hO1, c4, hO2, c5, hE, rest4 h⟩, fun h2 => (rest3 h h2).elim⟩⟩⟩, fun _ => ⟨hF, c2, c3, rest1, fun h => ⟨b1, b2, b3, b4, fun _ => ⟨hO1, c4, hO2, c5, hE, rest4 h⟩, fun h2 => (rest3 h h2).elim⟩⟩⟩, fun _ => ⟨hF, c2, c3, rest1, fun h => ⟨b1, b2, b3, b4, fun _ => ⟨hO1, c4, hO2, c5, hE, rest4 h⟩, fun h2 => (rest3 h h2).elim⟩⟩⟩
  rw [ee hva hvb] at h
  cases e <;> simp at h
end Go.Proofs.YtbcgpkgdbepfbaaGreatDoor
