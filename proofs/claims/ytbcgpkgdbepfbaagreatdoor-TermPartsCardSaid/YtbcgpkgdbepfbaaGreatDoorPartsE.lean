/- TermParts: a round of the first loop; the law. -/
import Derived.Test.YtbcgpkgdbepfbaaGreatDoorPartsD
set_option linter.unusedSectionVars false
set_option linter.unusedVariables false
set_option linter.unusedSimpArgs false
set_option linter.deprecated false
set_option maxRecDepth 100000
namespace Go.Proofs.YtbcgpkgdbepfbaaGreatDoor
open Go.Sx
theorem step0 (k n : Int) (s : List UInt8) (a fl : List (List D)) (i : Nat) (d c q : Int) (p va : Bool) (v w : List (List UInt8)) (x : Tm) (h1 : i < a.length) (ha : a.length ≤ 1000000) (hx : a[i]? = some x.cells) (hVa : FnOK Tryz.prog 21 [.agg x.cells] (.bool va)) (hDe : FnOK Tryz.prog 22 [.agg x.cells] (.int .i64 c)) (hVs : FnOK Tryz.prog 23 [.agg x.cells] (.slice (strC w) []))
    (hq : (if c > d then c else d) = q) (hvw : v.length + w.length ≤ 1073741824) (hfl : fl.length + 1 ≤ 1073741824)
    (hI : At Tryz.prog 0 (cut sc5 0) (hdP (i + 1) q (p && va) (obP1 k n s a (strC (v ++ w)) [Go.Sx.n7.cells])) (FinQ true 0 rs5 fun r _ => r = .bool true)) :
    At Tryz.prog 0 (cut sc5 0) (hdP i d p (obP0 k n s a (strC v))) (FinQ true 0 rs5 fun r _ => r = .bool true) := by
  obtain ⟨kx, nx, sx, ax⟩ := x
  have h7 := numT_ok 7
  have hvl : allLen 1 (strC w) ∧ (strC v).length + (strC w).length ≤ 1073741824 := ⟨fun y hy => by
    unfold strC at hy
    obtain ⟨t, _, rfl⟩ := List.mem_map.1 hy
    rfl, by rw [strC_len, strC_len]; exact hvw⟩
  rw [strC_app] at hI
  refine At.tree (dCtr_ok qnone_ok) (HP0_eq i d p k n s a (strC v) kx nx sx (Tm.cellsL ax) va c q (strC w) 0 false false false false []) ?_
  unfold HP0
  rw [ok_br]
  refine ⟨fun _ => ?_, fun h => ?_⟩
  · cases p with
    | true =>
      rw [ok_true]
      rw [Bool.true_and] at hI
      simp only [ok_owe, ok_jmp, Int.toNat_natCast]
      exact ⟨⟨by omega, hx⟩, hVa, ⟨by omega, hx⟩, hDe, ⟨trivial, hq⟩, ⟨by omega, hx⟩, hVs, hvl, h7, ⟨allLen_cons.2 ⟨rfl, allLen_nil _⟩, by decide⟩, by omega, hI⟩
    | false =>
      rw [ok_false]
      rw [Bool.false_and] at hI
      simp only [ok_owe, ok_jmp, Int.toNat_natCast]
      exact ⟨⟨by omega, hx⟩, hDe, ⟨trivial, hq⟩, ⟨by omega, hx⟩, hVs, hvl, h7, ⟨allLen_cons.2 ⟨rfl, allLen_nil _⟩, by decide⟩, by omega, hI⟩
  · have := of_decide_eq_false h; omega
theorem step1 (k n : Int) (s : List UInt8) (a fl : List (List D)) (i : Nat) (d c q : Int) (p va : Bool) (v w : List (List UInt8)) (x : Tm) (h1 : i < a.length) (ha : a.length ≤ 1000000) (hx : a[i]? = some x.cells) (hVa : FnOK Tryz.prog 21 [.agg x.cells] (.bool va)) (hDe : FnOK Tryz.prog 22 [.agg x.cells] (.int .i64 c)) (hVs : FnOK Tryz.prog 23 [.agg x.cells] (.slice (strC w) []))
    (hq : (if c > d then c else d) = q) (hvw : v.length + w.length ≤ 1073741824) (hfl : fl.length + 1 ≤ 1073741824)
    (hI : At Tryz.prog 0 (cut sc5 0) (hdP (i + 1) q (p && va) (obP1 k n s a (strC (v ++ w)) (fl ++ [Go.Sx.n7.cells]))) (FinQ true 0 rs5 fun r _ => r = .bool true)) :
    At Tryz.prog 0 (cut sc5 0) (hdP i d p (obP1 k n s a (strC v) fl)) (FinQ true 0 rs5 fun r _ => r = .bool true) := by
  obtain ⟨kx, nx, sx, ax⟩ := x
  have h7 := numT_ok 7
  have hvl : allLen 1 (strC w) ∧ (strC v).length + (strC w).length ≤ 1073741824 := ⟨fun y hy => by
    unfold strC at hy
    obtain ⟨t, _, rfl⟩ := List.mem_map.1 hy
    rfl, by rw [strC_len, strC_len]; exact hvw⟩
  rw [strC_app] at hI
  refine At.tree (dCtr_ok qnone_ok) (HP1_eq i d p k n s a (strC v) fl kx nx sx (Tm.cellsL ax) va c q (strC w) 0 false false false false []) ?_
  unfold HP1
  rw [ok_br]
  refine ⟨fun _ => ?_, fun h => ?_⟩
  · cases p with
    | true =>
      rw [ok_true]
      rw [Bool.true_and] at hI
      simp only [ok_owe, ok_jmp, Int.toNat_natCast]
      exact ⟨⟨by omega, hx⟩, hVa, ⟨by omega, hx⟩, hDe, ⟨trivial, hq⟩, ⟨by omega, hx⟩, hVs, hvl, h7, ⟨allLen_cons.2 ⟨rfl, allLen_nil _⟩, hfl⟩, by omega, hI⟩
    | false =>
      rw [ok_false]
      rw [Bool.false_and] at hI
      simp only [ok_owe, ok_jmp, Int.toNat_natCast]
      exact ⟨⟨by omega, hx⟩, hDe, ⟨trivial, hq⟩, ⟨by omega, hx⟩, hVs, hvl, h7, ⟨allLen_cons.2 ⟨rfl, allLen_nil _⟩, hfl⟩, by omega, hI⟩
  · have := of_decide_eq_false h; omega
def obP (k n : Int) (s : List UInt8) (l : List Tm) : Nat → Obs
  | 0 => obP0 k n s (Tm.cellsL l) []
  | i + 1 => obP1 k n s (Tm.cellsL l) (strC (vL (l.take (i + 1)))) (Tm.cellsL (List.replicate (i + 1) Go.Sx.n7))
theorem n7_app (m : Nat) : Tm.cellsL (List.replicate (m + 1) Go.Sx.n7) = Tm.cellsL (List.replicate m Go.Sx.n7) ++ [Go.Sx.n7.cells] := by
  rw [cellsL_map, cellsL_map, List.replicate_succ', List.map_append]; rfl
theorem pt_at (k : Nat) (n : Int) (s : List UInt8) (l : List Tm) (hx : Tm.wf 281474976710656 (.mk k n s l)) (hl : l.length ≤ 1000) (hd : Tm.depthL l ≤ 1000) (hvs : (Tm.vsL l).length ≤ 1000) : ∀ (m i : Nat), l.length - i = m → i ≤ l.length →
    At Tryz.prog 0 (cut sc5 0) (hdP i (Tm.depthL (l.take i)) ((l.take i).all Tm.valid) (obP k n s l i)) (FinQ true 0 rs5 fun r _ => r = .bool true) := by
  have hw : Tm.wfL 281474976710656 l := by
    simp only [Tm.wf] at hx
    exact hx.2.2.2.2.2
  have hs : s.length ≤ 281474976710656 := by
    simp only [Tm.wf] at hx
    exact hx.2.2.2.1
  have hk : k ≤ 255 ∧ -9223372036854775808 ≤ n ∧ n ≤ 9223372036854775807 := by
    simp only [Tm.wf] at hx
    exact ⟨hx.1, hx.2.1, hx.2.2.1⟩
  intro m
  induction m with
  | zero =>
    intro i hm hi
    have hi : i = l.length := by omega
    subst hi
    rw [List.take_length]
    have hxv : (Tm.mk k n s l).vs.length ≤ 1001 := by
      have h1 : (Tm.v1 (.mk k n s l)).length ≤ 1 := by
        simp only [Tm.v1]
        split <;> simp
      simp only [Tm.vs, List.length_append]
      omega
    have hxd : (Tm.mk k n s l).depth ≤ 1000000000 := by simp only [Tm.depth]; omega
    have hFw : Tm.wf 281474976710656 (.mk k n s (List.replicate l.length Go.Sx.n7)) := by
      simp only [Tm.wf]
      refine ⟨hk.1, hk.2.1, hk.2.2, hs, by rw [List.length_replicate]; omega, wfL_all.2 fun t ht => ?_⟩
      rw [(List.mem_replicate.1 ht).2]
      simp [Go.Sx.n7, Tm.wf, Tm.wfL]
    have hFd : (Tm.mk k n s (List.replicate l.length Go.Sx.n7)).depth ≤ 1000000000 := by
      have := n7_depth l.length
      simp only [Tm.depth]; omega
    have hDt := dep_ok (.mk k n s l) hx hxd
    unfold DepP at hDt
    have hVt := valid_ok (.mk k n s l) hx hxd
    have hVf := valid_ok _ hFw hFd
    have hVu := value_ok (.mk k n s l) hx hxd
    have hG := ground_ok (.mk k n s l) hx
    have hV := vars_ok (.mk k n s l) hx (by omega)
    have hA := valid_parts k n s l
    have hB := value_gr (.mk k n s l)
    have hC := gr_V (.mk k n s l)
    have hvl := vL_len l
    have hVl := V_len (.mk k n s l)
    have hJ3 : (k : Int) = 3 → At Tryz.prog 0 (cut sc5 1) (hdQ (strC (Tm.V (.mk k n s l))) (strC (vL l ++ [s])) 0) (FinQ true 0 rs5 fun r _ => r = .bool true) := fun h3 =>
      hq_at (.mk k n s l) (vL l ++ [s]) (by simp; omega) (by omega) (fun t => by
        have := gathered (k := k) (n := n) (s := s) (t := t) (l := l)
        rw [if_pos (by omega)] at this
        exact this) _ 0 rfl (Nat.zero_le _)
    have hJ : (k : Int) ≠ 3 → At Tryz.prog 0 (cut sc5 1) (hdQ (strC (Tm.V (.mk k n s l))) (strC (vL l)) 0) (FinQ true 0 rs5 fun r _ => r = .bool true) := fun h3 =>
      hq_at (.mk k n s l) (vL l) (by omega) (by omega) (fun t => by
        have := gathered (k := k) (n := n) (s := s) (t := t) (l := l)
        rw [if_neg (by omega), List.append_nil] at this
        exact this) _ 0 rfl (Nat.zero_le _)
    have hcl : (l.length : Int) = ((Tm.cellsL l).length : Int) := by rw [cellsL_length]
    have hDt : FnOK Tryz.prog 22 [.agg (tC k n s (Tm.cellsL l))] (.int .i64 ((Tm.depthL l : Int) + 1)) := hDt
    have hob : obP k n s l l.length = if l.length = 0 then obP0 k n s (Tm.cellsL l) (strC (vL l)) else obP1 k n s (Tm.cellsL l) (strC (vL l)) (Tm.cellsL (List.replicate l.length Go.Sx.n7)) := by
      cases hll : l.length with
      | zero =>
        rw [List.length_eq_zero_iff.1 hll]; rfl
      | succ j =>
        rw [if_neg (by omega)]
        simp only [obP]
        rw [← hll, List.take_length]
    rw [hob]
    by_cases h0 : l.length = 0
    · rw [if_pos h0]
      rw [h0] at hVf hA
      exact exit0 k n s (Tm.cellsL l) [] _ _ _ _ _ _ _ _ _ hcl (by omega) hDt hVt hVf hVu hG hV hA hB hC (by omega) hJ3 hJ
    · rw [if_neg h0]
      exact exit1 k n s (Tm.cellsL l) _ _ _ _ _ _ _ _ _ _ hcl (by omega) hDt hVt hVf hVu hG hV hA hB hC (by omega) hJ3 hJ
  | succ m ih =>
    intro i hm hi
    have h1 : i < l.length := by omega
    have hxc : (Tm.cellsL l)[i]? = some l[i].cells := by rw [cellsL_map]; simp [h1]
    have hmem := List.getElem_mem h1
    have hI := ih (i + 1) (by omega) (by omega)
    have htk : l.take (i + 1) = l.take i ++ [l[i]] := List.take_succ_eq_append_getElem h1
    have hdi : (l[i]).depth ≤ 1000 := Nat.le_trans (depthL_mem0 hmem) hd
    have hwi := wfL_all.1 hw _ hmem
    have hVa := valid_ok l[i] hwi (by omega)
    have hDe := dep_ok l[i] hwi (by omega)
    unfold DepP at hDe
    have hvi := vsL_mem hmem
    have hVs := vars_ok l[i] hwi (by omega)
    have hVl := V_len l[i]
    have hvt : (vL (l.take i)).length ≤ 1000 := by
      have h2 : (vL (l.take i)).length ≤ (vL l).length := by
        have e : vL l = vL (l.take i) ++ vL (l.drop i) := by
          unfold vL
          rw [← List.flatten_append, ← List.map_append, List.take_append_drop]
        rw [e, List.length_append]; omega
      have := vL_len l
      omega
    have hq : (if ((l[i]).depth : Int) > (Tm.depthL (l.take i) : Int) then ((l[i]).depth : Int) else (Tm.depthL (l.take i) : Int)) = (Tm.depthL (l.take (i + 1)) : Int) := by
      rw [htk, depthL_app]
      rcases Nat.le_total (Tm.depthL (l.take i)) (l[i]).depth with h | h
      · rw [show Nat.max (Tm.depthL (l.take i)) (l[i]).depth = (l[i]).depth from Nat.max_eq_right h]
        split <;> omega
      · rw [show Nat.max (Tm.depthL (l.take i)) (l[i]).depth = Tm.depthL (l.take i) from Nat.max_eq_left h]
        split <;> omega
    have hp : (l.take (i + 1)).all Tm.valid = ((l.take i).all Tm.valid && (l[i]).valid) := by rw [htk, List.all_append, List.all_cons, List.all_nil, Bool.and_true]
    have hv' : vL (l.take (i + 1)) = vL (l.take i) ++ (l[i]).V := by rw [htk, vL_app]
    rw [hp] at hI
    have hlen : (Tm.cellsL l).length ≤ 1000000 := by rw [cellsL_length]; omega
    have h1' : i < (Tm.cellsL l).length := by rw [cellsL_length]; exact h1
    cases i with
    | zero =>
      refine step0 k n s (Tm.cellsL l) [] 0 _ _ _ _ _ [] _ l[0] h1' hlen hxc hVa hDe hVs hq (by simp; omega) (by simp) ?_
      simp only [obP] at hI
      rw [hv'] at hI
      exact hI
    | succ j =>
      simp only [obP]
      refine step1 k n s (Tm.cellsL l) _ (j + 1) _ _ _ _ _ _ _ l[j + 1] h1' hlen hxc hVa hDe hVs hq (by omega) (by rw [cellsL_length, List.length_replicate]; omega) ?_
      simp only [obP] at hI
      rw [hv', n7_app] at hI
      exact hI
/-- TermParts RETURNS true. -/
theorem parts_true (x : Tm) (hx : x.wf 281474976710656) : FnOK Tryz.prog 5 [.agg x.cells] (.bool true) := by
  have hsm := small_ok [x] (by simp) ⟨hx, trivial⟩
  obtain ⟨k, n, s, l⟩ := x
  have key : Tm.szL [.mk k n s l] 300 0 ≤ 300 → At Tryz.prog 0 (cut sc5 0) (hdP 0 0 true (obP k n s l 0)) (FinQ true 0 rs5 fun r _ => r = .bool true) := fun h => by
    have h1 := szL_few (N := 300) [.mk k n s l] 300 0 (by omega) h
    have h2 := szL_depth [.mk k n s l] 300 0 h
    have h3 := szL_vs [.mk k n s l] 300 0 h
    simp only [Tm.fewL, Tm.few] at h1
    simp only [Tm.depthL, Tm.depth] at h2
    simp only [Tm.vsL, Tm.vs, List.append_nil, List.length_append] at h3
    have h4 : Tm.depthL l + 1 ≤ Nat.max (Tm.depthL l + 1) 0 := Nat.le_max_left ..
    exact pt_at k n s l hx (by omega) (by omega) (by omega) _ 0 rfl (Nat.zero_le _)
  simp only [Tm.cellsL] at hsm
  refine FnOK.tree hdraw fp5 (dCtr_ok qnone_ok) (PTP_eq k n s (Tm.cellsL l) (decide (Tm.szL [.mk k n s l] 300 0 ≤ 300))) ?_
  unfold PTP
  rw [ok_owe, ok_owe, ok_br, ok_ret, ok_jmp]
  exact ⟨awake_ok, hsm, fun _ => rfl, fun h => key (by simpa using h)⟩
end Go.Proofs.YtbcgpkgdbepfbaaGreatDoor
