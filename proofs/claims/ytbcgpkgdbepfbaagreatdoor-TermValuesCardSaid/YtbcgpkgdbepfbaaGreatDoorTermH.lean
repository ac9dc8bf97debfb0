/- TermValues: it returns true. -/
import Derived.Test.YtbcgpkgdbepfbaaGreatDoorTermG
set_option linter.unusedSectionVars false
set_option linter.unusedVariables false
set_option linter.unusedSimpArgs false
set_option linter.deprecated false
set_option maxRecDepth 100000
namespace Go.Proofs.YtbcgpkgdbepfbaaGreatDoor
open Go.Sx
def hdTV (m : Int) (s t : List UInt8) (A X M Y : List (List D)) (u i : Int) : St := ⟨[(4, .slice A X), (5, .slice M Y), (13, .ptr 0 0), (15, .ptr 1 0), (18, .ptr 2 0), (19, .ptr 3 0), (20, .int .i64 u), (21, .int .i64 i)],
  [(0, .cells [.int .u8 1, .int .i64 m, .str [], .slice [] []]), (1, .cells [.int .u8 2, .int .i64 0, .str s, .slice [] []]), (2, .cells [.int .u8 4, .int .i64 0, .str s, .slice A X]), (3, .cells [.int .u8 4, .int .i64 0, .str t, .slice M Y])]⟩
noncomputable def PTV2 (m : Int) (s : List UInt8) (t : List UInt8) (A : List (List D)) (X : List (List D)) (M : List (List D)) (Y : List (List D)) (u : Int) (i : Int) (kx : Int) (nx : Int) (sx : List UInt8) (ax : List (List D)) (ky : Int) (ny : Int) (sy : List UInt8) (ay : List (List D)) (c : Int) (f : Int) : Go.Sx.Tr := brT (decide (i < (↑(List.length A) : Int))) (brT (decide (u = (0 : Int))) (brT (decide (i < (↑(List.length M) : Int))) (Tr.owe ((0 : Int) ≤ i ∧ A[Int.toNat i]? = some [D.int IntKind.u8 kx, D.int IntKind.i64 nx, D.str sx, D.slice ax []]) (Tr.owe ((0 : Int) ≤ i ∧ M[Int.toNat i]? = some [D.int IntKind.u8 ky, D.int IntKind.i64 ny, D.str sy, D.slice ay []]) (Tr.owe (FnOK Tryz.prog (17 : FuncId) [D.agg [D.int IntKind.u8 kx, D.int IntKind.i64 nx, D.str sx, D.slice ax []], D.agg [D.int IntKind.u8 ky, D.int IntKind.i64 ny, D.str sy, D.slice ay []]] (D.int IntKind.i64 c)) (Tr.owe ((-9223372036854775808 : Int) ≤ i + (1 : Int) ∧ i + (1 : Int) ≤ (9223372036854775807 : Int)) (Tr.jmp (cut sc4 (0 : Nat)) { tm := [((4 : Nat), D.slice A X), ((5 : Nat), D.slice M Y), ((13 : Nat), D.ptr (0 : Nat) (0 : Nat)), ((15 : Nat), D.ptr (1 : Nat) (0 : Nat)), ((18 : Nat), D.ptr (2 : Nat) (0 : Nat)), ((19 : Nat), D.ptr (3 : Nat) (0 : Nat)), ((20 : Nat), D.int IntKind.i64 c), ((21 : Nat), D.int IntKind.i64 (i + (1 : Int)))], ob := [((0 : Nat), Ob.cells [D.int IntKind.u8 (1 : Int), D.int IntKind.i64 m, D.str [], D.slice [] []]), ((1 : Nat), Ob.cells [D.int IntKind.u8 (2 : Int), D.int IntKind.i64 (0 : Int), D.str s, D.slice [] []]), ((2 : Nat), Ob.cells [D.int IntKind.u8 (4 : Int), D.int IntKind.i64 (0 : Int), D.str s, D.slice A X]), ((3 : Nat), Ob.cells [D.int IntKind.u8 (4 : Int), D.int IntKind.i64 (0 : Int), D.str t, D.slice M Y])] }))))) (Tr.owe (FnOK Tryz.prog (17 : FuncId) [D.agg [D.int IntKind.u8 (4 : Int), D.int IntKind.i64 (0 : Int), D.str s, D.slice A X], D.agg [D.int IntKind.u8 (4 : Int), D.int IntKind.i64 (0 : Int), D.str t, D.slice M Y]] (D.int IntKind.i64 f)) (brT (decide (f = u)) (Tr.owe (FnOK Tryz.prog (18 : FuncId) [D.slice [[D.int IntKind.u8 (1 : Int), D.int IntKind.i64 m, D.str [], D.slice [] []], [D.int IntKind.u8 (2 : Int), D.int IntKind.i64 (0 : Int), D.str s, D.slice [] []], [D.int IntKind.u8 (4 : Int), D.int IntKind.i64 (0 : Int), D.str s, D.slice A X]] []] (D.bool true)) (Tr.ret (D.bool true) [])) (Tr.ret (D.bool false) [])))) (Tr.owe (FnOK Tryz.prog (17 : FuncId) [D.agg [D.int IntKind.u8 (4 : Int), D.int IntKind.i64 (0 : Int), D.str s, D.slice A X], D.agg [D.int IntKind.u8 (4 : Int), D.int IntKind.i64 (0 : Int), D.str t, D.slice M Y]] (D.int IntKind.i64 f)) (brT (decide (f = u)) (Tr.owe (FnOK Tryz.prog (18 : FuncId) [D.slice [[D.int IntKind.u8 (1 : Int), D.int IntKind.i64 m, D.str [], D.slice [] []], [D.int IntKind.u8 (2 : Int), D.int IntKind.i64 (0 : Int), D.str s, D.slice [] []], [D.int IntKind.u8 (4 : Int), D.int IntKind.i64 (0 : Int), D.str s, D.slice A X]] []] (D.bool true)) (Tr.ret (D.bool true) [])) (Tr.ret (D.bool false) [])))) (Tr.owe (FnOK Tryz.prog (17 : FuncId) [D.agg [D.int IntKind.u8 (4 : Int), D.int IntKind.i64 (0 : Int), D.str s, D.slice A X], D.agg [D.int IntKind.u8 (4 : Int), D.int IntKind.i64 (0 : Int), D.str t, D.slice M Y]] (D.int IntKind.i64 f)) (brT (decide (f = u)) (Tr.owe (FnOK Tryz.prog (18 : FuncId) [D.slice [[D.int IntKind.u8 (1 : Int), D.int IntKind.i64 m, D.str [], D.slice [] []], [D.int IntKind.u8 (2 : Int), D.int IntKind.i64 (0 : Int), D.str s, D.slice [] []], [D.int IntKind.u8 (4 : Int), D.int IntKind.i64 (0 : Int), D.str s, D.slice A X]] []] (D.bool true)) (Tr.ret (D.bool true) [])) (Tr.ret (D.bool false) [])))
theorem PTV2_eq (m : Int) (s : List UInt8) (t : List UInt8) (A : List (List D)) (X : List (List D)) (M : List (List D)) (Y : List (List D)) (u : Int) (i : Int) (kx : Int) (nx : Int) (sx : List UInt8) (ax : List (List D)) (ky : Int) (ny : Int) (sy : List UInt8) (ay : List (List D)) (c : Int) (f : Int) : goT Tryz.prog (sCtrE [((128 : Nat), D.int IntKind.i64 c), ((131 : Nat), D.int IntKind.i64 f), ((139 : Nat), D.bool true)] [((122 : Nat), [D.int IntKind.u8 kx, D.int IntKind.i64 nx, D.str sx, D.slice ax []]), ((126 : Nat), [D.int IntKind.u8 ky, D.int IntKind.i64 ny, D.str sy, D.slice ay []])]) (0 : Nat) (finF true (0 : Nat) rs4) (2000 : Nat) (cut sc4 (0 : Nat)) (hdTV m s t A X M Y u i) = PTV2 m s t A X M Y u i kx nx sx ax ky ny sy ay c f := by kernel_rfl
theorem fst0_one (u : Int) : fst0 [u] = u := by
  unfold fst0
  split
  · rfl
  · rename_i h
    have : u = 0 := Classical.not_not.1 h
    rw [this]; rfl
theorem tv_at (m : Int) (s t : List UInt8) (l q : List Tm) (X Y : List (List D)) (F : Int) (hl : l.length ≤ 281474976710656) (hw : Tm.wfL 281474976710656 l) (hw' : Tm.wfL 281474976710656 q)
    (hF : FnOK Tryz.prog 17 [.agg [.int .u8 4, .int .i64 0, .str s, .slice (Tm.cellsL l) X], .agg [.int .u8 4, .int .i64 0, .str t, .slice (Tm.cellsL q) Y]] (.int .i64 F))
    (hR : FnOK Tryz.prog 18 [.slice [[.int .u8 1, .int .i64 m, .str [], .slice [] []], [.int .u8 2, .int .i64 0, .str s, .slice [] []], [.int .u8 4, .int .i64 0, .str s, .slice (Tm.cellsL l) X]] []] (.bool true)) :
    ∀ (mm i : Nat) (u : Int), l.length - i = mm → i ≤ l.length → fst0 (u :: List.zipWith Tm.cmp (l.drop i) (q.drop i)) = F →
    At Tryz.prog 0 (cut sc4 0) (hdTV m s t (Tm.cellsL l) X (Tm.cellsL q) Y u i) (FinQ true 0 rs4 fun r _ => r = .bool true) := by
  intro mm
  induction mm with
  | zero =>
    intro i u hm hi hu
    rw [List.drop_eq_nil_of_le (show l.length ≤ i by omega), List.zipWith_nil_left, fst0_one] at hu
    subst hu
    refine At.tree (sCtrE_ok _ _) (PTV2_eq m s t (Tm.cellsL l) X (Tm.cellsL q) Y u i 0 0 [] [] 0 0 [] [] 0 u) ?_
    unfold PTV2
    simp only [ok_br, ok_owe, ok_ret, ok_jmp, decide_eq_true_eq, decide_eq_false_iff_not, Int.toNat_natCast, true_and, and_true, Bool.not_eq_true', Bool.not_eq_false', List.drop_zero, List.take_length, D.bool.injEq, D.int.injEq, D.str.injEq, true_implies, Int.le_refl, cellsL_length]
    exact ⟨fun h => by omega, fun _ => ⟨hF, hR, fun h => absurd trivial h⟩⟩
  | succ mm ih =>
    intro i u hm hi hu
    have h1 : i < l.length := by omega
    by_cases hz : u = 0
    · by_cases h2 : i < q.length
      · have hx := cellsL_get h1
        have hy := cellsL_get h2
        have hC := cmp_ok l[i] q[i] (wf_get hw (List.getElem_mem h1)) (wf_get hw' (List.getElem_mem h2))
        rw [drop_cons h1, drop_cons h2, List.zipWith_cons_cons] at hu
        have hu2 : fst0 (Tm.cmp l[i] q[i] :: List.zipWith Tm.cmp (l.drop (i + 1)) (q.drop (i + 1))) = F := by
          rw [hz] at hu
          simpa [fst0] using hu
        have hI := ih (i + 1) _ (by omega) (by omega) hu2
        generalize Tm.cmp l[i] q[i] = c at hC hI
        generalize l[i] = x at hx hC
        generalize q[i] = y at hy hC
        obtain ⟨kx, nx, sx, ax⟩ := x
        obtain ⟨ky, ny, sy, ay⟩ := y
        refine At.tree (sCtrE_ok _ _) (PTV2_eq m s t (Tm.cellsL l) X (Tm.cellsL q) Y u i kx nx sx (Tm.cellsL ax) ky ny sy (Tm.cellsL ay) c 0) ?_
        unfold PTV2
        simp only [ok_br, ok_owe, ok_ret, ok_jmp, decide_eq_true_eq, decide_eq_false_iff_not, Int.toNat_natCast, true_and, and_true, Bool.not_eq_true', Bool.not_eq_false', List.drop_zero, List.take_length, D.bool.injEq, D.int.injEq, D.str.injEq, true_implies, Int.le_refl, cellsL_length]
        exact ⟨fun _ => ⟨fun _ => ⟨fun _ => ⟨⟨by omega, hx⟩, ⟨by omega, hy⟩, hC, by omega, hI⟩, fun h => by omega⟩, fun h => absurd hz h⟩, fun h => by omega⟩
      · rw [List.drop_eq_nil_of_le (show q.length ≤ i by omega), List.zipWith_nil_right, fst0_one] at hu
        subst hu
        refine At.tree (sCtrE_ok _ _) (PTV2_eq m s t (Tm.cellsL l) X (Tm.cellsL q) Y u i 0 0 [] [] 0 0 [] [] 0 u) ?_
        unfold PTV2
        simp only [ok_br, ok_owe, ok_ret, ok_jmp, decide_eq_true_eq, decide_eq_false_iff_not, Int.toNat_natCast, true_and, and_true, Bool.not_eq_true', Bool.not_eq_false', List.drop_zero, List.take_length, D.bool.injEq, D.int.injEq, D.str.injEq, true_implies, Int.le_refl, cellsL_length]
        exact ⟨fun _ => ⟨fun _ => ⟨fun h => by omega, fun _ => ⟨hF, hR, fun h => absurd trivial h⟩⟩, fun h => absurd hz h⟩, fun h => by omega⟩
    · have hu2 : u = F := by
        simp only [fst0] at hu
        rw [if_pos hz] at hu
        exact hu
      subst hu2
      refine At.tree (sCtrE_ok _ _) (PTV2_eq m s t (Tm.cellsL l) X (Tm.cellsL q) Y u i 0 0 [] [] 0 0 [] [] 0 u) ?_
      unfold PTV2
      simp only [ok_br, ok_owe, ok_ret, ok_jmp, decide_eq_true_eq, decide_eq_false_iff_not, Int.toNat_natCast, true_and, and_true, Bool.not_eq_true', Bool.not_eq_false', List.drop_zero, List.take_length, D.bool.injEq, D.int.injEq, D.str.injEq, true_implies, Int.le_refl, cellsL_length]
      exact ⟨fun _ => ⟨fun h => absurd h hz, fun _ => ⟨hF, hR, fun h => absurd trivial h⟩⟩, fun h => by omega⟩
theorem cellsL_take (l : List Tm) (n : Nat) : (Tm.cellsL l).take n = Tm.cellsL (l.take n) := by rw [cellsL_map, cellsL_map, List.map_take]
theorem cellsL_allLen (l : List Tm) : allLen 4 (Tm.cellsL l) := fun q hq => by
  rw [cellsL_map] at hq
  obtain ⟨t, _, rfl⟩ := List.mem_map.1 hq
  exact cells_length t
theorem wfL_take {B : Nat} {l : List Tm} (h : Tm.wfL B l) (n : Nat) : Tm.wfL B (l.take n) := wfL_all.2 fun t ht => wfL_all.1 h t (List.mem_of_mem_take ht)
/-- TermValues RETURNS true. -/
theorem values_ok (m n : Int) (s t : List UInt8) (l0 q0 : List Tm) (hm : -9223372036854775808 ≤ m ∧ m ≤ 9223372036854775807) (hn : -9223372036854775808 ≤ n ∧ n ≤ 9223372036854775807) (hs : s.length ≤ 281474976710656) (ht : t.length ≤ 281474976710656)
    (hl0 : l0.length ≤ 281474976710656) (hq0 : q0.length ≤ 281474976710656) (hw0 : Tm.wfL 281474976710656 l0) (hw0' : Tm.wfL 281474976710656 q0) :
    FnOK Tryz.prog 4 [.int .i64 m, .int .i64 n, .str s, .str t, .slice (Tm.cellsL l0) [], .slice (Tm.cellsL q0) []] (.bool true) := by
  have hsm := small_ok l0 hl0 hw0
  have hsn := small_ok q0 hq0 hw0'
  generalize decide (Tm.szL l0 300 0 ≤ 300) = sm at hsm
  generalize decide (Tm.szL q0 300 0 ≤ 300) = sn at hsn
  -- the lists
  have hp : ∃ p : Nat, (if (4 : Int) < (l0.length : Int) then (4 : Int) else (l0.length : Int)) = p ∧ p ≤ l0.length ∧ p ≤ 4 := by
    split
    · exact ⟨4, rfl, by omega, by omega⟩
    · exact ⟨l0.length, rfl, by omega, by omega⟩
  have hq : ∃ p : Nat, (if (4 : Int) < (q0.length : Int) then (4 : Int) else (q0.length : Int)) = p ∧ p ≤ q0.length ∧ p ≤ 4 := by
    split
    · exact ⟨4, rfl, by omega, by omega⟩
    · exact ⟨q0.length, rfl, by omega, by omega⟩
  obtain ⟨p, hp1, hp2, hp3⟩ := hp
  obtain ⟨q', hq1, hq2, hq3⟩ := hq
  have hw := wfL_take hw0 p
  have hw' := wfL_take hw0' q'
  have hll : (l0.take p).length = p := by simp; omega
  have hql : (q0.take q').length = q' := by simp; omega
  have hA : (Tm.cellsL l0).take p = Tm.cellsL (l0.take p) := cellsL_take l0 p
  have hM : (Tm.cellsL q0).take q' = Tm.cellsL (q0.take q') := cellsL_take q0 q'
  have hdA := cellsL_allLen l0
  have hdM := cellsL_allLen q0
  have hLA := cellsL_length l0
  have hLM := cellsL_length q0
  generalize hX : (Tm.cellsL l0).drop p = X
  generalize hY : (Tm.cellsL q0).drop q' = Y
  generalize l0.take p = l at *
  generalize q0.take q' = q at *
  -- the terms
  have wa : (Tm.mk 1 m [] []).wf 281474976710656 := ⟨by omega, hm.1, hm.2, by simp, by simp, trivial⟩
  have wb : (Tm.mk 1 n [] []).wf 281474976710656 := ⟨by omega, hn.1, hn.2, by simp, by simp, trivial⟩
  have wc : (Tm.mk 2 0 s []).wf 281474976710656 := ⟨by omega, by omega, by omega, hs, by simp, trivial⟩
  have wd : (Tm.mk 2 0 t []).wf 281474976710656 := ⟨by omega, by omega, by omega, ht, by simp, trivial⟩
  have wf : (Tm.mk 4 0 s l).wf 281474976710656 := ⟨by omega, by omega, by omega, hs, by omega, hw⟩
  have wg : (Tm.mk 4 0 t q).wf 281474976710656 := ⟨by omega, by omega, by omega, ht, by omega, hw'⟩
  have hc1 := cmp_ok _ _ wa wb
  have hc2 := cmp_ok _ _ wc wd
  have hF := cmpX_ok _ _ X Y wf wg
  have e1 : (Tm.mk 1 m [] []).cmp (.mk 1 n [] []) = ncmp m n := by
    simp only [Tm.cmp, fst0, Tm.cmpL]
    have h0 : ncmp (rkI ((1 : Nat) : Int)) (rkI ((1 : Nat) : Int)) = 0 := ncmp_eq.2 rfl
    by_cases h : ncmp m n = 0 <;> simp [h0, h, Lib.compareBytes, ncmp_eq.2]
  have e2 : (Tm.mk 2 0 s []).cmp (.mk 2 0 t []) = Lib.compareBytes s t := by
    simp only [Tm.cmp, fst0, Tm.cmpL]
    have h0 : ncmp (rkI ((2 : Nat) : Int)) (rkI ((2 : Nat) : Int)) = 0 := ncmp_eq.2 rfl
    have h1 : ncmp 0 0 = 0 := ncmp_eq.2 rfl
    by_cases h : Lib.compareBytes s t = 0 <;> simp [h0, h1, h, ncmp_eq.2]
  have hac : (Tm.mk 1 m [] []).cmp (.mk 2 0 s []) = -1 := rfl
  have hcf : (Tm.mk 2 0 s []).cmp (.mk 4 0 s l) = -1 := rfl
  have hR3 := rises_ok [(.mk 1 m [] [], []), (.mk 2 0 s [], []), (.mk 4 0 s l, X)] (by simp) (by simp [wa, wc, wf]) (by
    intro i h
    match i, h with
    | 0, _ => exact hac
    | 1, _ => exact hcf
    | i + 2, h => simp at h; omega)
  have hR2 := rises_ok [(.mk 1 m [] [], []), (.mk 2 0 s [], [])] (by simp) (by simp [wa, wc]) (by
    intro i h
    match i, h with
    | 0, _ => exact hac
    | i + 1, h => simp at h; omega)
  have hB := bcmp_less s t
  have hV : fst0 ((if ncmp l.length q.length = 0 then Lib.compareBytes s t else ncmp l.length q.length) :: List.zipWith Tm.cmp l q) = (Tm.mk 4 0 s l).cmp (.mk 4 0 t q) := by
    have h0 : ncmp (rkI 4) (rkI 4) = 0 := ncmp_eq.2 rfl
    have h1 : ncmp 0 0 = 0 := ncmp_eq.2 rfl
    by_cases h : ncmp l.length q.length = 0
    · have hlq : l.length = q.length := by have := ncmp_eq.1 h; omega
      have hz := fst0_zip (l := l) (q := q) (t := []) hlq
      rw [List.append_nil] at hz
      rw [if_pos h]
      simp only [Tm.cmp, fst0, hz]
      simp [h0, h1, h]
    · rw [if_neg h]
      simp only [Tm.cmp, fst0]
      simp [h0, h]
  rw [e1] at hc1
  rw [e2] at hc2
  have hAt := fun u hu => tv_at m s t l q X Y _ (by omega) hw hw' hF hR3 _ 0 u rfl (Nat.zero_le _) hu
  have hsg := sign_ok ((l.length : Int) - q.length)
  have hsg2 : ncmp ((l.length : Int) - q.length) 0 = ncmp l.length q.length := by
    unfold ncmp
    repeat' split
    all_goals omega
  rw [hsg2] at hsg
  have hnum := numT_ok m
  have hnum2 := numT_ok n
  have hsy := symT_ok s
  have hsy2 := symT_ok t
  have hfu := funT_ok s (Tm.cellsL l) X
  have hfu2 := funT_ok t (Tm.cellsL q) Y
  have hkey : (!(decide (ncmp m n = 0) == decide (m = n))) = false := by
    have : (ncmp m n = 0) = (m = n) := propext ncmp_eq
    simp [this]
  have hlt : m < n → ncmp m n = -1 := fun h => by unfold ncmp; rw [if_pos h]
  have hcases : (Op.bytesLess s t = true ∧ (!(Op.bytesLess s t || decide (s = t))) = false ∧ Lib.compareBytes s t = -1) ∨ (Op.bytesLess s t = false ∧ (!(Op.bytesLess s t || decide (s = t))) = true ∧ Lib.compareBytes s t = 1) ∨
      (Op.bytesLess s t = false ∧ (!(Op.bytesLess s t || decide (s = t))) = false ∧ Lib.compareBytes s t = 0) := by
    rw [hB]
    cases h1 : Op.bytesLess s t
    · cases h2 : (!(false || decide (s = t))) <;> simp
    · simp
  generalize ncmp l.length q.length = w at *
  generalize Lib.compareBytes s t = bn at *
  generalize ncmp m n = c1 at *
  refine FnOK.tree hdraw fp4 (sCtrE_ok _ _) (PTV_eq m n s t (Tm.cellsL l0) (Tm.cellsL q0) sm sn c1 bn w p q' (Tm.cellsL l) X (Tm.cellsL q) Y) ?_
  unfold PTV
  simp only [if_false, Bool.false_eq_true, List.append_nil, hLA, hLM, hp1, hq1, cellsL_length, Int.toNat_natCast, hA, hM, hX, hY, List.drop_zero, hkey, ok_false]
  have w0 := fun h : w = 0 => hAt bn (by rw [if_pos h] at hV; exact hV)
  have w1 := fun h : ¬ w = 0 => hAt w (by rw [if_neg h] at hV; exact hV)
  rcases hcases with ⟨hl, hg, rfl⟩ | ⟨hl, hg, rfl⟩ | ⟨hl, hg, rfl⟩
  · simp only [hl, Bool.true_or, Bool.not_true, ok_true, ok_false]
    simp only [ok_br, ok_owe, ok_ret, ok_jmp, decide_eq_true_eq, decide_eq_false_iff_not, Int.toNat_natCast, true_and, and_true, Bool.not_eq_true', Bool.not_eq_false', List.drop_zero, List.take_length, D.bool.injEq, D.int.injEq, D.str.injEq, true_implies, Int.le_refl]
    exact ⟨awake_ok, hsm, fun _ => trivial, fun _ => ⟨hsn, fun _ => trivial, fun _ => ⟨⟨hdA, by omega, by omega⟩, ⟨hdM, by omega, by omega⟩, hnum, hnum2, hsy, hsy2, hc1, fun h => ⟨hc1, fun h2 => absurd (hlt h) h2, fun _ => ⟨hc2, fun h => absurd trivial h, hR2, hfu, hfu2, by omega, hsg, w0, w1⟩⟩, fun _ => ⟨hc2, fun h => absurd trivial h, hR2, hfu, hfu2, by omega, hsg, w0, w1⟩⟩⟩⟩
  · have hg' : (!decide (s = t)) = true := by simpa [hl] using hg
    simp only [hl, Bool.false_or, hg', ok_true, ok_false]
    simp only [ok_br, ok_owe, ok_ret, ok_jmp, decide_eq_true_eq, decide_eq_false_iff_not, Int.toNat_natCast, true_and, and_true, Bool.not_eq_true', Bool.not_eq_false', List.drop_zero, List.take_length, D.bool.injEq, D.int.injEq, D.str.injEq, true_implies, Int.le_refl]
    exact ⟨awake_ok, hsm, fun _ => trivial, fun _ => ⟨hsn, fun _ => trivial, fun _ => ⟨⟨hdA, by omega, by omega⟩, ⟨hdM, by omega, by omega⟩, hnum, hnum2, hsy, hsy2, hc1, fun h => ⟨hc1, fun h2 => absurd (hlt h) h2, fun _ => ⟨hc2, fun h => absurd trivial h, hR2, hfu, hfu2, by omega, hsg, w0, w1⟩⟩, fun _ => ⟨hc2, fun h => absurd trivial h, hR2, hfu, hfu2, by omega, hsg, w0, w1⟩⟩⟩⟩
  · have hg' : (!decide (s = t)) = false := by simpa [hl] using hg
    simp only [hl, Bool.false_or, hg', ok_true, ok_false]
    simp only [ok_br, ok_owe, ok_ret, ok_jmp, decide_eq_true_eq, decide_eq_false_iff_not, Int.toNat_natCast, true_and, and_true, Bool.not_eq_true', Bool.not_eq_false', List.drop_zero, List.take_length, D.bool.injEq, D.int.injEq, D.str.injEq, true_implies, Int.le_refl]
    exact ⟨awake_ok, hsm, fun _ => trivial, fun _ => ⟨hsn, fun _ => trivial, fun _ => ⟨⟨hdA, by omega, by omega⟩, ⟨hdM, by omega, by omega⟩, hnum, hnum2, hsy, hsy2, hc1, fun h => ⟨hc1, fun h2 => absurd (hlt h) h2, fun _ => ⟨hc2, fun h => absurd trivial h, hR2, hfu, hfu2, by omega, hsg, w0, w1⟩⟩, fun _ => ⟨hc2, fun h => absurd trivial h, hR2, hfu, hfu2, by omega, hsg, w0, w1⟩⟩⟩⟩
end Go.Proofs.YtbcgpkgdbepfbaaGreatDoor
