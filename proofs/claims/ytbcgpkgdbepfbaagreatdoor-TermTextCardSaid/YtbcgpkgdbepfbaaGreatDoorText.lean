/- The text of a term. -/
import Derived.Test.YtbcgpkgdbepfbaaGreatDoorValid
import Derived.Test.YtbcgpkgdbepfbaaGreatDoorSx7
set_option linter.unusedSectionVars false
set_option linter.unusedVariables false
set_option linter.unusedSimpArgs false
set_option linter.deprecated false
set_option maxRecDepth 100000
namespace Go.Proofs.YtbcgpkgdbepfbaaGreatDoor
open Go.Sx
noncomputable def PBi (s : List UInt8) : Go.Sx.Tr := brT (decide (s = [(43 : UInt8)])) (Tr.ret (D.int IntKind.i64 (1 : Int)) []) (brT (decide (s = [(45 : UInt8)])) (Tr.ret (D.int IntKind.i64 (1 : Int)) []) (Tr.ret (D.int IntKind.i64 (2 : Int)) []))
theorem PBi_eq (s : List UInt8) : goT Tryz.prog (dCtr []) (0 : Nat) (finF true (0 : Nat) rs123) (2000 : Nat) [Fr.sc sc123] { tm := envOf (0 : Nat) [D.str s], ob := [] } = PBi s := by kernel_rfl
noncomputable def PCl (k : Int) (n : Int) (s : List UInt8) (a : List (List D)) (kx : Int) (nx : Int) (sx : List UInt8) (ax : List (List D)) (r : Bool) (un : Bool) (b1 : Int) (b2 : Int) : Go.Sx.Tr := brT (decide (k = (5 : Int))) (Tr.owe (FnOK Tryz.prog (71 : FuncId) [D.agg [D.int IntKind.u8 k, D.int IntKind.i64 n, D.str s, D.slice a []], D.int IntKind.i64 (1 : Int), D.int IntKind.i64 (1 : Int)] (D.bool un)) (brT (decide (kx = (6 : Int))) (Tr.ret (D.bool true) []) (brT (decide (kx = (1 : Int))) (Tr.ret (D.bool un) []) (brT (decide (kx = (5 : Int))) (brT (!decide (k = (5 : Int))) (Tr.ret (D.bool false) []) (brT (decide ((↑(List.length ax) : Int) = (1 : Int))) (Tr.ret (D.bool false) []) (Tr.owe (FnOK Tryz.prog (123 : FuncId) [D.str s] (D.int IntKind.i64 b1)) (Tr.owe (FnOK Tryz.prog (123 : FuncId) [D.str sx] (D.int IntKind.i64 b2)) (brT un (Tr.ret (D.bool true) []) (brT (decide (b2 < b1)) (Tr.ret (D.bool true) []) (brT (decide (b1 = b2)) (Tr.ret (D.bool r) []) (Tr.ret (D.bool false) [])))))))) (Tr.ret (D.bool false) []))))) (brT (decide (kx = (6 : Int))) (Tr.ret (D.bool true) []) (brT (decide (kx = (1 : Int))) (Tr.ret (D.bool false) []) (brT (decide (kx = (5 : Int))) (brT (!decide (k = (5 : Int))) (Tr.ret (D.bool false) []) (brT (decide ((↑(List.length ax) : Int) = (1 : Int))) (Tr.ret (D.bool false) []) (Tr.owe (FnOK Tryz.prog (123 : FuncId) [D.str s] (D.int IntKind.i64 b1)) (Tr.owe (FnOK Tryz.prog (123 : FuncId) [D.str sx] (D.int IntKind.i64 b2)) (brT (decide (b2 < b1)) (Tr.ret (D.bool true) []) (brT (decide (b1 = b2)) (Tr.ret (D.bool r) []) (Tr.ret (D.bool false) []))))))) (Tr.ret (D.bool false) []))))
theorem PCl_eq (k : Int) (n : Int) (s : List UInt8) (a : List (List D)) (kx : Int) (nx : Int) (sx : List UInt8) (ax : List (List D)) (r : Bool) (un : Bool) (b1 : Int) (b2 : Int) : goT Tryz.prog (dCtr [((16 : Nat), D.bool un), ((40 : Nat), D.int IntKind.i64 b1), ((43 : Nat), D.int IntKind.i64 b2)]) (0 : Nat) (finF true (0 : Nat) rs109) (2000 : Nat) [Fr.sc sc109] { tm := envOf (0 : Nat) [D.agg (tC k n s a), D.agg (tC kx nx sx ax), D.bool r], ob := [] } = PCl k n s a kx nx sx ax r un b1 b2 := by kernel_rfl
noncomputable def POpd (k : Int) (n : Int) (s : List UInt8) (a : List (List D)) (i : Int) (kx : Int) (nx : Int) (sx : List UInt8) (ax : List (List D)) (t : List UInt8) (c : Bool) : Go.Sx.Tr := Tr.owe ((0 : Int) ≤ i ∧ a[Int.toNat i]? = some [D.int IntKind.u8 kx, D.int IntKind.i64 nx, D.str sx, D.slice ax []]) (Tr.owe (FnOK Tryz.prog (62 : FuncId) [D.agg [D.int IntKind.u8 kx, D.int IntKind.i64 nx, D.str sx, D.slice ax []]] (D.str t)) (Tr.owe ((0 : Int) ≤ i ∧ a[Int.toNat i]? = some [D.int IntKind.u8 kx, D.int IntKind.i64 nx, D.str sx, D.slice ax []]) (Tr.owe (FnOK Tryz.prog (109 : FuncId) [D.agg [D.int IntKind.u8 k, D.int IntKind.i64 n, D.str s, D.slice a []], D.agg [D.int IntKind.u8 kx, D.int IntKind.i64 nx, D.str sx, D.slice ax []], D.bool (decide ((0 : Int) < i))] (D.bool c)) (brT c (Tr.owe ((1 : Nat) + List.length t ≤ (4611686018427387904 : Nat)) (Tr.owe (List.length ([(40 : UInt8)] ++ t) + (1 : Nat) ≤ (4611686018427387904 : Nat)) (Tr.ret (D.str ([(40 : UInt8)] ++ t ++ [(41 : UInt8)])) []))) (Tr.ret (D.str t) [])))))
theorem POpd_eq (k : Int) (n : Int) (s : List UInt8) (a : List (List D)) (i : Int) (kx : Int) (nx : Int) (sx : List UInt8) (ax : List (List D)) (t : List UInt8) (c : Bool) : goT Tryz.prog (dCtr [((13 : Nat), D.str t), ((23 : Nat), D.bool c)] [((10 : Nat), tC kx nx sx ax), ((19 : Nat), tC kx nx sx ax)]) (0 : Nat) (finF true (0 : Nat) rs86) (2000 : Nat) [Fr.sc sc86] { tm := envOf (0 : Nat) [D.agg (tC k n s a), D.int IntKind.i64 i], ob := [] } = POpd k n s a i kx nx sx ax t c := by kernel_rfl
noncomputable def PTx (k : Int) (n : Int) (s : List UInt8) (a : List (List D)) (t0 : List UInt8) (p0 : List UInt8) (p1 : List UInt8) (ar : Bool) : Go.Sx.Tr := brT (decide (k = (1 : Int))) (Tr.owe (FnOK Tryz.prog (84 : FuncId) [D.int IntKind.i64 n] (D.str t0)) (Tr.ret (D.str t0) [])) (brT (decide (k = (4 : Int))) (Tr.jmp (cut sc62 (0 : Nat)) { tm := [((1 : Nat), D.ptr (0 : Nat) (0 : Nat)), ((3 : Nat), D.vec (1 : Nat)), ((19 : Nat), D.slice a []), ((20 : Nat), D.int IntKind.i64 (↑(List.length a) : Int)), ((21 : Nat), D.int IntKind.i64 (0 : Int))], ob := [((0 : Nat), Ob.cells [D.int IntKind.u8 k, D.int IntKind.i64 n, D.str s, D.slice a []]), ((1 : Nat), Ob.arr true (1 : Nat) (9 : TypeId) [])] }) (brT (decide (k = (6 : Int))) (Tr.owe (FnOK Tryz.prog (86 : FuncId) [D.agg [D.int IntKind.u8 k, D.int IntKind.i64 n, D.str s, D.slice a []], D.int IntKind.i64 (0 : Int)] (D.str p0)) (Tr.owe (List.length p0 + (2 : Nat) ≤ (4611686018427387904 : Nat)) (Tr.owe (FnOK Tryz.prog (86 : FuncId) [D.agg [D.int IntKind.u8 k, D.int IntKind.i64 n, D.str s, D.slice a []], D.int IntKind.i64 (1 : Int)] (D.str p1)) (Tr.owe (List.length (p0 ++ [(46 : UInt8), (46 : UInt8)]) + List.length p1 ≤ (4611686018427387904 : Nat)) (Tr.ret (D.str (p0 ++ [(46 : UInt8), (46 : UInt8)] ++ p1)) []))))) (brT (decide (k = (5 : Int))) (Tr.owe (FnOK Tryz.prog (71 : FuncId) [D.agg [D.int IntKind.u8 k, D.int IntKind.i64 n, D.str s, D.slice a []], D.int IntKind.i64 (1 : Int), D.int IntKind.i64 (1 : Int)] (D.bool ar)) (brT ar (Tr.owe (FnOK Tryz.prog (86 : FuncId) [D.agg [D.int IntKind.u8 k, D.int IntKind.i64 n, D.str s, D.slice a []], D.int IntKind.i64 (0 : Int)] (D.str p0)) (Tr.owe (List.length s + List.length p0 ≤ (4611686018427387904 : Nat)) (Tr.ret (D.str (s ++ p0)) []))) (Tr.owe (FnOK Tryz.prog (86 : FuncId) [D.agg [D.int IntKind.u8 k, D.int IntKind.i64 n, D.str s, D.slice a []], D.int IntKind.i64 (0 : Int)] (D.str p0)) (Tr.owe (List.length p0 + List.length s ≤ (4611686018427387904 : Nat)) (Tr.owe (FnOK Tryz.prog (86 : FuncId) [D.agg [D.int IntKind.u8 k, D.int IntKind.i64 n, D.str s, D.slice a []], D.int IntKind.i64 (1 : Int)] (D.str p1)) (Tr.owe (List.length (p0 ++ s) + List.length p1 ≤ (4611686018427387904 : Nat)) (Tr.ret (D.str (p0 ++ s ++ p1)) []))))))) (Tr.ret (D.str s) []))))
theorem PTx_eq (k : Int) (n : Int) (s : List UInt8) (a : List (List D)) (t0 : List UInt8) (p0 : List UInt8) (p1 : List UInt8) (ar : Bool) : goT Tryz.prog (dCtr [((14 : Nat), D.str t0), ((43 : Nat), D.str p0), ((46 : Nat), D.str p1), ((51 : Nat), D.bool ar), ((56 : Nat), D.str p0), ((59 : Nat), D.str p0), ((65 : Nat), D.str p1)]) (0 : Nat) (finF true (0 : Nat) rs62) (2000 : Nat) [Fr.sc sc62] { tm := envOf (0 : Nat) [D.agg (tC k n s a)], ob := [] } = PTx k n s a t0 p0 p1 ar := by kernel_rfl
def hdTx (k n : Int) (s : List UInt8) (a acc : List (List D)) (m i : Int) : St := ⟨[(1, .ptr 0 0), (3, .vec 1), (19, .slice a []), (20, .int .i64 m), (21, .int .i64 i)], [(0, .cells (tC k n s a)), (1, .arr true 1 9 acc)]⟩
noncomputable def PTx2 (k : Int) (n : Int) (s : List UInt8) (a : List (List D)) (acc : List (List D)) (m : Int) (i : Int) (kx : Int) (nx : Int) (sx : List UInt8) (ax : List (List D)) (t : List UInt8) (jn : List UInt8) : Go.Sx.Tr := brT (decide (i < m)) (Tr.owe ((0 : Int) ≤ i ∧ a[Int.toNat i]? = some [D.int IntKind.u8 kx, D.int IntKind.i64 nx, D.str sx, D.slice ax []]) (Tr.owe (FnOK Tryz.prog (62 : FuncId) [D.agg [D.int IntKind.u8 kx, D.int IntKind.i64 nx, D.str sx, D.slice ax []]] (D.str t)) (Tr.owe (allLen (1 : Nat) [[D.str t]] ∧ List.length acc + (1 : Nat) ≤ (1073741824 : Nat)) (Tr.owe ((-9223372036854775808 : Int) ≤ i + (1 : Int) ∧ i + (1 : Int) ≤ (9223372036854775807 : Int)) (Tr.jmp (cut sc62 (0 : Nat)) { tm := [((1 : Nat), D.ptr (0 : Nat) (0 : Nat)), ((3 : Nat), D.vec (1 : Nat)), ((19 : Nat), D.slice a []), ((20 : Nat), D.int IntKind.i64 m), ((21 : Nat), D.int IntKind.i64 (i + (1 : Int)))], ob := [((0 : Nat), Ob.cells [D.int IntKind.u8 k, D.int IntKind.i64 n, D.str s, D.slice a []]), ((1 : Nat), Ob.arr true (1 : Nat) (9 : TypeId) (acc ++ [[D.str t]]))] }))))) (Tr.owe (List.length s + (1 : Nat) ≤ (4611686018427387904 : Nat)) (Tr.owe (FnOK Tryz.prog (85 : FuncId) [D.slice acc [], D.str [(44 : UInt8)]] (D.str jn)) (Tr.owe (List.length (s ++ [(40 : UInt8)]) + List.length jn ≤ (4611686018427387904 : Nat)) (Tr.owe (List.length (s ++ [(40 : UInt8)] ++ jn) + (1 : Nat) ≤ (4611686018427387904 : Nat)) (Tr.ret (D.str (s ++ [(40 : UInt8)] ++ jn ++ [(41 : UInt8)])) [])))))
theorem PTx2_eq (k : Int) (n : Int) (s : List UInt8) (a : List (List D)) (acc : List (List D)) (m : Int) (i : Int) (kx : Int) (nx : Int) (sx : List UInt8) (ax : List (List D)) (t : List UInt8) (jn : List UInt8) : goT Tryz.prog (dCtr [((28 : Nat), D.str t), ((37 : Nat), D.str jn)] [((23 : Nat), tC kx nx sx ax)]) (0 : Nat) (finF true (0 : Nat) rs62) (2000 : Nat) (cut sc62 (0 : Nat)) (hdTx k n s a acc m i) = PTx2 k n s a acc m i kx nx sx ax t jn := by kernel_rfl
theorem binds_ok (s : List UInt8) : FnOK Tryz.prog 123 [.str s] (.int .i64 (bindsB s)) := by
  refine FnOK.tree hdraw fp123 (dCtr_ok qnone_ok) (PBi_eq s) ?_
  unfold PBi bindsB
  simp only [ok_br, ok_ret, decide_eq_true_eq, decide_eq_false_iff_not]
  exact ⟨fun h => by rw [if_pos h], fun h => ⟨fun h2 => by rw [if_neg h, if_pos h2], fun h2 => by rw [if_neg h, if_neg h2]⟩⟩
theorem closed_ok (k : Nat) (n : Int) (s : List UInt8) (a : List (List D)) (kx : Nat) (nx : Int) (sx : List UInt8) (ax : List (List D)) (r : Bool) : FnOK Tryz.prog 109 [.agg (tC k n s a), .agg (tC kx nx sx ax), .bool r] (.bool (closedB k s a.length kx sx ax.length r)) := by
  have ha := arg_ok k n s a 1 1
  have l1 : (decide ((1 : Int) ≤ (a.length : Int)) && decide ((a.length : Int) ≤ 1)) = decide (a.length = 1) := by rw [Bool.eq_iff_iff]; simp; omega
  rw [l1] at ha
  have hb1 := binds_ok s
  have hb2 := binds_ok sx
  have ek : ((k : Int) = 5) = (k = 5) := propext (by omega)
  have e1 : ((kx : Int) = 1) = (kx = 1) := propext (by omega)
  have e5 : ((kx : Int) = 5) = (kx = 5) := propext (by omega)
  have e6 : ((kx : Int) = 6) = (kx = 6) := propext (by omega)
  have el : ((ax.length : Int) = 1) = (ax.length = 1) := propext (by omega)
  unfold closedB
  generalize bindsB s = b1 at hb1 ⊢
  generalize bindsB sx = b2 at hb2 ⊢
  generalize hu : decide (a.length = 1) = un at ha ⊢
  refine FnOK.tree hdraw fp109 (dCtr_ok qnone_ok) (PCl_eq k n s a kx nx sx ax r un b1 b2) ?_
  unfold PCl
  simp only [ok_br, ok_owe, ok_ret, decide_eq_true_eq, decide_eq_false_iff_not, Bool.not_eq_true', Bool.not_eq_false', ek, e1, e5, e6, el]
  refine ⟨fun hk => ⟨ha, fun h6 => by rw [if_pos h6], fun h6 => ⟨fun h1 => ?_, fun h1 => ⟨fun h5 => ⟨fun h => absurd hk h, fun _ => ⟨fun hl => ?_, fun hl => ⟨hb1, hb2, fun h => ?_, fun h => ⟨fun h' => ?_, fun h' => ⟨fun h2 => ?_, fun h2 => ?_⟩⟩⟩⟩⟩, fun h5 => ?_⟩⟩⟩,
    fun hk => ⟨fun h6 => by rw [if_pos h6], fun h6 => ⟨fun h1 => ?_, fun h1 => ⟨fun h5 => ⟨fun _ => ?_, fun h => absurd h hk⟩, fun h5 => ?_⟩⟩⟩⟩
  · rw [if_neg h6, if_pos h1]; simp [hk]
  · rw [if_neg h6, if_neg h1, if_pos h5, if_pos hk, if_pos hl]
  · rw [if_neg h6, if_neg h1, if_pos h5, if_pos hk, if_neg hl, h]; rfl
  · rw [if_neg h6, if_neg h1, if_pos h5, if_pos hk, if_neg hl, h, decide_eq_true h']; rfl
  · rw [if_neg h6, if_neg h1, if_pos h5, if_pos hk, if_neg hl, h, decide_eq_false h', decide_eq_true h2]; simp
  · rw [if_neg h6, if_neg h1, if_pos h5, if_pos hk, if_neg hl, h, decide_eq_false h', decide_eq_false h2]; simp
  · rw [if_neg h6, if_neg h1, if_neg h5]
  · rw [if_neg h6, if_pos h1]; simp [hk]
  · rw [if_neg h6, if_neg h1, if_pos h5, if_neg hk]
  · rw [if_neg h6, if_neg h1, if_neg h5]
def TxtP (x : Tm) : Prop := FnOK Tryz.prog 62 [.agg x.cells] (.str x.text)
theorem opd_ok (k : Nat) (n : Int) (s : List UInt8) (l : List Tm) (i : Nat) (x : Tm) (hx : l[i]? = some x) (hT : TxtP x) (hlen : x.text.length ≤ 4611686018427387000) :
    FnOK Tryz.prog 86 [.agg (tC k n s (Tm.cellsL l)), .int .i64 i] (.str (opdT k s l.length x x.text (decide (0 < i)))) := by
  have hc : (Tm.cellsL l)[i]? = some x.cells := by rw [cellsL_map]; simp [hx]
  unfold TxtP at hT
  unfold opdT
  obtain ⟨kx, nx, sx, ax⟩ := x
  have hcl := closed_ok k n s (Tm.cellsL l) kx nx sx (Tm.cellsL ax) (decide (0 < i))
  rw [cellsL_length, cellsL_length] at hcl
  simp only [Tm.kd, Tm.nm, Tm.as']
  have e0 : decide ((0 : Int) < (i : Int)) = decide (0 < i) := by rw [Bool.eq_iff_iff]; simp
  generalize closedB k s l.length kx sx ax.length (decide (0 < i)) = c at hcl ⊢
  generalize Tm.text (.mk kx nx sx ax) = t at hT hlen ⊢
  refine FnOK.tree hdraw fp86 (dCtr_ok qnone_ok) (POpd_eq k n s (Tm.cellsL l) i kx nx sx (Tm.cellsL ax) t c) ?_
  unfold POpd
  simp only [ok_br, ok_owe, ok_ret, Int.toNat_natCast, e0]
  refine ⟨⟨by omega, hc⟩, hT, ⟨by omega, hc⟩, hcl, fun h => ⟨by omega, by simp; omega, by rw [h]⟩, fun h => by rw [h]⟩
theorem shape_parts {k : Nat} {n : Int} {s : List UInt8} {l : List Tm} (h : shapeB k n s l.length = true) : (k = 5 → l.length = 1 ∨ l.length = 2) ∧ (k = 6 → l.length = 2) := by
  unfold shapeB at h
  constructor
  · intro hk
    rw [hk] at h
    simp at h
    omega
  · intro hk
    rw [hk] at h
    simp at h
    omega
theorem tx_at (k : Nat) (n : Int) (s : List UInt8) (l : List Tm) (hl : l.length ≤ 1000) (H : ∀ x ∈ l, TxtP x) (hj : (Lib.join (Tm.texts l) [44]).length ≤ 140737488355328) (hs : s.length ≤ 1000000) : ∀ (m i : Nat), l.length - i = m → i ≤ l.length →
    At Tryz.prog 0 (cut sc62 0) (hdTx k n s (Tm.cellsL l) ((Tm.texts (l.take i)).map fun t => [.str t]) l.length i) (FinQ true 0 rs62 fun r _ => r = .str (s ++ [40] ++ Lib.join (Tm.texts l) [44] ++ [41])) := by
  intro m
  induction m with
  | zero =>
    intro i hm hi
    have hJ : FnOK Tryz.prog 85 [.slice ((Tm.texts l).map fun t => [.str t]) [], .str [44]] (.str (Lib.join (Tm.texts l) [44])) := by
      have := libT_ok 85 [.slice ((Tm.texts l).map fun t => [.str t]) [], .str [44]] _ rfl
      have e : ((Tm.texts l).map fun t => [D.str t]).map deS = Tm.texts l := by rw [List.map_map]; exact List.map_id'' (fun _ => rfl) _
      rw [e] at this
      exact this ⟨rfl, by rw [texts_map]; simp; omega, hj⟩
    have ht : l.take i = l := List.take_of_length_le (by omega)
    rw [ht]
    refine At.tree (dCtr_ok qnone_ok) (PTx2_eq k n s (Tm.cellsL l) ((Tm.texts l).map fun t => [.str t]) l.length i 0 0 [] [] [] (Lib.join (Tm.texts l) [44])) ?_
    unfold PTx2
    simp only [ok_br, ok_owe, ok_ret, ok_jmp, decide_eq_true_eq, decide_eq_false_iff_not]
    exact ⟨fun h => by omega, fun _ => ⟨by omega, hJ, by simp; omega, by simp; omega, trivial⟩⟩
  | succ m ih =>
    intro i hm hi
    have h1 : i < l.length := by omega
    have hx := cellsG h1
    have hC := H _ (List.getElem_mem h1)
    have hI := ih (i + 1) (by omega) (by omega)
    have htk : (Tm.texts (l.take (i + 1))).map (fun t => [D.str t]) = (Tm.texts (l.take i)).map (fun t => [D.str t]) ++ [[.str l[i].text]] := by
      rw [texts_map, texts_map, List.take_succ_eq_append_getElem h1, List.map_append, List.map_append]; rfl
    rw [htk] at hI
    unfold TxtP at hC
    generalize Tm.text l[i] = t at hC hI
    generalize l[i] = x at hx hC
    obtain ⟨kx, nx, sx, ax⟩ := x
    refine At.tree (dCtr_ok qnone_ok) (PTx2_eq k n s (Tm.cellsL l) ((Tm.texts (l.take i)).map fun t => [.str t]) l.length i kx nx sx (Tm.cellsL ax) t []) ?_
    unfold PTx2
    simp only [ok_br, ok_owe, ok_ret, ok_jmp, decide_eq_true_eq, decide_eq_false_iff_not, Int.toNat_natCast]
    exact ⟨fun _ => ⟨⟨by omega, hx⟩, hC, ⟨allLen_cons.2 ⟨rfl, allLen_nil _⟩, by rw [texts_map]; simp; omega⟩, by omega, hI⟩, fun h => by omega⟩
theorem text_ok : ∀ x : Tm, x.wf 281474976710656 → x.all Tm.shape = true → x.depth ≤ 12 → TxtP x
  | .mk k n s l, hx, hsh, hd => by
    have hlen := text_len _ hsh
    have hpow : 9 ^ (Tm.mk k n s l).depth ≤ 9 ^ 12 := Nat.pow_le_pow_right (by decide) hd
    have hp12 : (9 : Nat) ^ 12 = 282429536481 := by decide
    simp only [Tm.wf] at hx
    obtain ⟨hk, hn1, hn2, hs, hl, hw⟩ := hx
    have hsh2 := hsh
    simp only [Tm.all, Bool.and_eq_true, Tm.shape] at hsh2
    obtain ⟨hs1, hs2⟩ := hsh2
    simp only [Tm.depth] at hd
    have IH : ∀ y ∈ l, TxtP y := fun y hy => text_ok y (wfL_all.1 hw y hy) (allL_mem hs2 hy) (Nat.le_trans (depthL_mem hy) (by omega))
    have hyl : ∀ y ∈ l, y.text.length ≤ 16945772188860 := fun y hy => by
      have h1 := text_len y (allL_mem hs2 hy)
      have h2 : 9 ^ y.depth ≤ 9 ^ 12 := Nat.pow_le_pow_right (by decide) (Nat.le_trans (depthL_mem hy) (by omega))
      omega
    have hop : ∀ (i : Nat) (r : Bool), r = decide (0 < i) → i < l.length → FnOK Tryz.prog 86 [.agg (tC k n s (Tm.cellsL l)), .int .i64 i] (.str (opdT k s l.length (l.getD i default) ((Tm.texts l).getD i []) r)) ∧ (opdT k s l.length (l.getD i default) ((Tm.texts l).getD i []) r).length ≤ 16945772188862 := fun i r hr hi => by
      have hg := getD_mem hi
      have hb := hyl _ hg.1
      have hxi : l[i]? = some (l.getD i default) := by simp [List.getD, hi]
      rw [hg.2, hr]
      exact ⟨opd_ok k n s l i _ hxi (IH _ hg.1) (by omega), Nat.le_trans (opdT_len ..) (by omega)⟩
    have hpar := shape_parts hs1
    have ha := arg_ok k n s (Tm.cellsL l) 1 1
    rw [cellsL_length] at ha
    have l1 : (decide ((1 : Int) ≤ (l.length : Int)) && decide ((l.length : Int) ≤ 1)) = decide (l.length = 1) := by rw [Bool.eq_iff_iff]; simp; omega
    rw [l1] at ha
    have hI : FnOK Tryz.prog 84 [.int .i64 n] (.str (Lib.itoa n)) := by
      have := libT_ok 84 [.int .i64 n] _ rfl
      exact this ⟨hn1, hn2⟩
    have ek1 : ((k : Int) = 1) = (k = 1) := propext (by omega)
    have ek4 : ((k : Int) = 4) = (k = 4) := propext (by omega)
    have ek5 : ((k : Int) = 5) = (k = 5) := propext (by omega)
    have ek6 : ((k : Int) = 6) = (k = 6) := propext (by omega)
    unfold TxtP
    refine FnOK.tree hdraw fp62 (dCtr_ok qnone_ok) (PTx_eq k n s (Tm.cellsL l) (Lib.itoa n) (opdT k s l.length (l.getD 0 default) ((Tm.texts l).getD 0 []) false) (opdT k s l.length (l.getD 1 default) ((Tm.texts l).getD 1 []) true) (decide (l.length = 1))) ?_
    unfold PTx
    simp only [ok_br, ok_owe, ok_ret, ok_jmp, decide_eq_true_eq, decide_eq_false_iff_not, ek1, ek4, ek5, ek6]
    refine ⟨fun h1 => ⟨hI, by simp only [Tm.text]; rw [if_pos h1]⟩, fun h1 => ⟨fun h4 => ?_, fun h4 => ⟨fun h6 => ?_, fun h6 => ⟨fun h5 => ?_, fun h5 => ?_⟩⟩⟩⟩
    · have hb := hs1
      unfold shapeB at hb
      rw [h4] at hb
      simp at hb
      have hsl := sym_len hb.1.1.2
      have hj : (Lib.join (Tm.texts l) [44]).length ≤ 140737488355328 := by
        have := join_le (M := 16945772188860) (l := Tm.texts l) (by rw [texts_map]; intro t ht; obtain ⟨y, hy, rfl⟩ := List.mem_map.1 ht; exact hyl y hy)
        have hll : (Tm.texts l).length ≤ 8 := by rw [texts_map]; simp; omega
        have hm : (Tm.texts l).length * (16945772188860 + 1) ≤ 8 * (16945772188860 + 1) := Nat.mul_le_mul_right _ hll
        omega
      have := tx_at k n s l (by omega) IH hj (by omega) _ 0 rfl (Nat.zero_le _)
      rw [cellsL_length]
      simp only [Tm.text]
      rw [if_neg h1, if_pos h4]
      exact this
    · have h2 := hpar.2 h6
      have a := hop 0 false rfl (by omega)
      have b := hop 1 true rfl (by omega)
      exact ⟨a.1, by omega, b.1, by simp only [List.length_append, List.length_cons, List.length_nil]; omega, by simp only [Tm.text]; rw [if_neg h1, if_neg h4, if_pos h6]⟩
    · have h2 := hpar.1 h5
      have hb := hs1
      unfold shapeB at hb
      rw [h5] at hb
      simp at hb
      have hsl : s.length = 1 := by
        rcases hb.1.2 with (((h | h) | h) | h) | h <;> rw [h] <;> rfl
      have a := hop 0 false rfl (by omega)
      refine ⟨ha, fun hr => ⟨a.1, by omega, by simp only [Tm.text]; rw [if_neg h1, if_neg h4, if_neg h6, if_pos h5, if_pos hr]⟩, fun hr => ?_⟩
      have b := hop 1 true rfl (by omega)
      exact ⟨a.1, by omega, b.1, by simp only [List.length_append]; omega, by simp only [Tm.text]; rw [if_neg h1, if_neg h4, if_neg h6, if_pos h5, if_neg hr]⟩
    · simp only [Tm.text]; rw [if_neg h1, if_neg h4, if_neg h6, if_neg h5]
termination_by x => SizeOf.sizeOf x
decreasing_by
  have := List.sizeOf_lt_of_mem hy
  simp only [Tm.mk.sizeOf_spec]
  omega
/-- The text of a term: of one that is not valid, nothing. -/
def strT (x : Tm) : List UInt8 := match x.valid with
  | true => x.text
  | false => []
theorem string_ok (x : Tm) (hx : x.wf 281474976710656) (hd : x.depth ≤ 1000000000) : FnOK Tryz.prog 31 [.agg x.cells] (.str (strT x)) := by
  have hv := valid_ok x hx hd
  have ht : x.valid = true → TxtP x := fun h => by
    unfold Tm.valid at h
    rw [Bool.and_eq_true, decide_eq_true_eq] at h
    exact text_ok x hx h.2 h.1
  unfold strT
  unfold TxtP at ht
  generalize x.valid = v at hv ht ⊢
  generalize x.text = t at ht ⊢
  obtain ⟨k, n, s, l⟩ := x
  refine FnOK.tree hdraw fp31 (dCtr_ok qnone_ok) (PStr_eq k n s (Tm.cellsL l) v t) ?_
  unfold PStr
  simp only [ok_owe, ok_br, ok_ret]
  cases v
  · exact ⟨hv, fun _ => rfl, fun h => by simp at h⟩
  · exact ⟨hv, fun h => by simp at h, fun _ => ⟨ht rfl, rfl⟩⟩
end Go.Proofs.YtbcgpkgdbepfbaaGreatDoor
