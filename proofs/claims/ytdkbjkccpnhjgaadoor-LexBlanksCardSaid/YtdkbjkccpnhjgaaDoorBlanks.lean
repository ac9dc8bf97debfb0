/- LexBlanks: it returns true. -/
import Derived.Test.YtdkbjkccpnhjgaaDoorLawT
import Derived.Test.YtdkbjkccpnhjgaaDoorSx6
set_option linter.unusedSectionVars false
set_option linter.unusedVariables false
set_option linter.unusedSimpArgs false
set_option linter.deprecated false
set_option maxRecDepth 100000
namespace Go.Proofs.YtdkbjkccpnhjgaaDoor
open Go.Sx
noncomputable def PBlk (s : List UInt8) (gs : List Int) : Go.Sx.Tr := Tr.owe True (Tr.owe True (brT (!decide (Prod.snd (Prod.snd (Lx.lexR s)) = (0 : Int))) (Tr.ret (D.bool true) []) (brT (decide ((300 : Int) < (↑(List.length (List.map Lx.tokC (Prod.fst (Lx.lexR s)))) : Int))) (Tr.ret (D.bool true) []) (brT (decide ((4000 : Int) < (↑(List.length s) : Int))) (Tr.ret (D.bool true) []) (Tr.jmp (cut sc5 (0 : Nat)) { tm := [((1 : Nat), D.slice (intC IntKind.i64 gs) []), ((5 : Nat), D.slice (List.map Lx.tokC (Prod.fst (Lx.lexR s))) []), ((8 : Nat), D.vec (0 : Nat)), ((9 : Nat), D.str []), ((10 : Nat), D.vec (1 : Nat)), ((11 : Nat), D.int IntKind.i64 (0 : Int))], ob := [((0 : Nat), Ob.arr true (1 : Nat) (9 : TypeId) [[D.str [(32 : UInt8)]], [D.str [(10 : UInt8)]], [D.str [(9 : UInt8), (32 : UInt8)]], [D.str [(37 : UInt8), (10 : UInt8)]], [D.str [(32 : UInt8), (37 : UInt8), (32 : UInt8), (97 : UInt8), (46 : UInt8), (32 : UInt8), (35 : UInt8), (120 : UInt8), (10 : UInt8)]], [D.str [(13 : UInt8), (10 : UInt8)]]]), ((1 : Nat), Ob.arr true (1 : Nat) (3 : TypeId) [])] })))))
theorem PBlk_eq (s : List UInt8) (gs : List Int) : goT Tryd.prog (ctr lawP) (0 : Nat) (finF true (0 : Nat) rs5) (2000 : Nat) [Fr.sc sc5] { tm := envOf (0 : Nat) [D.str s, D.slice (intC IntKind.i64 gs) []], ob := [] } = PBlk s gs := by kernel_rfl
def hdBlk (F : List (List UInt8)) (gs : List Int) (l : List Lx.Tk) (s : List UInt8) (of : List Int) (i : Int) : St := ⟨[(1, .slice (intC .i64 gs) []), (5, .slice (l.map Lx.tokC) []), (8, .vec 0), (9, .str s), (10, .vec 1), (11, .int .i64 i)], [(0, .arr true 1 9 (strC F)), (1, .arr true 1 3 (intC .i64 of))]⟩
def elBlk (F : List (List UInt8)) (gs of : List Int) (l k : List Lx.Tk) (t : Nat) (n : Int) : List D :=
  if t = 51 then [.int .i64 (gs.getD n.toNat 0)] else if t = 57 then [.str (F.getD n.toNat [])] else if t = 68 then Lx.tokC (l.getD n.toNat default) else if t = 98 then Lx.tokC (k.getD n.toNat default) else [.int .i64 (of.getD n.toNat 0)]
noncomputable def PBlk2 (F : List (List UInt8)) (gs : List Int) (l : List Lx.Tk) (s : List UInt8) (of : List Int) (i : Int) : Go.Sx.Tr := brT (decide (i < (↑(List.length (List.map Lx.tokC l)) : Int))) (brT (decide (i < (↑(List.length (intC IntKind.i64 gs)) : Int))) (Tr.owe ((0 : Int) ≤ i ∧ (intC IntKind.i64 gs)[Int.toNat i]? = some [D.int IntKind.i64 (List.getD gs (Int.toNat i) (0 : Int))]) (Tr.owe (((0 : Int) < (6 : Int) ∧ (6 : Int) ≤ (1000000 : Int)) ∧ (-9223372036854775808 : Int) ≤ List.getD gs (Int.toNat i) (0 : Int) ∧ List.getD gs (Int.toNat i) (0 : Int) ≤ (9223372036854775807 : Int)) (Tr.owe ((0 : Int) ≤ Lx.pickG (List.getD gs (Int.toNat i) (0 : Int)) (6 : Int) ∧ (strC F)[Int.toNat (Lx.pickG (List.getD gs (Int.toNat i) (0 : Int)) (6 : Int))]? = some [D.str (List.getD F (Int.toNat (Lx.pickG (List.getD gs (Int.toNat i) (0 : Int)) (6 : Int))) [])]) (Tr.owe (List.length s + List.length (List.getD F (Int.toNat (Lx.pickG (List.getD gs (Int.toNat i) (0 : Int)) (6 : Int))) []) ≤ (4611686018427387904 : Nat)) (Tr.owe (allLen (1 : Nat) [[D.int IntKind.i64 (↑(List.length (s ++ List.getD F (Int.toNat (Lx.pickG (List.getD gs (Int.toNat i) (0 : Int)) (6 : Int))) [])) : Int)]] ∧ List.length (intC IntKind.i64 of) + (1 : Nat) ≤ (1073741824 : Nat)) (Tr.owe ((0 : Int) ≤ i ∧ (List.map Lx.tokC l)[Int.toNat i]? = some [D.int IntKind.u8 (Prod.fst (List.getD l (Int.toNat i) ((0 : Int), [], (0 : Int)))), D.str (Prod.fst (Prod.snd (List.getD l (Int.toNat i) ((0 : Int), [], (0 : Int))))), D.int IntKind.i64 (Prod.snd (Prod.snd (List.getD l (Int.toNat i) ((0 : Int), [], (0 : Int)))))]) (Tr.owe (List.length (s ++ List.getD F (Int.toNat (Lx.pickG (List.getD gs (Int.toNat i) (0 : Int)) (6 : Int))) []) + List.length (Prod.fst (Prod.snd (List.getD l (Int.toNat i) ((0 : Int), [], (0 : Int))))) ≤ (4611686018427387904 : Nat)) (Tr.owe ((-9223372036854775808 : Int) ≤ i + (1 : Int) ∧ i + (1 : Int) ≤ (9223372036854775807 : Int)) (Tr.jmp (cut sc5 (0 : Nat)) { tm := [((1 : Nat), D.slice (intC IntKind.i64 gs) []), ((5 : Nat), D.slice (List.map Lx.tokC l) []), ((8 : Nat), D.vec (0 : Nat)), ((9 : Nat), D.str (s ++ List.getD F (Int.toNat (Lx.pickG (List.getD gs (Int.toNat i) (0 : Int)) (6 : Int))) [] ++ Prod.fst (Prod.snd (List.getD l (Int.toNat i) ((0 : Int), [], (0 : Int)))))), ((10 : Nat), D.vec (1 : Nat)), ((11 : Nat), D.int IntKind.i64 (i + (1 : Int)))], ob := [((0 : Nat), Ob.arr true (1 : Nat) (9 : TypeId) (strC F)), ((1 : Nat), Ob.arr true (1 : Nat) (3 : TypeId) (intC IntKind.i64 of ++ [[D.int IntKind.i64 (↑(List.length (s ++ List.getD F (Int.toNat (Lx.pickG (List.getD gs (Int.toNat i) (0 : Int)) (6 : Int))) [])) : Int)]]))] }))))))))) (Tr.owe (((0 : Int) < (6 : Int) ∧ (6 : Int) ≤ (1000000 : Int)) ∧ (-9223372036854775808 : Int) ≤ i ∧ i ≤ (9223372036854775807 : Int)) (Tr.owe ((0 : Int) ≤ Lx.pickG i (6 : Int) ∧ (strC F)[Int.toNat (Lx.pickG i (6 : Int))]? = some [D.str (List.getD F (Int.toNat (Lx.pickG i (6 : Int))) [])]) (Tr.owe (List.length s + List.length (List.getD F (Int.toNat (Lx.pickG i (6 : Int))) []) ≤ (4611686018427387904 : Nat)) (Tr.owe (allLen (1 : Nat) [[D.int IntKind.i64 (↑(List.length (s ++ List.getD F (Int.toNat (Lx.pickG i (6 : Int))) [])) : Int)]] ∧ List.length (intC IntKind.i64 of) + (1 : Nat) ≤ (1073741824 : Nat)) (Tr.owe ((0 : Int) ≤ i ∧ (List.map Lx.tokC l)[Int.toNat i]? = some [D.int IntKind.u8 (Prod.fst (List.getD l (Int.toNat i) ((0 : Int), [], (0 : Int)))), D.str (Prod.fst (Prod.snd (List.getD l (Int.toNat i) ((0 : Int), [], (0 : Int))))), D.int IntKind.i64 (Prod.snd (Prod.snd (List.getD l (Int.toNat i) ((0 : Int), [], (0 : Int)))))]) (Tr.owe (List.length (s ++ List.getD F (Int.toNat (Lx.pickG i (6 : Int))) []) + List.length (Prod.fst (Prod.snd (List.getD l (Int.toNat i) ((0 : Int), [], (0 : Int))))) ≤ (4611686018427387904 : Nat)) (Tr.owe ((-9223372036854775808 : Int) ≤ i + (1 : Int) ∧ i + (1 : Int) ≤ (9223372036854775807 : Int)) (Tr.jmp (cut sc5 (0 : Nat)) { tm := [((1 : Nat), D.slice (intC IntKind.i64 gs) []), ((5 : Nat), D.slice (List.map Lx.tokC l) []), ((8 : Nat), D.vec (0 : Nat)), ((9 : Nat), D.str (s ++ List.getD F (Int.toNat (Lx.pickG i (6 : Int))) [] ++ Prod.fst (Prod.snd (List.getD l (Int.toNat i) ((0 : Int), [], (0 : Int)))))), ((10 : Nat), D.vec (1 : Nat)), ((11 : Nat), D.int IntKind.i64 (i + (1 : Int)))], ob := [((0 : Nat), Ob.arr true (1 : Nat) (9 : TypeId) (strC F)), ((1 : Nat), Ob.arr true (1 : Nat) (3 : TypeId) (intC IntKind.i64 of ++ [[D.int IntKind.i64 (↑(List.length (s ++ List.getD F (Int.toNat (Lx.pickG i (6 : Int))) [])) : Int)]]))] }))))))))) (Tr.owe (List.length s + (10 : Nat) ≤ (4611686018427387904 : Nat)) (Tr.owe True (brT (!decide (Prod.snd (Prod.snd (Lx.lexR (s ++ [(32 : UInt8), (37 : UInt8), (32 : UInt8), (116 : UInt8), (104 : UInt8), (101 : UInt8), (32 : UInt8), (101 : UInt8), (110 : UInt8), (100 : UInt8)]))) = (0 : Int))) (Tr.ret (D.bool (decide ((32758 : Int) < (↑(List.length s) : Int)))) []) (Tr.owe (List.map Lx.tokC l = List.map Lx.tokC (List.map Lx.deT (List.map Lx.tokC l)) ∧ List.map Lx.tokC (Prod.fst (Lx.lexR (s ++ [(32 : UInt8), (37 : UInt8), (32 : UInt8), (116 : UInt8), (104 : UInt8), (101 : UInt8), (32 : UInt8), (101 : UInt8), (110 : UInt8), (100 : UInt8)]))) = List.map Lx.tokC (List.map Lx.deT (List.map Lx.tokC (Prod.fst (Lx.lexR (s ++ [(32 : UInt8), (37 : UInt8), (32 : UInt8), (116 : UInt8), (104 : UInt8), (101 : UInt8), (32 : UInt8), (101 : UInt8), (110 : UInt8), (100 : UInt8)]))))) ∧ List.length (List.map Lx.tokC l) ≤ (4611686018427387904 : Nat)) (brT (!Lx.alikeB (List.map Lx.deT (List.map Lx.tokC l)) (List.map Lx.deT (List.map Lx.tokC (Prod.fst (Lx.lexR (s ++ [(32 : UInt8), (37 : UInt8), (32 : UInt8), (116 : UInt8), (104 : UInt8), (101 : UInt8), (32 : UInt8), (101 : UInt8), (110 : UInt8), (100 : UInt8)])))))) (Tr.ret (D.bool (decide ((32758 : Int) < (↑(List.length s) : Int)))) []) (Tr.jmp (cut sc5 (1 : Nat)) { tm := [((10 : Nat), D.vec (0 : Nat)), ((13 : Nat), D.slice (List.map Lx.tokC (Prod.fst (Lx.lexR (s ++ [(32 : UInt8), (37 : UInt8), (32 : UInt8), (116 : UInt8), (104 : UInt8), (101 : UInt8), (32 : UInt8), (101 : UInt8), (110 : UInt8), (100 : UInt8)])))) []), ((16 : Nat), D.int IntKind.i64 (0 : Int))], ob := [((0 : Nat), Ob.arr true (1 : Nat) (3 : TypeId) (intC IntKind.i64 of))] }))))))
theorem PBlk2_eq (F : List (List UInt8)) (gs : List Int) (l : List Lx.Tk) (s : List UInt8) (of : List Int) (i : Int) : goT Tryd.prog (ctr lawP qnone (elBlk F gs of l [])) (0 : Nat) (finF true (0 : Nat) rs5) (2000 : Nat) (cut sc5 (0 : Nat)) (hdBlk F gs l s of i) = PBlk2 F gs l s of i := by kernel_rfl
def hdBlk2 (of : List Int) (k : List Lx.Tk) (i : Int) : St := ⟨[(10, .vec 0), (13, .slice (k.map Lx.tokC) []), (16, .int .i64 i)], [(0, .arr true 1 3 (intC .i64 of))]⟩
noncomputable def PBlk3 (of : List Int) (k : List Lx.Tk) (i : Int) : Go.Sx.Tr := brT (decide (i < (↑(List.length (List.map Lx.tokC k)) : Int))) (Tr.owe ((0 : Int) ≤ i ∧ (List.map Lx.tokC k)[Int.toNat i]? = some [D.int IntKind.u8 (Prod.fst (List.getD k (Int.toNat i) ((0 : Int), [], (0 : Int)))), D.str (Prod.fst (Prod.snd (List.getD k (Int.toNat i) ((0 : Int), [], (0 : Int))))), D.int IntKind.i64 (Prod.snd (Prod.snd (List.getD k (Int.toNat i) ((0 : Int), [], (0 : Int)))))]) (Tr.owe ((0 : Int) ≤ i ∧ (intC IntKind.i64 of)[Int.toNat i]? = some [D.int IntKind.i64 (List.getD of (Int.toNat i) (0 : Int))]) (brT (!decide (Prod.snd (Prod.snd (List.getD k (Int.toNat i) ((0 : Int), [], (0 : Int)))) = List.getD of (Int.toNat i) (0 : Int))) (Tr.ret (D.bool false) []) (Tr.owe ((-9223372036854775808 : Int) ≤ i + (1 : Int) ∧ i + (1 : Int) ≤ (9223372036854775807 : Int)) (Tr.jmp (cut sc5 (1 : Nat)) { tm := [((10 : Nat), D.vec (0 : Nat)), ((13 : Nat), D.slice (List.map Lx.tokC k) []), ((16 : Nat), D.int IntKind.i64 (i + (1 : Int)))], ob := [((0 : Nat), Ob.arr true (1 : Nat) (3 : TypeId) (intC IntKind.i64 of))] }))))) (Tr.ret (D.bool true) [])
theorem PBlk3_eq (of : List Int) (k : List Lx.Tk) (i : Int) : goT Tryd.prog (ctr lawP qnone (elBlk [] [] of [] k)) (0 : Nat) (finF true (0 : Nat) rs5) (2000 : Nat) (cut sc5 (1 : Nat)) (hdBlk2 of k i) = PBlk3 of k i := by kernel_rfl
theorem intC_get {l : List Int} {i : Nat} (h : i < l.length) : (intC .i64 l)[i]? = some [D.int .i64 (l.getD i 0)] := by
  unfold intC
  rw [List.getElem?_map, List.getElem?_eq_getElem h]
  simp [List.getD, h]
theorem intC_len (l : List Int) : (intC .i64 l).length = l.length := by simp [intC]
theorem blk2_at (of : List Int) (k : List Lx.Tk) (hl : k.length ≤ 1000000) (he : k.map (·.2.2) = of) : ∀ (m i : Nat), k.length - i = m → i ≤ k.length →
    At Tryd.prog 0 (cut sc5 1) (hdBlk2 of k i) (FinQ true 0 rs5 fun r _ => r = .bool true) := by
  intro m
  induction m with
  | zero =>
    intro i hm hi
    refine At.tree (ctr_ok lawP_ok qnone_ok) (PBlk3_eq of k i) ?_
    unfold PBlk3
    simp only [ok_br, ok_owe, ok_ret, ok_jmp, decide_eq_true_eq, decide_eq_false_iff_not, Int.toNat_natCast, true_and, and_true, Bool.not_eq_true', Bool.not_eq_false', List.drop_zero, List.take_length, D.bool.injEq, D.int.injEq, D.str.injEq, true_implies, Int.le_refl, List.length_map]
    exact ⟨fun h => by omega, fun _ => trivial⟩
  | succ m ih =>
    intro i hm hi
    have h1 : i < k.length := by omega
    have hol : of.length = k.length := by rw [← he]; simp
    refine At.tree (ctr_ok lawP_ok qnone_ok) (PBlk3_eq of k i) ?_
    unfold PBlk3
    have hg := Lx.tokC_get h1
    have e : (k.getD i default).2.2 = of.getD i 0 := by
      rw [← he]
      simp [List.getD, h1]
    simp only [ok_br, ok_owe, ok_ret, ok_jmp, decide_eq_true_eq, decide_eq_false_iff_not, Int.toNat_natCast, true_and, and_true, Bool.not_eq_true', Bool.not_eq_false', List.drop_zero, List.take_length, D.bool.injEq, D.int.injEq, D.str.injEq, true_implies, Int.le_refl, List.length_map]
    refine ⟨fun _ => ⟨⟨by omega, hg⟩, ⟨by omega, intC_get (by omega)⟩, fun h => absurd e h, fun _ => ⟨by omega, ?_⟩⟩, fun h => by omega⟩
    exact ih (i + 1) (by omega) (by omega)
theorem blk_at (gs : List Int) (l : List Lx.Tk) (hgs : ∀ n ∈ gs, -9223372036854775808 ≤ n ∧ n ≤ 9223372036854775807) (hl : l.length ≤ 300) (hlt : ∀ t ∈ l, t.2.1.length ≤ 4000)
    (hfin : ∀ (S : List UInt8) (OF : List Int), (S, OF) = Lx.finB gs 0 l [] [] → (Lx.lexR (S ++ Lx.theEnd)).2.2 = 0 → Lx.alikeB l (Lx.lexR (S ++ Lx.theEnd)).1 = true ∧ (Lx.lexR (S ++ Lx.theEnd)).1.map (·.2.2) = OF)
    (hlong : ∀ (S : List UInt8) (OF : List Int), (S, OF) = Lx.finB gs 0 l [] [] → (Lx.lexR (S ++ Lx.theEnd)).2.2 ≠ 0 → 32758 < S.length) :
    ∀ (m i : Nat) (s : List UInt8) (of : List Int), l.length - i = m → i ≤ l.length → of.length = i → s.length ≤ i * 5000 → Lx.finB gs i (l.drop i) s of = Lx.finB gs 0 l [] [] →
    At Tryd.prog 0 (cut sc5 0) (hdBlk Lx.fills gs l s of i) (FinQ true 0 rs5 fun r _ => r = .bool true) := by
  intro m
  induction m with
  | zero =>
    intro i s of hm hi ho hs hf
    refine At.tree (ctr_ok lawP_ok qnone_ok) (PBlk2_eq Lx.fills gs l s of i) ?_
    unfold PBlk2
    rw [List.drop_eq_nil_of_le (by omega)] at hf
    have hF := hfin s of hf
    have hL := hlong s of hf
    have eE : s ++ [32, 37, 32, 116, 104, 101, 32, 101, 110, 100] = s ++ Lx.theEnd := rfl
    simp only [ok_br, ok_owe, ok_ret, ok_jmp, decide_eq_true_eq, decide_eq_false_iff_not, Int.toNat_natCast, true_and, and_true, Bool.not_eq_true', Bool.not_eq_false', List.drop_zero, List.take_length, D.bool.injEq, D.int.injEq, D.str.injEq, true_implies, Int.le_refl, List.length_map, Lx.map_deT, eE]
    refine ⟨fun h => by omega, fun _ => ⟨by omega, fun h => by have := hL h; omega, fun h => ⟨by omega, fun h2 => ?_, fun h2 => ?_⟩⟩⟩
    · rw [(hF h).1] at h2; cases h2
    · have hk : (Lx.lexR (s ++ Lx.theEnd)).1.length ≤ 1000000 := by
        have := congrArg List.length (hF h).2
        simp only [List.length_map] at this
        omega
      exact blk2_at of _ hk (hF h).2 _ 0 rfl (Nat.zero_le _)
  | succ m ih =>
    intro i s of hm hi ho hs hf
    have h1 : i < l.length := by omega
    refine At.tree (ctr_ok lawP_ok qnone_ok) (PBlk2_eq Lx.fills gs l s of i) ?_
    unfold PBlk2
    rw [drop_getD (d := (default : Lx.Tk)) h1] at hf
    have hg := Lx.tokC_get h1
    have hd : (default : Lx.Tk) = (0, [], 0) := rfl
    have htl : (l.getD i (0, [], 0)).2.1.length ≤ 4000 := by
      refine hlt _ ?_
      rw [List.getD_eq_getElem?_getD, List.getElem?_eq_getElem h1]; exact List.getElem_mem _
    rw [hd] at hf hg
    simp only [Lx.finB] at hf
    have key : ∀ g : Int, Lx.gapF gs i = g → -9223372036854775808 ≤ g ∧ g ≤ 9223372036854775807 → (0 ≤ Lx.pickG g 6 ∧ (strC Lx.fills)[(Lx.pickG g 6).toNat]? = some [D.str (Lx.fills.getD (Lx.pickG g 6).toNat [])]) ∧
        (Lx.fills.getD (Lx.pickG g 6).toNat []).length ≤ 9 ∧
        At Tryd.prog 0 (cut sc5 0) (hdBlk Lx.fills gs l (s ++ Lx.fills.getD (Lx.pickG g 6).toNat [] ++ (l.getD i (0, [], 0)).2.1) (of ++ [((s ++ Lx.fills.getD (Lx.pickG g 6).toNat []).length : Int)]) (i + 1 : Nat)) (FinQ true 0 rs5 fun r _ => r = .bool true) := by
      intro g hgg hgb
      have hp := Lx.pickF_lt g
      have hfl := (Lx.fill_gap _ (Lx.fillOf_mem g)).2.2
      rw [hgg] at hf
      refine ⟨⟨hp.1, strC_get (by have : Lx.fills.length = 6 := rfl; have := hp.2; unfold Lx.pickF at this; omega)⟩, hfl, ih (i + 1) _ _ (by omega) (by omega) (by simp [ho]) ?_ hf⟩
      have : (Lx.fills.getD (Lx.pickG g 6).toNat []).length ≤ 9 := hfl
      simp only [List.length_append]
      omega
    simp only [ok_br, ok_owe, ok_ret, ok_jmp, decide_eq_true_eq, decide_eq_false_iff_not, Int.toNat_natCast, true_and, and_true, Bool.not_eq_true', Bool.not_eq_false', List.drop_zero, List.take_length, D.bool.injEq, D.int.injEq, D.str.injEq, true_implies, Int.le_refl, List.length_map, intC_len, strC_len]
    refine ⟨fun _ => ⟨fun h2 => ?_, fun h2 => ?_⟩, fun h => by omega⟩
    · have h2' : i < gs.length := by omega
      have hgm : -9223372036854775808 ≤ gs.getD i 0 ∧ gs.getD i 0 ≤ 9223372036854775807 := hgs _ (by
        rw [List.getD_eq_getElem?_getD, List.getElem?_eq_getElem h2']; exact List.getElem_mem _)
      obtain ⟨k1, k2, k3⟩ := key (gs.getD i 0) (by unfold Lx.gapF; rw [if_pos h2']) hgm
      refine ⟨⟨by omega, intC_get h2'⟩, ⟨by omega, hgm⟩, k1, by omega, ⟨allLen_cons.2 ⟨rfl, allLen_nil _⟩, by omega⟩, ⟨by omega, hg⟩, by simp only [List.length_append]; omega, by omega, ?_⟩
      simp only [hdBlk, intC, List.map_append, List.map_cons, List.map_nil] at k3 ⊢
      exact k3
    · have h2' : ¬ i < gs.length := by omega
      obtain ⟨k1, k2, k3⟩ := key (i : Int) (by unfold Lx.gapF; rw [if_neg h2']) (by omega)
      refine ⟨by omega, k1, by omega, ⟨allLen_cons.2 ⟨rfl, allLen_nil _⟩, by omega⟩, ⟨by omega, hg⟩, by simp only [List.length_append]; omega, by omega, ?_⟩
      simp only [hdBlk, intC, List.map_append, List.map_cons, List.map_nil] at k3 ⊢
      exact k3
/-- LexBlanks RETURNS true. -/
theorem blanks_ok (s : List UInt8) (gs : List Int) (hs0 : s.length ≤ 281474976710656) (hg0 : gs.length ≤ 281474976710656) (hgs : ∀ n ∈ gs, -9223372036854775808 ≤ n ∧ n ≤ 9223372036854775807) :
    FnOK Tryd.prog 5 [.str s, .slice (intC .i64 gs) []] (.bool true) := by
  refine FnOK.tree hdraw fp5 (ctr_ok lawP_ok qnone_ok) (PBlk_eq s gs) ?_
  unfold PBlk
  simp only [ok_br, ok_owe, ok_ret, ok_jmp, decide_eq_true_eq, decide_eq_false_iff_not, Int.toNat_natCast, true_and, and_true, Bool.not_eq_true', Bool.not_eq_false', List.drop_zero, List.take_length, D.bool.injEq, D.int.injEq, D.str.injEq, true_implies, Int.le_refl, List.length_map]
  refine ⟨fun _ => trivial, fun he => ⟨fun _ => trivial, fun h300 => ⟨fun _ => trivial, fun h1 => ?_⟩⟩⟩
  have hs : s.length ≤ 4000 := by omega
  have es : Lx.lexR s = Lx.ans (Lx.run 0 s) := by rw [Lx.lexR_eq, if_neg (by omega)]
  have ts := Lx.run_toks _ s 0 (Nat.lt_succ_self _)
  have ers := Lx.run_err _ s 0 (Nat.lt_succ_self _)
  have hv := Lx.run_val _ s 0 (Nat.lt_succ_self _)
  rw [es] at he h300 ⊢
  rcases hS : Lx.run 0 s with ⟨l, o, p⟩
  rw [hS] at ts ers hv he h300
  cases o with
  | some x =>
    obtain ⟨x, e⟩ := x
    exact absurd he (ers x e rfl).1
  | none =>
    simp only [Lx.ans] at h300 ⊢
    have hb := Lx.run_tailB gs l 0 0 hv
    have hfe := Lx.finB_eq gs l 0 [] []
    simp only [List.nil_append, List.length_nil] at hfe
    refine blk_at gs l hgs (by omega) (fun t ht => by have := ts.2 t ht; omega) (fun S OF hSO h0 => ?_) (fun S OF hSO h0 => ?_) _ 0 [] [] rfl (Nat.zero_le _) rfl (by simp) (by rw [List.drop_zero])
    · rw [← hSO] at hfe
      simp only at hfe
      rw [hfe.1] at h0 ⊢
      rw [Lx.lexR_eq] at h0 ⊢
      split at h0
      · cases h0
      · rename_i hlen
        rw [if_neg hlen]
        rcases hB : Lx.run 0 (Lx.tailB gs 0 l) with ⟨k, o2, p2⟩
        rw [hB] at hb
        obtain ⟨hb1, hb2, hb3⟩ := hb
        simp only at hb1 hb2 hb3
        subst hb1
        exact ⟨hb2, by rw [hfe.2]; exact hb3⟩
    · rw [← hSO] at hfe
      simp only at hfe
      rw [hfe.1] at h0
      rw [Lx.lexR_eq] at h0
      split at h0
      · rename_i hlen
        have := congrArg List.length hfe.1
        simp only [List.length_append] at this
        have h10 : Lx.theEnd.length = 10 := rfl
        omega
      · rcases hB : Lx.run 0 (Lx.tailB gs 0 l) with ⟨k, o2, p2⟩
        rw [hB] at hb h0
        obtain ⟨hb1, _, _⟩ := hb
        simp only at hb1
        subst hb1
        exact absurd rfl h0
end Go.Proofs.YtdkbjkccpnhjgaaDoor
