/- LexSmall: it returns true. -/
import Derived.Test.YtdkbjkccpnhjgaaGreatDoorRefT
set_option linter.unusedSectionVars false
set_option linter.unusedVariables false
set_option linter.unusedSimpArgs false
set_option linter.deprecated false
set_option maxRecDepth 100000
namespace Go.Proofs.YtdkbjkccpnhjgaaGreatDoor
open Go.Sx
noncomputable def PSp (n : Int) : Go.Sx.Tr := Tr.owe ((0 : Int) ≤ n ∧ n * (1 : Int) ≤ (281474976710656 : Int) ∧ n ≤ (1073741824 : Int)) (Tr.jmp (cut sc8 (0 : Nat)) { tm := [((0 : Nat), D.int IntKind.i64 n), ((3 : Nat), D.vec (0 : Nat)), ((4 : Nat), D.int IntKind.i64 (0 : Int))], ob := [((0 : Nat), Ob.arr false (1 : Nat) (5 : TypeId) (List.replicate (Int.toNat n) [D.int IntKind.u8 (0 : Int)]))] })
theorem PSp_eq (n : Int) : goT Tryz.prog (ctr libT) (0 : Nat) (finF true (0 : Nat) rs8) (2000 : Nat) [Fr.sc sc8] { tm := envOf (0 : Nat) [D.int IntKind.i64 n], ob := [] } = PSp n := by kernel_rfl
def hdSp (n : Int) (es : List (List D)) (i : Int) : St := ⟨[(0, .int .i64 n), (3, .vec 0), (4, .int .i64 i)], [(0, .arr false 1 5 es)]⟩
noncomputable def PSp2 (n : Int) (es : List (List D)) (i : Int) : Go.Sx.Tr := brT (decide (i < n)) (Tr.owe ((0 : Int) ≤ i ∧ i < (↑(List.length es) : Int)) (Tr.owe (Int.toNat i < List.length es) (Tr.owe ((-9223372036854775808 : Int) ≤ i + (1 : Int) ∧ i + (1 : Int) ≤ (9223372036854775807 : Int)) (Tr.jmp (cut sc8 (0 : Nat)) { tm := [((0 : Nat), D.int IntKind.i64 n), ((3 : Nat), D.vec (0 : Nat)), ((4 : Nat), D.int IntKind.i64 (i + (1 : Int)))], ob := [((0 : Nat), Ob.arr false (1 : Nat) (5 : TypeId) (List.set es (Int.toNat i) [D.int IntKind.u8 (32 : Int)]))] })))) (Tr.owe (es = byC (bytesD es)) (Tr.ret (D.str (bytesD es)) []))
theorem PSp2_eq (n : Int) (es : List (List D)) (i : Int) : goT Tryz.prog (ctr libT) (0 : Nat) (finF true (0 : Nat) rs8) (2000 : Nat) (cut sc8 (0 : Nat)) (hdSp n es i) = PSp2 n es i := by kernel_rfl
theorem byC_rep (n : Nat) : (List.replicate n [D.int .u8 32]) = byC (bytesD (List.replicate n [D.int .u8 32])) := by
  unfold byC bytesD
  rw [List.map_replicate, List.map_replicate]; rfl
theorem bytesD_rep (n : Nat) : bytesD (List.replicate n [D.int .u8 32]) = List.replicate n 32 := by
  unfold bytesD; rw [List.map_replicate]; rfl
theorem byC_rep0 (n : Nat) : (List.replicate n [D.int .u8 0]) = byC (bytesD (List.replicate n [D.int .u8 0])) := by
  unfold byC bytesD
  rw [List.map_replicate, List.map_replicate]; rfl
theorem rep_set {α : Type} (a b : α) (i k : Nat) : (List.replicate i a ++ List.replicate (k + 1) b).set i a = List.replicate (i + 1) a ++ List.replicate k b := by
  refine List.ext_getElem? fun p => ?_
  rw [List.getElem?_set]
  simp only [List.length_append, List.length_replicate, List.getElem?_append, List.getElem?_replicate]
  repeat' split
  all_goals first | rfl | omega
theorem sp_at (n : Nat) (hn : n ≤ 1000000) : ∀ (m i : Nat), n - i = m → i ≤ n →
    At Tryz.prog 0 (cut sc8 0) (hdSp n (List.replicate i [.int .u8 32] ++ List.replicate (n - i) [.int .u8 0]) i) (FinQ true 0 rs8 fun r _ => r = .str (List.replicate n 32)) := by
  intro m
  induction m with
  | zero =>
    intro i hm hi
    refine At.tree (ctr_ok libT_ok qnone_ok) (PSp2_eq n _ i) ?_
    unfold PSp2
    have hin : i = n := by omega
    subst hin
    rw [hm, List.replicate_zero, List.append_nil]
    simp only [ok_br, ok_owe, ok_ret, ok_jmp, decide_eq_true_eq, decide_eq_false_iff_not, Int.toNat_natCast, true_and, and_true, Bool.not_eq_true', Bool.not_eq_false', List.drop_zero, List.take_length, D.bool.injEq, D.int.injEq, D.str.injEq, true_implies, Int.le_refl, bytesD_rep]
    refine ⟨fun h => by omega, fun _ => ?_⟩
    have := byC_rep i
    rw [bytesD_rep] at this
    first | exact this | exact ⟨this, trivial⟩
  | succ m ih =>
    intro i hm hi
    refine At.tree (ctr_ok libT_ok qnone_ok) (PSp2_eq n _ i) ?_
    unfold PSp2
    have e : n - i = (n - (i + 1)) + 1 := by omega
    rw [e]
    simp only [ok_br, ok_owe, ok_ret, ok_jmp, decide_eq_true_eq, decide_eq_false_iff_not, Int.toNat_natCast, true_and, and_true, Bool.not_eq_true', Bool.not_eq_false', List.drop_zero, List.take_length, D.bool.injEq, D.int.injEq, D.str.injEq, true_implies, Int.le_refl, rep_set, List.length_append, List.length_replicate]
    refine ⟨fun _ => ⟨by omega, by omega, by omega, ?_⟩, fun h => by omega⟩
    exact ih (i + 1) (by omega) (by omega)
theorem sp_ok (n : Nat) (hn : n ≤ 1000000) : FnOK Tryz.prog 8 [.int .i64 n] (.str (List.replicate n 32)) := by
  refine FnOK.tree hdraw fp8 (ctr_ok libT_ok qnone_ok) (PSp_eq n) ?_
  unfold PSp
  have := sp_at n hn _ 0 rfl (Nat.zero_le _)
  rw [List.replicate_zero, List.nil_append, Nat.sub_zero] at this
  simp only [ok_br, ok_owe, ok_ret, ok_jmp, decide_eq_true_eq, decide_eq_false_iff_not, Int.toNat_natCast, true_and, and_true, Bool.not_eq_true', Bool.not_eq_false', List.drop_zero, List.take_length, D.bool.injEq, D.int.injEq, D.str.injEq, true_implies, Int.le_refl]
  exact ⟨by omega, this⟩
def smP : PT := fun f xs => if f = 8 then (match xs with
    | [.int .i64 n] => some (.ok (0 ≤ n ∧ n ≤ 1000000) (.str (List.replicate n.toNat 32)) [])
    | _ => none)
  else telP f xs
theorem smP_ok : smP.OK := by
  intro f xs rt h
  unfold smP at h
  split at h
  · rename_i hf; subst hf
    split at h
    · rename_i n
      cases h
      rintro ⟨h1, h2⟩
      have := sp_ok n.toNat (by omega)
      rwa [Int.toNat_of_nonneg h1] at this
    · cases h
  · exact telP_ok _ _ _ h
def smSigns : List UInt8 := [58, 45, 126, 46, 44, 59, 61, 33, 60, 62, 95, 97, 90, 48, 32, 10]
def smStarts : List (List UInt8) := [[], [58], [46, 46], [97, 46], [60, 61], [95], [48], [37, 32]]
noncomputable def PSa : Go.Sx.Tr := Tr.jmp (cut sc4 (0 : Nat)) { tm := [((1 : Nat), D.int IntKind.i64 (0 : Int))], ob := [] }
theorem PSa_eq : goT Tryz.prog (ctr smP) (0 : Nat) (finF true (0 : Nat) rs4) (2000 : Nat) [Fr.sc sc4] { tm := envOf (0 : Nat) [], ob := [] } = PSa := by kernel_rfl
def hs0 (i : Int) : St := ⟨[(1, .int .i64 i)], []⟩
noncomputable def PSa0 (i : Int) : Go.Sx.Tr := brT (decide (i < (256 : Int)))
  (Tr.owe
    ([[D.int IntKind.u8 (IntKind.wrap IntKind.u8 i)]] =
      [[D.int IntKind.u8
            (↑(UInt8.toNat
                  ((fun x =>
                      match x with
                      | [D.int k n] => UInt8.ofNat (Int.toNat n)
                      | x => (0 : UInt8))
                    [D.int IntKind.u8 (IntKind.wrap IntKind.u8 i)])) :
              Int)]])
    (Tr.owe True (Tr.owe ((2 : Nat) ≤ (4611686018427387904 : Nat)) (Tr.owe ((3 : Nat) ≤ (4611686018427387904 : Nat)) (Tr.owe True (Tr.owe ((2 : Nat) ≤ (4611686018427387904 : Nat)) (Tr.owe ((3 : Nat) ≤ (4611686018427387904 : Nat)) (Tr.owe True (Tr.owe ((2 : Nat) ≤ (4611686018427387904 : Nat)) (Tr.owe ((3 : Nat) ≤ (4611686018427387904 : Nat)) (Tr.owe True (Tr.owe ((2 : Nat) ≤ (4611686018427387904 : Nat)) (Tr.owe ((3 : Nat) ≤ (4611686018427387904 : Nat)) (Tr.owe True (Tr.owe ((2 : Nat) ≤ (4611686018427387904 : Nat)) (Tr.owe True (Tr.owe ((2 : Nat) ≤ (4611686018427387904 : Nat)) (Tr.owe True (Tr.owe ((2 : Nat) ≤ (4611686018427387904 : Nat)) (Tr.owe ((3 : Nat) ≤ (4611686018427387904 : Nat)) (Tr.owe True (Tr.owe ((2 : Nat) ≤ (4611686018427387904 : Nat)) (Tr.owe ((3 : Nat) ≤ (4611686018427387904 : Nat)) (Tr.owe True (Tr.owe ((-9223372036854775808 : Int) ≤ i + (1 : Int) ∧ i + (1 : Int) ≤ (9223372036854775807 : Int)) (Tr.jmp (cut sc4 (0 : Nat)) { tm := [((1 : Nat), D.int IntKind.i64 (i + (1 : Int)))], ob := [] }))))))))))))))))))))))))))
  (Tr.jmp (cut sc4 (1 : Nat)) { tm := [((3 : Nat), D.str [(58 : UInt8), (45 : UInt8), (126 : UInt8), (46 : UInt8), (44 : UInt8), (59 : UInt8), (61 : UInt8), (33 : UInt8), (60 : UInt8), (62 : UInt8), (95 : UInt8), (97 : UInt8), (90 : UInt8), (48 : UInt8), (32 : UInt8), (10 : UInt8)]), ((4 : Nat), D.vec (0 : Nat)), ((5 : Nat), D.int IntKind.i64 (0 : Int))], ob := [((0 : Nat), Ob.arr true (1 : Nat) (9 : TypeId) [[D.str []], [D.str [(58 : UInt8)]], [D.str [(46 : UInt8), (46 : UInt8)]], [D.str [(97 : UInt8), (46 : UInt8)]], [D.str [(60 : UInt8), (61 : UInt8)]], [D.str [(95 : UInt8)]], [D.str [(48 : UInt8)]], [D.str [(37 : UInt8), (32 : UInt8)]]])] })
theorem PSa0_eq (i : Int) : goT Tryz.prog (ctr smP) (0 : Nat) (finF true (0 : Nat) rs4) (2000 : Nat) (cut sc4 (0 : Nat)) (hs0 i) = PSa0 i := by kernel_rfl
def hs1 (i : Int) : St := ⟨[(3, .str smSigns), (4, .vec 0), (5, .int .i64 i)], [(0, .arr true 1 9 (strC smStarts))]⟩
noncomputable def PSa1 (i : Int) : Go.Sx.Tr := brT (decide (i < (4096 : Int))) (Tr.owe ((8 : Int) ≠ (0 : Int)) (Tr.owe ((0 : Int) ≤ Int.tmod i (8 : Int) ∧ [[D.str []], [D.str [(58 : UInt8)]], [D.str [(46 : UInt8), (46 : UInt8)]], [D.str [(97 : UInt8), (46 : UInt8)]], [D.str [(60 : UInt8), (61 : UInt8)]], [D.str [(95 : UInt8)]], [D.str [(48 : UInt8)]], [D.str [(37 : UInt8), (32 : UInt8)]]][Int.toNat (Int.tmod i (8 : Int))]? = some [D.str (List.getD [[], [(58 : UInt8)], [(46 : UInt8), (46 : UInt8)], [(97 : UInt8), (46 : UInt8)], [(60 : UInt8), (61 : UInt8)], [(95 : UInt8)], [(48 : UInt8)], [(37 : UInt8), (32 : UInt8)]] (Int.toNat (Int.tmod i (8 : Int))) [])]) (Tr.jmp (cut sc4 (2 : Nat)) { tm := [((3 : Nat), D.str [(58 : UInt8), (45 : UInt8), (126 : UInt8), (46 : UInt8), (44 : UInt8), (59 : UInt8), (61 : UInt8), (33 : UInt8), (60 : UInt8), (62 : UInt8), (95 : UInt8), (97 : UInt8), (90 : UInt8), (48 : UInt8), (32 : UInt8), (10 : UInt8)]), ((4 : Nat), D.vec (0 : Nat)), ((5 : Nat), D.int IntKind.i64 i), ((6 : Nat), D.str (List.getD [[], [(58 : UInt8)], [(46 : UInt8), (46 : UInt8)], [(97 : UInt8), (46 : UInt8)], [(60 : UInt8), (61 : UInt8)], [(95 : UInt8)], [(48 : UInt8)], [(37 : UInt8), (32 : UInt8)]] (Int.toNat (Int.tmod i (8 : Int))) [])), ((7 : Nat), D.int IntKind.i64 i), ((8 : Nat), D.int IntKind.i64 (0 : Int))], ob := [((0 : Nat), Ob.arr true (1 : Nat) (9 : TypeId) [[D.str []], [D.str [(58 : UInt8)]], [D.str [(46 : UInt8), (46 : UInt8)]], [D.str [(97 : UInt8), (46 : UInt8)]], [D.str [(60 : UInt8), (61 : UInt8)]], [D.str [(95 : UInt8)]], [D.str [(48 : UInt8)]], [D.str [(37 : UInt8), (32 : UInt8)]]])] }))) (Tr.jmp (cut sc4 (3 : Nat)) { tm := [((9 : Nat), D.vec (0 : Nat)), ((10 : Nat), D.int IntKind.i64 (30 : Int))], ob := [((0 : Nat), Ob.arr true (1 : Nat) (9 : TypeId) [[D.str [(35 : UInt8), (99 : UInt8), (111 : UInt8), (110 : UInt8), (115 : UInt8), (116 : UInt8)]], [D.str [(35 : UInt8), (115 : UInt8), (104 : UInt8), (111 : UInt8), (119 : UInt8)]], [D.str [(35 : UInt8), (109 : UInt8), (105 : UInt8), (110 : UInt8), (105 : UInt8), (109 : UInt8), (105 : UInt8), (122 : UInt8), (101 : UInt8)]], [D.str [(35 : UInt8), (99 : UInt8), (111 : UInt8), (117 : UInt8), (110 : UInt8), (116 : UInt8)]], [D.str [(35 : UInt8), (115 : UInt8), (117 : UInt8), (109 : UInt8)]], [D.str [(35 : UInt8)]], [D.str [(35 : UInt8), (115 : UInt8), (117 : UInt8), (109 : UInt8), (115 : UInt8)]], [D.str [(35 : UInt8), (115 : UInt8), (117 : UInt8)]], [D.str [(35 : UInt8), (115 : UInt8), (117 : UInt8), (109 : UInt8), (49 : UInt8)]], [D.str [(35 : UInt8), (95 : UInt8)]], [D.str [(110 : UInt8), (111 : UInt8), (116 : UInt8)]], [D.str [(110 : UInt8), (111 : UInt8), (116 : UInt8), (49 : UInt8)]], [D.str [(110 : UInt8), (79 : UInt8), (116 : UInt8)]], [D.str [(50 : UInt8), (49 : UInt8), (52 : UInt8), (55 : UInt8), (52 : UInt8), (56 : UInt8), (51 : UInt8), (54 : UInt8), (52 : UInt8), (55 : UInt8)]], [D.str [(50 : UInt8), (49 : UInt8), (52 : UInt8), (55 : UInt8), (52 : UInt8), (56 : UInt8), (51 : UInt8), (54 : UInt8), (52 : UInt8), (56 : UInt8)]], [D.str [(57 : UInt8), (57 : UInt8), (57 : UInt8), (57 : UInt8), (57 : UInt8), (57 : UInt8), (57 : UInt8), (57 : UInt8), (57 : UInt8), (57 : UInt8), (57 : UInt8), (57 : UInt8), (57 : UInt8), (57 : UInt8), (57 : UInt8), (57 : UInt8), (57 : UInt8), (57 : UInt8), (57 : UInt8), (57 : UInt8)]], [D.str [(48 : UInt8)]], [D.str [(48 : UInt8), (48 : UInt8)]], [D.str [(48 : UInt8), (49 : UInt8)]], [D.str [(49 : UInt8), (48 : UInt8)]], [D.str [(49 : UInt8), (97 : UInt8)]], [D.str [(92 : UInt8), (92 : UInt8)]], [D.str [(33 : UInt8)]], [D.str [(33 : UInt8), (32 : UInt8), (61 : UInt8)]], [D.str [(33 : UInt8), (61 : UInt8)]], [D.str [(60 : UInt8), (62 : UInt8)]], [D.str [(61 : UInt8), (60 : UInt8)]], [D.str [(58 : UInt8), (45 : UInt8), (45 : UInt8)]], [D.str [(46 : UInt8), (46 : UInt8), (46 : UInt8)]], [D.str [(46 : UInt8), (46 : UInt8), (46 : UInt8), (46 : UInt8)]], [D.str [(37 : UInt8)]], [D.str [(37 : UInt8), (97 : UInt8)]], [D.str [(37 : UInt8), (97 : UInt8), (10 : UInt8), (98 : UInt8)]], [D.str [(97 : UInt8), (37 : UInt8), (98 : UInt8), (13 : UInt8), (10 : UInt8), (99 : UInt8)]], [D.str [(124 : UInt8)]], [D.str [(64 : UInt8)]], [D.str [(91 : UInt8), (93 : UInt8), (40 : UInt8), (41 : UInt8), (123 : UInt8), (125 : UInt8)]]])] })
theorem PSa1_eq (i : Int) : goT Tryz.prog (ctr smP qnone fun x n => [D.str (List.getD smStarts (Int.toNat n) [])]) (0 : Nat) (finF true (0 : Nat) rs4) (2000 : Nat) (cut sc4 (1 : Nat)) (hs1 i) = PSa1 i := by kernel_rfl
def hs2 (n : Int) (s : List UInt8) (m k : Int) : St := ⟨[(3, .str smSigns), (4, .vec 0), (5, .int .i64 n), (6, .str s), (7, .int .i64 m), (8, .int .i64 k)], [(0, .arr true 1 9 (strC smStarts))]⟩
noncomputable def PSa2 (n : Int) (s : List UInt8) (m : Int) (k : Int) : Go.Sx.Tr := brT (decide (k < (3 : Int))) (Tr.owe ((16 : Int) ≠ (0 : Int)) (Tr.owe ((16 : Int) ≠ (0 : Int)) (Tr.owe ((-9223372036854775808 : Int) ≤ Int.tmod m (16 : Int) + (1 : Int) ∧ Int.tmod m (16 : Int) + (1 : Int) ≤ (9223372036854775807 : Int)) (Tr.owe ((0 : Int) ≤ Int.tmod m (16 : Int) ∧ Int.tmod m (16 : Int) ≤ Int.tmod m (16 : Int) + (1 : Int) ∧ Int.tmod m (16 : Int) + (1 : Int) ≤ (16 : Int)) (Tr.owe (List.length s + List.length (List.drop (Int.toNat (Int.tmod m (16 : Int))) (List.take (Int.toNat (Int.tmod m (16 : Int) + (1 : Int))) [(58 : UInt8), (45 : UInt8), (126 : UInt8), (46 : UInt8), (44 : UInt8), (59 : UInt8), (61 : UInt8), (33 : UInt8), (60 : UInt8), (62 : UInt8), (95 : UInt8), (97 : UInt8), (90 : UInt8), (48 : UInt8), (32 : UInt8), (10 : UInt8)])) ≤ (4611686018427387904 : Nat)) (Tr.owe ((16 : Int) ≠ (0 : Int)) (Tr.owe ((-9223372036854775808 : Int) ≤ Int.tdiv m (16 : Int) ∧ Int.tdiv m (16 : Int) ≤ (9223372036854775807 : Int)) (Tr.owe ((-9223372036854775808 : Int) ≤ k + (1 : Int) ∧ k + (1 : Int) ≤ (9223372036854775807 : Int)) (Tr.jmp (cut sc4 (2 : Nat)) { tm := [((3 : Nat), D.str [(58 : UInt8), (45 : UInt8), (126 : UInt8), (46 : UInt8), (44 : UInt8), (59 : UInt8), (61 : UInt8), (33 : UInt8), (60 : UInt8), (62 : UInt8), (95 : UInt8), (97 : UInt8), (90 : UInt8), (48 : UInt8), (32 : UInt8), (10 : UInt8)]), ((4 : Nat), D.vec (0 : Nat)), ((5 : Nat), D.int IntKind.i64 n), ((6 : Nat), D.str (s ++ List.drop (Int.toNat (Int.tmod m (16 : Int))) (List.take (Int.toNat (Int.tmod m (16 : Int) + (1 : Int))) [(58 : UInt8), (45 : UInt8), (126 : UInt8), (46 : UInt8), (44 : UInt8), (59 : UInt8), (61 : UInt8), (33 : UInt8), (60 : UInt8), (62 : UInt8), (95 : UInt8), (97 : UInt8), (90 : UInt8), (48 : UInt8), (32 : UInt8), (10 : UInt8)]))), ((7 : Nat), D.int IntKind.i64 (Int.tdiv m (16 : Int))), ((8 : Nat), D.int IntKind.i64 (k + (1 : Int)))], ob := [((0 : Nat), Ob.arr true (1 : Nat) (9 : TypeId) [[D.str []], [D.str [(58 : UInt8)]], [D.str [(46 : UInt8), (46 : UInt8)]], [D.str [(97 : UInt8), (46 : UInt8)]], [D.str [(60 : UInt8), (61 : UInt8)]], [D.str [(95 : UInt8)]], [D.str [(48 : UInt8)]], [D.str [(37 : UInt8), (32 : UInt8)]]])] }))))))))) (Tr.owe True (Tr.owe ((-9223372036854775808 : Int) ≤ n + (1 : Int) ∧ n + (1 : Int) ≤ (9223372036854775807 : Int)) (Tr.jmp (cut sc4 (1 : Nat)) { tm := [((3 : Nat), D.str [(58 : UInt8), (45 : UInt8), (126 : UInt8), (46 : UInt8), (44 : UInt8), (59 : UInt8), (61 : UInt8), (33 : UInt8), (60 : UInt8), (62 : UInt8), (95 : UInt8), (97 : UInt8), (90 : UInt8), (48 : UInt8), (32 : UInt8), (10 : UInt8)]), ((4 : Nat), D.vec (0 : Nat)), ((5 : Nat), D.int IntKind.i64 (n + (1 : Int)))], ob := [((0 : Nat), Ob.arr true (1 : Nat) (9 : TypeId) [[D.str []], [D.str [(58 : UInt8)]], [D.str [(46 : UInt8), (46 : UInt8)]], [D.str [(97 : UInt8), (46 : UInt8)]], [D.str [(60 : UInt8), (61 : UInt8)]], [D.str [(95 : UInt8)]], [D.str [(48 : UInt8)]], [D.str [(37 : UInt8), (32 : UInt8)]]])] })))
theorem PSa2_eq (n : Int) (s : List UInt8) (m : Int) (k : Int) : goT Tryz.prog (ctr smP) (0 : Nat) (finF true (0 : Nat) rs4) (2000 : Nat) (cut sc4 (2 : Nat)) (hs2 n s m k) = PSa2 n s m k := by kernel_rfl
def hs3 (ws : List (List UInt8)) (n : Int) : St := ⟨[(9, .vec 0), (10, .int .i64 n)], [(0, .arr true 1 9 (strC ws))]⟩
noncomputable def PSa3 (ws : List (List UInt8)) (n : Int) : Go.Sx.Tr := brT (decide (n < (35 : Int))) (Tr.owe ((0 : Int) ≤ n ∧ n * (1 : Int) ≤ (281474976710656 : Int) ∧ n ≤ (1073741824 : Int)) (Tr.owe (List.replicate (Int.toNat n) [D.int IntKind.u8 (0 : Int)] = byC (bytesD (List.replicate (Int.toNat n) [D.int IntKind.u8 (0 : Int)]))) (Tr.jmp (cut sc4 (4 : Nat)) { tm := [((9 : Nat), D.vec (0 : Nat)), ((10 : Nat), D.int IntKind.i64 n), ((11 : Nat), D.str (bytesD (List.replicate (Int.toNat n) [D.int IntKind.u8 (0 : Int)]))), ((12 : Nat), D.str []), ((13 : Nat), D.int IntKind.i64 (0 : Int))], ob := [((0 : Nat), Ob.arr true (1 : Nat) (9 : TypeId) (strC ws))] }))) (Tr.jmp (cut sc4 (5 : Nat)) { tm := [((9 : Nat), D.vec (0 : Nat)), ((14 : Nat), D.int IntKind.i64 (0 : Int))], ob := [((0 : Nat), Ob.arr true (1 : Nat) (9 : TypeId) (strC ws))] })
theorem PSa3_eq (ws : List (List UInt8)) (n : Int) : goT Tryz.prog (ctr smP) (0 : Nat) (finF true (0 : Nat) rs4) (2000 : Nat) (cut sc4 (3 : Nat)) (hs3 ws n) = PSa3 ws n := by kernel_rfl
def hs4 (ws : List (List UInt8)) (n : Int) (t w : List UInt8) (k : Int) : St := ⟨[(9, .vec 0), (10, .int .i64 n), (11, .str t), (12, .str w), (13, .int .i64 k)], [(0, .arr true 1 9 (strC ws))]⟩
noncomputable def PSa4 (ws : List (List UInt8)) (n : Int) (t : List UInt8) (w : List UInt8) (k : Int) : Go.Sx.Tr := brT (decide (k < (↑(List.length t) : Int))) (Tr.owe (List.length w + (1 : Nat) ≤ (4611686018427387904 : Nat)) (Tr.owe ((-9223372036854775808 : Int) ≤ k + (1 : Int) ∧ k + (1 : Int) ≤ (9223372036854775807 : Int)) (Tr.jmp (cut sc4 (4 : Nat)) { tm := [((9 : Nat), D.vec (0 : Nat)), ((10 : Nat), D.int IntKind.i64 n), ((11 : Nat), D.str t), ((12 : Nat), D.str (w ++ [(97 : UInt8)])), ((13 : Nat), D.int IntKind.i64 (k + (1 : Int)))], ob := [((0 : Nat), Ob.arr true (1 : Nat) (9 : TypeId) (strC ws))] }))) (Tr.owe ((1 : Nat) + List.length w ≤ (4611686018427387904 : Nat)) (Tr.owe ((1 : Nat) + List.length w ≤ (4611686018427387904 : Nat)) (Tr.owe (allLen (1 : Nat) [[D.str w], [D.str ([(90 : UInt8)] ++ w)], [D.str ([(95 : UInt8)] ++ w)]] ∧ List.length (strC ws) + (3 : Nat) ≤ (1073741824 : Nat)) (Tr.owe ((-9223372036854775808 : Int) ≤ n + (1 : Int) ∧ n + (1 : Int) ≤ (9223372036854775807 : Int)) (Tr.jmp (cut sc4 (3 : Nat)) { tm := [((9 : Nat), D.vec (0 : Nat)), ((10 : Nat), D.int IntKind.i64 (n + (1 : Int)))], ob := [((0 : Nat), Ob.arr true (1 : Nat) (9 : TypeId) (strC ws ++ [[D.str w], [D.str ([(90 : UInt8)] ++ w)], [D.str ([(95 : UInt8)] ++ w)]]))] })))))
theorem PSa4_eq (ws : List (List UInt8)) (n : Int) (t : List UInt8) (w : List UInt8) (k : Int) : goT Tryz.prog (ctr smP) (0 : Nat) (finF true (0 : Nat) rs4) (2000 : Nat) (cut sc4 (4 : Nat)) (hs4 ws n t w k) = PSa4 ws n t w k := by kernel_rfl
def hs5 (ws : List (List UInt8)) (i : Int) : St := ⟨[(9, .vec 0), (14, .int .i64 i)], [(0, .arr true 1 9 (strC ws))]⟩
noncomputable def PSa5 (ws : List (List UInt8)) (i : Int) : Go.Sx.Tr := brT (decide (i < (↑(List.length (strC ws)) : Int))) (Tr.jmp (cut sc4 (6 : Nat)) { tm := [((9 : Nat), D.vec (0 : Nat)), ((14 : Nat), D.int IntKind.i64 i), ((15 : Nat), D.int IntKind.i64 (0 : Int))], ob := [((0 : Nat), Ob.arr true (1 : Nat) (9 : TypeId) (strC ws))] }) (Tr.jmp (cut sc4 (7 : Nat)) { tm := [((16 : Nat), D.int IntKind.i64 (32767 : Int))], ob := [] })
theorem PSa5_eq (ws : List (List UInt8)) (i : Int) : goT Tryz.prog (ctr smP) (0 : Nat) (finF true (0 : Nat) rs4) (2000 : Nat) (cut sc4 (5 : Nat)) (hs5 ws i) = PSa5 ws i := by kernel_rfl
def hs6 (ws : List (List UInt8)) (i k : Int) : St := ⟨[(9, .vec 0), (14, .int .i64 i), (15, .int .i64 k)], [(0, .arr true 1 9 (strC ws))]⟩
noncomputable def PSa6 (ws : List (List UInt8)) (i : Int) (k : Int) : Go.Sx.Tr := brT (decide (k < (↑(List.length (strC ws)) : Int))) (Tr.owe ((0 : Int) ≤ i ∧ (strC ws)[Int.toNat i]? = some [D.str (List.getD ws (Int.toNat i) [])]) (Tr.owe ((0 : Int) ≤ k ∧ (strC ws)[Int.toNat k]? = some [D.str (List.getD ws (Int.toNat k) [])]) (Tr.owe (List.length (List.getD ws (Int.toNat i) []) + List.length (List.getD ws (Int.toNat k) []) ≤ (4611686018427387904 : Nat)) (Tr.owe True (Tr.owe ((0 : Int) ≤ i ∧ (strC ws)[Int.toNat i]? = some [D.str (List.getD ws (Int.toNat i) [])]) (Tr.owe (List.length (List.getD ws (Int.toNat i) []) + (1 : Nat) ≤ (4611686018427387904 : Nat)) (Tr.owe ((0 : Int) ≤ k ∧ (strC ws)[Int.toNat k]? = some [D.str (List.getD ws (Int.toNat k) [])]) (Tr.owe (List.length (List.getD ws (Int.toNat i) [] ++ [(32 : UInt8)]) + List.length (List.getD ws (Int.toNat k) []) ≤ (4611686018427387904 : Nat)) (Tr.owe True (Tr.owe ((-9223372036854775808 : Int) ≤ k + (1 : Int) ∧ k + (1 : Int) ≤ (9223372036854775807 : Int)) (Tr.jmp (cut sc4 (6 : Nat)) { tm := [((9 : Nat), D.vec (0 : Nat)), ((14 : Nat), D.int IntKind.i64 i), ((15 : Nat), D.int IntKind.i64 (k + (1 : Int)))], ob := [((0 : Nat), Ob.arr true (1 : Nat) (9 : TypeId) (strC ws))] }))))))))))) (Tr.owe ((-9223372036854775808 : Int) ≤ i + (1 : Int) ∧ i + (1 : Int) ≤ (9223372036854775807 : Int)) (Tr.jmp (cut sc4 (5 : Nat)) { tm := [((9 : Nat), D.vec (0 : Nat)), ((14 : Nat), D.int IntKind.i64 (i + (1 : Int)))], ob := [((0 : Nat), Ob.arr true (1 : Nat) (9 : TypeId) (strC ws))] }))
theorem PSa6_eq (ws : List (List UInt8)) (i : Int) (k : Int) : goT Tryz.prog (ctr smP qnone fun x n => [D.str (List.getD ws (Int.toNat n) [])]) (0 : Nat) (finF true (0 : Nat) rs4) (2000 : Nat) (cut sc4 (6 : Nat)) (hs6 ws i k) = PSa6 ws i k := by kernel_rfl
def hs7 (n : Int) : St := ⟨[(16, .int .i64 n)], []⟩
noncomputable def PSa7 (n : Int) : Go.Sx.Tr := brT (decide (n < (32770 : Int))) (Tr.owe ((-9223372036854775808 : Int) ≤ n - (1 : Int) ∧ n - (1 : Int) ≤ (9223372036854775807 : Int)) (Tr.owe ((0 : Int) ≤ n - (1 : Int) ∧ n - (1 : Int) ≤ (1000000 : Int)) (Tr.owe (List.length (List.replicate (Int.toNat (n - (1 : Int))) (32 : UInt8)) + (1 : Nat) ≤ (4611686018427387904 : Nat)) (Tr.owe True (Tr.owe ((-9223372036854775808 : Int) ≤ n - (1 : Int) ∧ n - (1 : Int) ≤ (9223372036854775807 : Int)) (Tr.owe ((0 : Int) ≤ n - (1 : Int) ∧ n - (1 : Int) ≤ (1000000 : Int)) (Tr.owe (List.length (List.replicate (Int.toNat (n - (1 : Int))) (32 : UInt8)) + (1 : Nat) ≤ (4611686018427387904 : Nat)) (Tr.owe True (Tr.owe ((-9223372036854775808 : Int) ≤ n + (1 : Int) ∧ n + (1 : Int) ≤ (9223372036854775807 : Int)) (Tr.jmp (cut sc4 (7 : Nat)) { tm := [((16 : Nat), D.int IntKind.i64 (n + (1 : Int)))], ob := [] })))))))))) (Tr.owe True (Tr.ret (D.bool true) []))
theorem PSa7_eq (n : Int) : goT Tryz.prog (ctr smP) (0 : Nat) (finF true (0 : Nat) rs4) (2000 : Nat) (cut sc4 (7 : Nat)) (hs7 n) = PSa7 n := by kernel_rfl
def smWords : List (List UInt8) := [[35, 99, 111, 110, 115, 116], [35, 115, 104, 111, 119], [35, 109, 105, 110, 105, 109, 105, 122, 101], [35, 99, 111, 117, 110, 116], [35, 115, 117, 109], [35], [35, 115, 117, 109, 115], [35, 115, 117], [35, 115, 117, 109, 49], [35, 95], [110, 111, 116], [110, 111, 116, 49], [110, 79, 116], [50, 49, 52, 55, 52, 56, 51, 54, 52, 55], [50, 49, 52, 55, 52, 56, 51, 54, 52, 56], [57, 57, 57, 57, 57, 57, 57, 57, 57, 57, 57, 57, 57, 57, 57, 57, 57, 57, 57, 57], [48], [48, 48], [48, 49], [49, 48], [49, 97], [92, 92], [33], [33, 32, 61], [33, 61], [60, 62], [61, 60], [58, 45, 45], [46, 46, 46], [46, 46, 46, 46], [37], [37, 97], [37, 97, 10, 98], [97, 37, 98, 13, 10, 99], [124], [64], [91, 93, 40, 41, 123, 125]]
abbrev SmAt (n : Nat) (s : St) : Prop := At Tryz.prog 0 (cut sc4 n) s (FinQ true 0 rs4 fun r _ => r = .bool true)
theorem getD_len {ws : List (List UInt8)} {B : Nat} (h : ∀ t ∈ ws, t.length ≤ B) (i : Nat) : (ws.getD i []).length ≤ B := by
  rw [List.getD_eq_getElem?_getD]
  cases hi : ws[i]? with
  | none => simp
  | some t => exact h t (List.mem_of_getElem? hi)
theorem sm7 : ∀ (m n : Nat), 32770 - n = m → 0 < n → n ≤ 32770 → SmAt 7 (hs7 n) := by
  intro m
  induction m with
  | zero =>
    intro n hm h0 hn
    refine At.tree (ctr_ok smP_ok qnone_ok) (PSa7_eq n) ?_
    unfold PSa7
    simp only [ok_br, ok_owe, ok_ret, ok_jmp, decide_eq_true_eq, decide_eq_false_iff_not, Int.toNat_natCast, true_and, and_true, Bool.not_eq_true', Bool.not_eq_false', List.drop_zero, List.take_length, D.bool.injEq, D.int.injEq, D.str.injEq, true_implies, Int.le_refl]
    exact ⟨fun h => by omega, fun _ => trivial⟩
  | succ m ih =>
    intro n hm h0 hn
    refine At.tree (ctr_ok smP_ok qnone_ok) (PSa7_eq n) ?_
    unfold PSa7
    have hI := ih (n + 1) (by omega) (by omega) (by omega)
    simp only [ok_br, ok_owe, ok_ret, ok_jmp, decide_eq_true_eq, decide_eq_false_iff_not, Int.toNat_natCast, true_and, and_true, Bool.not_eq_true', Bool.not_eq_false', List.drop_zero, List.take_length, D.bool.injEq, D.int.injEq, D.str.injEq, true_implies, Int.le_refl, List.length_replicate]
    refine ⟨fun _ => ?_, fun h => by omega⟩
    and_intros
    all_goals first | omega | exact hI
theorem sm6 (ws : List (List UInt8)) (hw : ∀ t ∈ ws, t.length ≤ 1000) (hl : ws.length ≤ 1000) (i : Nat) (hi : i < ws.length) (H : SmAt 5 (hs5 ws ((i + 1 : Nat) : Int))) : ∀ (m k : Nat), ws.length - k = m → k ≤ ws.length → SmAt 6 (hs6 ws i k) := by
  intro m
  induction m with
  | zero =>
    intro k hm hk
    refine At.tree (ctr_ok smP_ok qnone_ok) (PSa6_eq ws i k) ?_
    unfold PSa6
    simp only [ok_br, ok_owe, ok_ret, ok_jmp, decide_eq_true_eq, decide_eq_false_iff_not, Int.toNat_natCast, true_and, and_true, Bool.not_eq_true', Bool.not_eq_false', List.drop_zero, List.take_length, D.bool.injEq, D.int.injEq, D.str.injEq, true_implies, Int.le_refl, strC_len]
    exact ⟨fun h => by omega, fun _ => ⟨by omega, H⟩⟩
  | succ m ih =>
    intro k hm hk
    refine At.tree (ctr_ok smP_ok qnone_ok) (PSa6_eq ws i k) ?_
    unfold PSa6
    have hI := ih (k + 1) (by omega) (by omega)
    have g1 := strC_get hi
    have g2 := strC_get (l := ws) (i := k) (by omega)
    have l1 := getD_len hw i
    have l2 := getD_len hw k
    simp only [ok_br, ok_owe, ok_ret, ok_jmp, decide_eq_true_eq, decide_eq_false_iff_not, Int.toNat_natCast, true_and, and_true, Bool.not_eq_true', Bool.not_eq_false', List.drop_zero, List.take_length, D.bool.injEq, D.int.injEq, D.str.injEq, true_implies, Int.le_refl, strC_len, List.length_append, List.length_singleton]
    refine ⟨fun _ => ?_, fun h => by omega⟩
    and_intros
    all_goals first | omega | exact g1 | exact g2 | exact hI
theorem sm5 (ws : List (List UInt8)) (hw : ∀ t ∈ ws, t.length ≤ 1000) (hl : ws.length ≤ 1000) : ∀ (m i : Nat), ws.length - i = m → i ≤ ws.length → SmAt 5 (hs5 ws i) := by
  intro m
  induction m with
  | zero =>
    intro i hm hi
    refine At.tree (ctr_ok smP_ok qnone_ok) (PSa5_eq ws i) ?_
    unfold PSa5
    simp only [ok_br, ok_owe, ok_ret, ok_jmp, decide_eq_true_eq, decide_eq_false_iff_not, Int.toNat_natCast, true_and, and_true, Bool.not_eq_true', Bool.not_eq_false', List.drop_zero, List.take_length, D.bool.injEq, D.int.injEq, D.str.injEq, true_implies, Int.le_refl, strC_len]
    exact ⟨fun h => by omega, fun _ => sm7 _ 32767 rfl (by omega) (by omega)⟩
  | succ m ih =>
    intro i hm hi
    refine At.tree (ctr_ok smP_ok qnone_ok) (PSa5_eq ws i) ?_
    unfold PSa5
    simp only [ok_br, ok_owe, ok_ret, ok_jmp, decide_eq_true_eq, decide_eq_false_iff_not, Int.toNat_natCast, true_and, and_true, Bool.not_eq_true', Bool.not_eq_false', List.drop_zero, List.take_length, D.bool.injEq, D.int.injEq, D.str.injEq, true_implies, Int.le_refl, strC_len]
    exact ⟨fun _ => sm6 ws hw hl i (by omega) (ih (i + 1) (by omega) (by omega)) _ 0 rfl (Nat.zero_le _), fun h => by omega⟩
theorem sm4 (ws : List (List UInt8)) (n : Nat) (hn : n ≤ 100) (t : List UInt8) (ht : t.length ≤ 100) (hl : ws.length ≤ 900) (H : ∀ w : List UInt8, w.length ≤ 100 → SmAt 3 (hs3 (ws ++ [w, [90] ++ w, [95] ++ w]) ((n + 1 : Nat) : Int))) :
    ∀ (m k : Nat) (w : List UInt8), t.length - k = m → k ≤ t.length → w.length ≤ k → SmAt 4 (hs4 ws n t w k) := by
  intro m
  induction m with
  | zero =>
    intro k w hm hk hw
    refine At.tree (ctr_ok smP_ok qnone_ok) (PSa4_eq ws n t w k) ?_
    unfold PSa4
    have hH := H w (by omega)
    have e : strC (ws ++ [w, [90] ++ w, [95] ++ w]) = strC ws ++ [[D.str w], [D.str ([90] ++ w)], [D.str ([95] ++ w)]] := by simp [strC]
    unfold hs3 at hH
    rw [e] at hH
    have hal : allLen 1 [[D.str w], [D.str ([90] ++ w)], [D.str ([95] ++ w)]] := allLen_cons.2 ⟨rfl, allLen_cons.2 ⟨rfl, allLen_cons.2 ⟨rfl, allLen_nil _⟩⟩⟩
    simp only [ok_br, ok_owe, ok_ret, ok_jmp, decide_eq_true_eq, decide_eq_false_iff_not, Int.toNat_natCast, true_and, and_true, Bool.not_eq_true', Bool.not_eq_false', List.drop_zero, List.take_length, D.bool.injEq, D.int.injEq, D.str.injEq, true_implies, Int.le_refl, strC_len]
    refine ⟨fun h => by omega, fun _ => ?_⟩
    and_intros
    all_goals first | omega | exact hal | exact hH
  | succ m ih =>
    intro k w hm hk hw
    refine At.tree (ctr_ok smP_ok qnone_ok) (PSa4_eq ws n t w k) ?_
    unfold PSa4
    have hI := ih (k + 1) (w ++ [97]) (by omega) (by omega) (by rw [List.length_append, List.length_singleton]; omega)
    simp only [ok_br, ok_owe, ok_ret, ok_jmp, decide_eq_true_eq, decide_eq_false_iff_not, Int.toNat_natCast, true_and, and_true, Bool.not_eq_true', Bool.not_eq_false', List.drop_zero, List.take_length, D.bool.injEq, D.int.injEq, D.str.injEq, true_implies, Int.le_refl]
    refine ⟨fun _ => ?_, fun h => by omega⟩
    and_intros
    all_goals first | omega | exact hI
theorem sm3 : ∀ (m n : Nat) (ws : List (List UInt8)), 35 - n = m → n ≤ 35 → (∀ t ∈ ws, t.length ≤ 1000) → ws.length + 3 * m ≤ 300 → SmAt 3 (hs3 ws n) := by
  intro m
  induction m with
  | zero =>
    intro n ws hm hn hw hl
    refine At.tree (ctr_ok smP_ok qnone_ok) (PSa3_eq ws n) ?_
    unfold PSa3
    simp only [ok_br, ok_owe, ok_ret, ok_jmp, decide_eq_true_eq, decide_eq_false_iff_not, Int.toNat_natCast, true_and, and_true, Bool.not_eq_true', Bool.not_eq_false', List.drop_zero, List.take_length, D.bool.injEq, D.int.injEq, D.str.injEq, true_implies, Int.le_refl]
    exact ⟨fun h => by omega, fun _ => sm5 ws hw (by omega) _ 0 rfl (Nat.zero_le _)⟩
  | succ m ih =>
    intro n ws hm hn hw hl
    refine At.tree (ctr_ok smP_ok qnone_ok) (PSa3_eq ws n) ?_
    unfold PSa3
    have hlen : (bytesD (List.replicate n [D.int .u8 0])).length ≤ 100 := by unfold bytesD; rw [List.length_map, List.length_replicate]; omega
    have hb := byC_rep0 n
    have hG := sm4 ws n (by omega) _ hlen (by omega) (fun w hw2 => ih (n + 1) _ (by omega) (by omega) (fun t ht => by
      rcases List.mem_append.1 ht with h | h
      · exact hw t h
      · simp only [List.mem_cons, List.not_mem_nil, or_false] at h
        rcases h with rfl | rfl | rfl <;> first | omega | (simp only [List.length_append, List.length_singleton]; omega)) (by simp only [List.length_append, List.length_cons, List.length_nil]; omega)) _ 0 [] rfl (Nat.zero_le _) (Nat.le_refl _)
    simp only [ok_br, ok_owe, ok_ret, ok_jmp, decide_eq_true_eq, decide_eq_false_iff_not, Int.toNat_natCast, true_and, and_true, Bool.not_eq_true', Bool.not_eq_false', List.drop_zero, List.take_length, D.bool.injEq, D.int.injEq, D.str.injEq, true_implies, Int.le_refl]
    refine ⟨fun _ => ?_, fun h => by omega⟩
    and_intros
    all_goals first | omega | exact hb | exact hG
theorem sm2 (n : Nat) (hn : n ≤ 4096) (H : SmAt 1 (hs1 ((n + 1 : Nat) : Int))) : ∀ (j k : Nat) (s : List UInt8) (m : Int), 3 - k = j → k ≤ 3 → s.length ≤ 100 + 20 * k → 0 ≤ m → m ≤ 5000 → SmAt 2 (hs2 n s m k) := by
  intro j
  induction j with
  | zero =>
    intro k s m hj hk hs h0 h1
    refine At.tree (ctr_ok smP_ok qnone_ok) (PSa2_eq n s m k) ?_
    unfold PSa2
    simp only [ok_br, ok_owe, ok_ret, ok_jmp, decide_eq_true_eq, decide_eq_false_iff_not, Int.toNat_natCast, true_and, and_true, Bool.not_eq_true', Bool.not_eq_false', List.drop_zero, List.take_length, D.bool.injEq, D.int.injEq, D.str.injEq, true_implies, Int.le_refl]
    refine ⟨fun h => by omega, fun _ => ?_⟩
    and_intros
    all_goals first | omega | exact H
  | succ j ih =>
    intro k s m hj hk hs h0 h1
    refine At.tree (ctr_ok smP_ok qnone_ok) (PSa2_eq n s m k) ?_
    unfold PSa2
    have em : m.tmod 16 = m % 16 := Int.tmod_eq_emod_of_nonneg h0
    have ed : m.tdiv 16 = m / 16 := Int.tdiv_eq_ediv_of_nonneg h0
    rw [em, ed]
    have hlt : (List.drop (m % 16).toNat (List.take (m % 16 + 1).toNat smSigns)).length ≤ 16 := by
      rw [List.length_drop, List.length_take]; exact Nat.le_trans (Nat.sub_le _ _) (Nat.min_le_right _ _)
    have hI := ih (k + 1) (s ++ List.drop (m % 16).toNat (List.take (m % 16 + 1).toNat smSigns)) (m / 16) (by omega) (by omega) (by rw [List.length_append]; omega) (by omega) (by omega)
    change (List.drop (m % 16).toNat (List.take (m % 16 + 1).toNat [58, 45, 126, 46, 44, 59, 61, 33, 60, 62, 95, 97, 90, 48, 32, 10])).length ≤ 16 at hlt
    simp only [ok_br, ok_owe, ok_ret, ok_jmp, decide_eq_true_eq, decide_eq_false_iff_not, Int.toNat_natCast, true_and, and_true, Bool.not_eq_true', Bool.not_eq_false', List.drop_zero, List.take_length, D.bool.injEq, D.int.injEq, D.str.injEq, true_implies, Int.le_refl]
    refine ⟨fun _ => ?_, fun h => by omega⟩
    and_intros
    all_goals first | omega | exact hI
theorem sm1 : ∀ (j n : Nat), 4096 - n = j → n ≤ 4096 → SmAt 1 (hs1 n) := by
  intro j
  induction j with
  | zero =>
    intro n hj hn
    refine At.tree (ctr_ok smP_ok qnone_ok) (PSa1_eq n) ?_
    unfold PSa1
    have hG := sm3 _ 30 smWords rfl (by omega) (by decide) (by decide)
    simp only [ok_br, ok_owe, ok_ret, ok_jmp, decide_eq_true_eq, decide_eq_false_iff_not, Int.toNat_natCast, true_and, and_true, Bool.not_eq_true', Bool.not_eq_false', List.drop_zero, List.take_length, D.bool.injEq, D.int.injEq, D.str.injEq, true_implies, Int.le_refl]
    exact ⟨fun h => by omega, fun _ => hG⟩
  | succ j ih =>
    intro n hj hn
    refine At.tree (ctr_ok smP_ok qnone_ok) (PSa1_eq n) ?_
    unfold PSa1
    have em : (n : Int).tmod 8 = ((n % 8 : Nat) : Int) := by rw [Int.tmod_eq_emod_of_nonneg (by omega)]; rfl
    have hg := strC_get (l := smStarts) (i := n % 8) (Nat.mod_lt _ (by decide))
    have hG := sm2 n hn (ih (n + 1) (by omega) (by omega)) _ 0 (smStarts.getD (n % 8) []) n rfl (by omega) (Nat.le_trans (getD_len (B := 2) (by decide) _) (by omega)) (by omega) (by omega)
    rw [em]
    simp only [ok_br, ok_owe, ok_ret, ok_jmp, decide_eq_true_eq, decide_eq_false_iff_not, Int.toNat_natCast, true_and, and_true, Bool.not_eq_true', Bool.not_eq_false', List.drop_zero, List.take_length, D.bool.injEq, D.int.injEq, D.str.injEq, true_implies, Int.le_refl]
    refine ⟨fun _ => ?_, fun h => by omega⟩
    and_intros
    all_goals first | omega | exact hg | exact hG
theorem sm0 : ∀ (j i : Nat), 256 - i = j → i ≤ 256 → SmAt 0 (hs0 i) := by
  intro j
  induction j with
  | zero =>
    intro i hj hi
    refine At.tree (ctr_ok smP_ok qnone_ok) (PSa0_eq i) ?_
    unfold PSa0
    have hG := sm1 _ 0 rfl (by omega)
    simp only [ok_br, ok_owe, ok_ret, ok_jmp, decide_eq_true_eq, decide_eq_false_iff_not, Int.toNat_natCast, true_and, and_true, Bool.not_eq_true', Bool.not_eq_false', List.drop_zero, List.take_length, D.bool.injEq, D.int.injEq, D.str.injEq, true_implies, Int.le_refl]
    exact ⟨fun h => by omega, fun _ => hG⟩
  | succ j ih =>
    intro i hj hi
    refine At.tree (ctr_ok smP_ok qnone_ok) (PSa0_eq i) ?_
    unfold PSa0
    have hI := ih (i + 1) (by omega) (by omega)
    have ew : IntKind.u8.wrap (i : Int) = i := by rw [IntKind.wrap_u8]; omega
    have eb : ((UInt8.ofNat (i : Int).toNat).toNat : Int) = i := by rw [Int.toNat_natCast, UInt8.toNat_ofNat_of_lt' (by show i < 256; omega)]
    have hb : [[D.int IntKind.u8 (IntKind.u8.wrap (i : Int))]] = [[D.int IntKind.u8 ((UInt8.ofNat (IntKind.u8.wrap (i : Int)).toNat).toNat : Int)]] := by rw [ew, eb]
    simp only [ok_br, ok_owe, ok_ret, ok_jmp, decide_eq_true_eq, decide_eq_false_iff_not]
    refine ⟨fun _ => ?_, fun h => by omega⟩
    and_intros
    all_goals first | exact hb | exact hI | omega | trivial
/-- LexSmall RETURNS true. -/
theorem small_ok : FnOK Tryz.prog 4 [] (.bool true) :=
  FnOK.tree hdraw fp4 (ctr_ok smP_ok qnone_ok) PSa_eq (sm0 _ 0 rfl (Nat.zero_le _))
end Go.Proofs.YtdkbjkccpnhjgaaGreatDoor
