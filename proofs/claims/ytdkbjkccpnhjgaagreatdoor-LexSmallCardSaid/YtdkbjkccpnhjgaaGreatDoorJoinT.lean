/- Join. -/
import Derived.Test.YtdkbjkccpnhjgaaGreatDoorAll
set_option linter.unusedSectionVars false
set_option linter.unusedVariables false
set_option linter.unusedSimpArgs false
set_option linter.deprecated false
set_option maxRecDepth 100000
namespace Go.Proofs.YtdkbjkccpnhjgaaGreatDoor
open Go.Sx
noncomputable def PJn (es : List (List D)) (ext : List (List D)) : Go.Sx.Tr := Tr.jmp (cut sc14 (0 : Nat)) { tm := [((3 : Nat), D.vec (0 : Nat)), ((6 : Nat), D.slice es ext), ((7 : Nat), D.int IntKind.i64 (↑(List.length es) : Int)), ((8 : Nat), D.int IntKind.i64 (0 : Int))], ob := [((0 : Nat), Ob.arr true (1 : Nat) (9 : TypeId) [])] }
theorem PJn_eq (es : List (List D)) (ext : List (List D)) : goT Tryz.prog (ctr libT) (0 : Nat) (finF true (0 : Nat) rs14) (2000 : Nat) [Fr.sc sc14] { tm := envOf (0 : Nat) [D.slice es ext], ob := [] } = PJn es ext := by kernel_rfl
def hdJn (es ext : List (List D)) (acc : List (List UInt8)) (i : Int) : St := ⟨[(3, .vec 0), (6, .slice es ext), (7, .int .i64 es.length), (8, .int .i64 i)], [(0, .arr true 1 9 (strC acc))]⟩
noncomputable def PJn2 (l : List Lx.Tk) (ext : List (List D)) (acc : List (List UInt8)) (i : Int) : Go.Sx.Tr := brT (decide (i < (↑(List.length (List.map Lx.tokC l)) : Int))) (Tr.owe ((0 : Int) ≤ i ∧ (List.map Lx.tokC l)[Int.toNat i]? = some [D.int IntKind.u8 (Prod.fst (List.getD l (Int.toNat i) ((0 : Int), [], (0 : Int)))), D.str (Prod.fst (Prod.snd (List.getD l (Int.toNat i) ((0 : Int), [], (0 : Int))))), D.int IntKind.i64 (Prod.snd (Prod.snd (List.getD l (Int.toNat i) ((0 : Int), [], (0 : Int)))))]) (Tr.owe (allLen (1 : Nat) [[D.str (Prod.fst (Prod.snd (List.getD l (Int.toNat i) ((0 : Int), [], (0 : Int)))))]] ∧ List.length (strC acc) + (1 : Nat) ≤ (1073741824 : Nat)) (Tr.owe ((-9223372036854775808 : Int) ≤ i + (1 : Int) ∧ i + (1 : Int) ≤ (9223372036854775807 : Int)) (Tr.jmp (cut sc14 (0 : Nat)) { tm := [((3 : Nat), D.vec (0 : Nat)), ((6 : Nat), D.slice (List.map Lx.tokC l) ext), ((7 : Nat), D.int IntKind.i64 (↑(List.length (List.map Lx.tokC l)) : Int)), ((8 : Nat), D.int IntKind.i64 (i + (1 : Int)))], ob := [((0 : Nat), Ob.arr true (1 : Nat) (9 : TypeId) (strC acc ++ [[D.str (Prod.fst (Prod.snd (List.getD l (Int.toNat i) ((0 : Int), [], (0 : Int)))))]]))] })))) (Tr.owe (strC acc = List.map (fun t => [D.str t]) (List.map deS (strC acc)) ∧ List.length (List.map deS (strC acc)) ≤ (140737488355328 : Nat) ∧ List.length (Lib.join (List.map deS (strC acc)) [(32 : UInt8)]) ≤ (140737488355328 : Nat)) (Tr.ret (D.str (Lib.join (List.map deS (strC acc)) [(32 : UInt8)])) []))
theorem PJn2_eq (l : List Lx.Tk) (ext : List (List D)) (acc : List (List UInt8)) (i : Int) : goT Tryz.prog (ctr libT qnone fun x n => Lx.tokC (List.getD l (Int.toNat n) default)) (0 : Nat) (finF true (0 : Nat) rs14) (2000 : Nat) (cut sc14 (0 : Nat)) (hdJn (List.map Lx.tokC l) ext acc i) = PJn2 l ext acc i := by kernel_rfl
/-- The texts of tokens. -/
def txs (l : List Lx.Tk) : List (List UInt8) := l.map (·.2.1)
theorem jn_at (l : List Lx.Tk) (ext : List (List D)) (hl : l.length ≤ 1073741824) (hj : (Lib.join (txs l) [32]).length ≤ 140737488355328) : ∀ (m i : Nat), l.length - i = m → i ≤ l.length →
    At Tryz.prog 0 (cut sc14 0) (hdJn (l.map Lx.tokC) ext (txs (l.take i)) i) (FinQ true 0 rs14 fun r _ => r = .str (Lib.join (txs l) [32])) := by
  intro m
  induction m with
  | zero =>
    intro i hm hi
    refine At.tree (ctr_ok libT_ok qnone_ok) (PJn2_eq l ext _ i) ?_
    unfold PJn2
    rw [List.take_of_length_le (by omega)]
    simp only [ok_br, ok_owe, ok_ret, ok_jmp, decide_eq_true_eq, decide_eq_false_iff_not, Int.toNat_natCast, true_and, and_true, Bool.not_eq_true', Bool.not_eq_false', List.drop_zero, List.take_length, D.bool.injEq, D.int.injEq, D.str.injEq, true_implies, Int.le_refl, List.length_map, map_deS]
    have hlt : (txs l).length = l.length := by simp [txs]
    exact ⟨fun h => by omega, fun _ => ⟨rfl, by omega, hj⟩⟩
  | succ m ih =>
    intro i hm hi
    have h1 : i < l.length := by omega
    refine At.tree (ctr_ok libT_ok qnone_ok) (PJn2_eq l ext _ i) ?_
    unfold PJn2
    simp only [ok_br, ok_owe, ok_ret, ok_jmp, decide_eq_true_eq, decide_eq_false_iff_not, Int.toNat_natCast, true_and, and_true, Bool.not_eq_true', Bool.not_eq_false', List.drop_zero, List.take_length, D.bool.injEq, D.int.injEq, D.str.injEq, true_implies, Int.le_refl, List.length_map, strC_len]
    have hlt : (txs (l.take i)).length ≤ i := by simp only [txs, List.length_map, List.length_take]; omega
    refine ⟨fun _ => ⟨⟨by omega, Lx.tokC_get h1⟩, ⟨allLen_cons.2 ⟨rfl, allLen_nil _⟩, by omega⟩, by omega, ?_⟩, fun h => by omega⟩
    have := ih (i + 1) (by omega) (by omega)
    have e : txs (l.take (i + 1)) = txs (l.take i) ++ [(l.getD i default).2.1] := by
      unfold txs
      rw [List.take_add_one, List.getElem?_eq_getElem h1, List.map_append, List.getD_eq_getElem?_getD, List.getElem?_eq_getElem h1]
      rfl
    rw [e] at this
    simp only [hdJn, strC, List.map_append, List.map_cons, List.map_nil, List.length_map] at this
    exact this
theorem join_ok (l : List Lx.Tk) (ext : List (List D)) (hl : l.length ≤ 1073741824) (hj : (Lib.join (txs l) [32]).length ≤ 140737488355328) : FnOK Tryz.prog 14 [.slice (l.map Lx.tokC) ext] (.str (Lib.join (txs l) [32])) :=
  FnOK.tree hdraw fp14 (ctr_ok libT_ok qnone_ok) (PJn_eq _ ext) (jn_at l ext hl hj _ 0 rfl (Nat.zero_le _))
end Go.Proofs.YtdkbjkccpnhjgaaGreatDoor
