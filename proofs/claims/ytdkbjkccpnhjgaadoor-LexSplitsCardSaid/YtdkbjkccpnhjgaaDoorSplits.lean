/- LexSplits: it returns true. -/
import Derived.Test.YtdkbjkccpnhjgaaDoorLawT
import Derived.Test.YtdkbjkccpnhjgaaDoorSx6
set_option linter.unusedSectionVars false
set_option linter.unusedVariables false
set_option linter.unusedSimpArgs false
set_option linter.deprecated false
set_option maxRecDepth 100000
namespace Go.Proofs.YtdkbjkccpnhjgaaDoor
open Go.Sx
noncomputable def PSpl (a : List UInt8) (b : List UInt8) : Go.Sx.Tr := Tr.owe True (brT (decide ((2000 : Int) < (↑(List.length a) : Int))) (Tr.ret (D.bool true) []) (brT (decide ((2000 : Int) < (↑(List.length b) : Int))) (Tr.ret (D.bool true) []) (Tr.owe True (Tr.owe True (Tr.owe (List.length a + (1 : Nat) ≤ (4611686018427387904 : Nat)) (Tr.owe (List.length (a ++ [(10 : UInt8)]) + List.length b ≤ (4611686018427387904 : Nat)) (Tr.owe True (brT (!decide (Prod.snd (Prod.snd (Lx.lexR a)) = (0 : Int))) (brT (decide (Prod.snd (Prod.snd (Lx.lexR (a ++ [(10 : UInt8)] ++ b))) = Prod.snd (Prod.snd (Lx.lexR a)))) (brT (decide (Prod.fst (Prod.snd (Lx.lexR (a ++ [(10 : UInt8)] ++ b))) = Prod.fst (Prod.snd (Lx.lexR a)))) (Tr.ret (D.bool (decide ((↑(List.length (List.map Lx.tokC (Prod.fst (Lx.lexR (a ++ [(10 : UInt8)] ++ b))))) : Int) = (0 : Int)))) []) (Tr.ret (D.bool false) [])) (Tr.ret (D.bool false) [])) (brT (!decide (Prod.snd (Prod.snd (Lx.lexR b)) = (0 : Int))) (brT (decide (Prod.snd (Prod.snd (Lx.lexR (a ++ [(10 : UInt8)] ++ b))) = Prod.snd (Prod.snd (Lx.lexR b)))) (Tr.owe ((-9223372036854775808 : Int) ≤ Prod.fst (Prod.snd (Lx.lexR b)) + (↑(List.length a) : Int) ∧ Prod.fst (Prod.snd (Lx.lexR b)) + (↑(List.length a) : Int) ≤ (9223372036854775807 : Int)) (Tr.owe ((-9223372036854775808 : Int) ≤ Prod.fst (Prod.snd (Lx.lexR b)) + (↑(List.length a) : Int) + (1 : Int) ∧ Prod.fst (Prod.snd (Lx.lexR b)) + (↑(List.length a) : Int) + (1 : Int) ≤ (9223372036854775807 : Int)) (brT (decide (Prod.fst (Prod.snd (Lx.lexR (a ++ [(10 : UInt8)] ++ b))) = Prod.fst (Prod.snd (Lx.lexR b)) + (↑(List.length a) : Int) + (1 : Int))) (Tr.ret (D.bool (decide ((↑(List.length (List.map Lx.tokC (Prod.fst (Lx.lexR (a ++ [(10 : UInt8)] ++ b))))) : Int) = (0 : Int)))) []) (Tr.ret (D.bool false) [])))) (Tr.ret (D.bool false) [])) (brT (!decide (Prod.snd (Prod.snd (Lx.lexR (a ++ [(10 : UInt8)] ++ b))) = (0 : Int))) (Tr.ret (D.bool false) []) (Tr.owe ((-9223372036854775808 : Int) ≤ (↑(List.length (List.map Lx.tokC (Prod.fst (Lx.lexR a)))) : Int) + (↑(List.length (List.map Lx.tokC (Prod.fst (Lx.lexR b)))) : Int) ∧ (↑(List.length (List.map Lx.tokC (Prod.fst (Lx.lexR a)))) : Int) + (↑(List.length (List.map Lx.tokC (Prod.fst (Lx.lexR b)))) : Int) ≤ (9223372036854775807 : Int)) (brT (!decide ((↑(List.length (List.map Lx.tokC (Prod.fst (Lx.lexR (a ++ [(10 : UInt8)] ++ b))))) : Int) = (↑(List.length (List.map Lx.tokC (Prod.fst (Lx.lexR a)))) : Int) + (↑(List.length (List.map Lx.tokC (Prod.fst (Lx.lexR b)))) : Int))) (Tr.ret (D.bool false) []) (Tr.owe (allLen (3 : Nat) (List.map Lx.tokC (Prod.fst (Lx.lexR (a ++ [(10 : UInt8)] ++ b))) ++ []) ∧ (0 : Int) ≤ (0 : Int) ∧ (0 : Int) ≤ (↑(List.length (List.map Lx.tokC (Prod.fst (Lx.lexR a)))) : Int) ∧ (↑(List.length (List.map Lx.tokC (Prod.fst (Lx.lexR a)))) : Int) ≤ (↑(List.length (List.map Lx.tokC (Prod.fst (Lx.lexR (a ++ [(10 : UInt8)] ++ b))) ++ [])) : Int)) (Tr.owe (List.drop (0 : Nat) (List.take (Int.toNat (↑(List.length (List.map Lx.tokC (Prod.fst (Lx.lexR a)))) : Int)) (List.map Lx.tokC (Prod.fst (Lx.lexR (a ++ [(10 : UInt8)] ++ b))) ++ [])) = List.map Lx.tokC (List.map Lx.deT (List.drop (0 : Nat) (List.take (Int.toNat (↑(List.length (List.map Lx.tokC (Prod.fst (Lx.lexR a)))) : Int)) (List.map Lx.tokC (Prod.fst (Lx.lexR (a ++ [(10 : UInt8)] ++ b))) ++ [])))) ∧ List.map Lx.tokC (Prod.fst (Lx.lexR a)) = List.map Lx.tokC (List.map Lx.deT (List.map Lx.tokC (Prod.fst (Lx.lexR a)))) ∧ List.length (List.drop (0 : Nat) (List.take (Int.toNat (↑(List.length (List.map Lx.tokC (Prod.fst (Lx.lexR a)))) : Int)) (List.map Lx.tokC (Prod.fst (Lx.lexR (a ++ [(10 : UInt8)] ++ b))) ++ []))) ≤ (4611686018427387904 : Nat)) (brT (!Lx.alikeB (List.map Lx.deT (List.drop (0 : Nat) (List.take (Int.toNat (↑(List.length (List.map Lx.tokC (Prod.fst (Lx.lexR a)))) : Int)) (List.map Lx.tokC (Prod.fst (Lx.lexR (a ++ [(10 : UInt8)] ++ b))) ++ [])))) (List.map Lx.deT (List.map Lx.tokC (Prod.fst (Lx.lexR a))))) (Tr.ret (D.bool false) []) (Tr.owe (allLen (3 : Nat) (List.map Lx.tokC (Prod.fst (Lx.lexR (a ++ [(10 : UInt8)] ++ b))) ++ []) ∧ (0 : Int) ≤ (↑(List.length (List.map Lx.tokC (Prod.fst (Lx.lexR a)))) : Int) ∧ (↑(List.length (List.map Lx.tokC (Prod.fst (Lx.lexR a)))) : Int) ≤ (↑(List.length (List.map Lx.tokC (Prod.fst (Lx.lexR (a ++ [(10 : UInt8)] ++ b))))) : Int) ∧ (↑(List.length (List.map Lx.tokC (Prod.fst (Lx.lexR (a ++ [(10 : UInt8)] ++ b))))) : Int) ≤ (↑(List.length (List.map Lx.tokC (Prod.fst (Lx.lexR (a ++ [(10 : UInt8)] ++ b))) ++ [])) : Int)) (Tr.owe (List.drop (Int.toNat (↑(List.length (List.map Lx.tokC (Prod.fst (Lx.lexR a)))) : Int)) (List.take (Int.toNat (↑(List.length (List.map Lx.tokC (Prod.fst (Lx.lexR (a ++ [(10 : UInt8)] ++ b))))) : Int)) (List.map Lx.tokC (Prod.fst (Lx.lexR (a ++ [(10 : UInt8)] ++ b))) ++ [])) = List.map Lx.tokC (List.map Lx.deT (List.drop (Int.toNat (↑(List.length (List.map Lx.tokC (Prod.fst (Lx.lexR a)))) : Int)) (List.take (Int.toNat (↑(List.length (List.map Lx.tokC (Prod.fst (Lx.lexR (a ++ [(10 : UInt8)] ++ b))))) : Int)) (List.map Lx.tokC (Prod.fst (Lx.lexR (a ++ [(10 : UInt8)] ++ b))) ++ [])))) ∧ List.map Lx.tokC (Prod.fst (Lx.lexR b)) = List.map Lx.tokC (List.map Lx.deT (List.map Lx.tokC (Prod.fst (Lx.lexR b)))) ∧ List.length (List.drop (Int.toNat (↑(List.length (List.map Lx.tokC (Prod.fst (Lx.lexR a)))) : Int)) (List.take (Int.toNat (↑(List.length (List.map Lx.tokC (Prod.fst (Lx.lexR (a ++ [(10 : UInt8)] ++ b))))) : Int)) (List.map Lx.tokC (Prod.fst (Lx.lexR (a ++ [(10 : UInt8)] ++ b))) ++ []))) ≤ (4611686018427387904 : Nat)) (brT (!Lx.alikeB (List.map Lx.deT (List.drop (Int.toNat (↑(List.length (List.map Lx.tokC (Prod.fst (Lx.lexR a)))) : Int)) (List.take (Int.toNat (↑(List.length (List.map Lx.tokC (Prod.fst (Lx.lexR (a ++ [(10 : UInt8)] ++ b))))) : Int)) (List.map Lx.tokC (Prod.fst (Lx.lexR (a ++ [(10 : UInt8)] ++ b))) ++ [])))) (List.map Lx.deT (List.map Lx.tokC (Prod.fst (Lx.lexR b))))) (Tr.ret (D.bool false) []) (Tr.jmp (cut sc6 (0 : Nat)) { tm := [((0 : Nat), D.str a), ((5 : Nat), D.slice (List.map Lx.tokC (Prod.fst (Lx.lexR a))) []), ((8 : Nat), D.slice (List.map Lx.tokC (Prod.fst (Lx.lexR b))) []), ((11 : Nat), D.slice (List.map Lx.tokC (Prod.fst (Lx.lexR (a ++ [(10 : UInt8)] ++ b)))) []), ((14 : Nat), D.int IntKind.i64 (0 : Int))], ob := [] })))))))))))))))))))
theorem PSpl_eq (a : List UInt8) (b : List UInt8) : goT Tryd.prog (ctr lawP) (0 : Nat) (finF true (0 : Nat) rs6) (2000 : Nat) [Fr.sc sc6] { tm := envOf (0 : Nat) [D.str a, D.str b], ob := [] } = PSpl a b := by kernel_rfl
def hdSpl (a : List UInt8) (l k m : List Lx.Tk) (i : Int) : St := ⟨[(0, .str a), (5, .slice (l.map Lx.tokC) []), (8, .slice (k.map Lx.tokC) []), (11, .slice (m.map Lx.tokC) []), (14, .int .i64 i)], []⟩
def elSpl (l k m : List Lx.Tk) (t : Nat) (n : Int) : List D := if t = 128 then Lx.tokC (l.getD n.toNat default) else if t = 149 then Lx.tokC (k.getD n.toNat default) else Lx.tokC (m.getD n.toNat default)
noncomputable def PSpl2 (a : List UInt8) (l : List Lx.Tk) (k : List Lx.Tk) (m : List Lx.Tk) (i : Int) : Go.Sx.Tr := brT (decide (i < (↑(List.length (List.map Lx.tokC m)) : Int))) (brT (decide (i < (↑(List.length (List.map Lx.tokC l)) : Int))) (Tr.owe ((0 : Int) ≤ i ∧ (List.map Lx.tokC m)[Int.toNat i]? = some [D.int IntKind.u8 (Prod.fst (List.getD m (Int.toNat i) ((0 : Int), [], (0 : Int)))), D.str (Prod.fst (Prod.snd (List.getD m (Int.toNat i) ((0 : Int), [], (0 : Int))))), D.int IntKind.i64 (Prod.snd (Prod.snd (List.getD m (Int.toNat i) ((0 : Int), [], (0 : Int)))))]) (Tr.owe ((0 : Int) ≤ i ∧ (List.map Lx.tokC l)[Int.toNat i]? = some [D.int IntKind.u8 (Prod.fst (List.getD l (Int.toNat i) ((0 : Int), [], (0 : Int)))), D.str (Prod.fst (Prod.snd (List.getD l (Int.toNat i) ((0 : Int), [], (0 : Int))))), D.int IntKind.i64 (Prod.snd (Prod.snd (List.getD l (Int.toNat i) ((0 : Int), [], (0 : Int)))))]) (brT (!decide (Prod.snd (Prod.snd (List.getD m (Int.toNat i) ((0 : Int), [], (0 : Int)))) = Prod.snd (Prod.snd (List.getD l (Int.toNat i) ((0 : Int), [], (0 : Int)))))) (Tr.ret (D.bool false) []) (brT (decide ((↑(List.length (List.map Lx.tokC l)) : Int) ≤ i)) (Tr.owe ((0 : Int) ≤ i ∧ (List.map Lx.tokC m)[Int.toNat i]? = some [D.int IntKind.u8 (Prod.fst (List.getD m (Int.toNat i) ((0 : Int), [], (0 : Int)))), D.str (Prod.fst (Prod.snd (List.getD m (Int.toNat i) ((0 : Int), [], (0 : Int))))), D.int IntKind.i64 (Prod.snd (Prod.snd (List.getD m (Int.toNat i) ((0 : Int), [], (0 : Int)))))]) (Tr.owe ((-9223372036854775808 : Int) ≤ i - (↑(List.length (List.map Lx.tokC l)) : Int) ∧ i - (↑(List.length (List.map Lx.tokC l)) : Int) ≤ (9223372036854775807 : Int)) (Tr.owe ((0 : Int) ≤ i - (↑(List.length (List.map Lx.tokC l)) : Int) ∧ (List.map Lx.tokC k)[Int.toNat (i - (↑(List.length (List.map Lx.tokC l)) : Int))]? = some [D.int IntKind.u8 (Prod.fst (List.getD k (Int.toNat (i - (↑(List.length (List.map Lx.tokC l)) : Int))) ((0 : Int), [], (0 : Int)))), D.str (Prod.fst (Prod.snd (List.getD k (Int.toNat (i - (↑(List.length (List.map Lx.tokC l)) : Int))) ((0 : Int), [], (0 : Int))))), D.int IntKind.i64 (Prod.snd (Prod.snd (List.getD k (Int.toNat (i - (↑(List.length (List.map Lx.tokC l)) : Int))) ((0 : Int), [], (0 : Int)))))]) (Tr.owe ((-9223372036854775808 : Int) ≤ Prod.snd (Prod.snd (List.getD k (Int.toNat (i - (↑(List.length (List.map Lx.tokC l)) : Int))) ((0 : Int), [], (0 : Int)))) + (↑(List.length a) : Int) ∧ Prod.snd (Prod.snd (List.getD k (Int.toNat (i - (↑(List.length (List.map Lx.tokC l)) : Int))) ((0 : Int), [], (0 : Int)))) + (↑(List.length a) : Int) ≤ (9223372036854775807 : Int)) (Tr.owe ((-9223372036854775808 : Int) ≤ Prod.snd (Prod.snd (List.getD k (Int.toNat (i - (↑(List.length (List.map Lx.tokC l)) : Int))) ((0 : Int), [], (0 : Int)))) + (↑(List.length a) : Int) + (1 : Int) ∧ Prod.snd (Prod.snd (List.getD k (Int.toNat (i - (↑(List.length (List.map Lx.tokC l)) : Int))) ((0 : Int), [], (0 : Int)))) + (↑(List.length a) : Int) + (1 : Int) ≤ (9223372036854775807 : Int)) (brT (!decide (Prod.snd (Prod.snd (List.getD m (Int.toNat i) ((0 : Int), [], (0 : Int)))) = Prod.snd (Prod.snd (List.getD k (Int.toNat (i - (↑(List.length (List.map Lx.tokC l)) : Int))) ((0 : Int), [], (0 : Int)))) + (↑(List.length a) : Int) + (1 : Int))) (Tr.ret (D.bool false) []) (Tr.owe ((-9223372036854775808 : Int) ≤ i + (1 : Int) ∧ i + (1 : Int) ≤ (9223372036854775807 : Int)) (Tr.jmp (cut sc6 (0 : Nat)) { tm := [((0 : Nat), D.str a), ((5 : Nat), D.slice (List.map Lx.tokC l) []), ((8 : Nat), D.slice (List.map Lx.tokC k) []), ((11 : Nat), D.slice (List.map Lx.tokC m) []), ((14 : Nat), D.int IntKind.i64 (i + (1 : Int)))], ob := [] })))))))) (Tr.owe ((-9223372036854775808 : Int) ≤ i + (1 : Int) ∧ i + (1 : Int) ≤ (9223372036854775807 : Int)) (Tr.jmp (cut sc6 (0 : Nat)) { tm := [((0 : Nat), D.str a), ((5 : Nat), D.slice (List.map Lx.tokC l) []), ((8 : Nat), D.slice (List.map Lx.tokC k) []), ((11 : Nat), D.slice (List.map Lx.tokC m) []), ((14 : Nat), D.int IntKind.i64 (i + (1 : Int)))], ob := [] })))))) (brT (decide ((↑(List.length (List.map Lx.tokC l)) : Int) ≤ i)) (Tr.owe ((0 : Int) ≤ i ∧ (List.map Lx.tokC m)[Int.toNat i]? = some [D.int IntKind.u8 (Prod.fst (List.getD m (Int.toNat i) ((0 : Int), [], (0 : Int)))), D.str (Prod.fst (Prod.snd (List.getD m (Int.toNat i) ((0 : Int), [], (0 : Int))))), D.int IntKind.i64 (Prod.snd (Prod.snd (List.getD m (Int.toNat i) ((0 : Int), [], (0 : Int)))))]) (Tr.owe ((-9223372036854775808 : Int) ≤ i - (↑(List.length (List.map Lx.tokC l)) : Int) ∧ i - (↑(List.length (List.map Lx.tokC l)) : Int) ≤ (9223372036854775807 : Int)) (Tr.owe ((0 : Int) ≤ i - (↑(List.length (List.map Lx.tokC l)) : Int) ∧ (List.map Lx.tokC k)[Int.toNat (i - (↑(List.length (List.map Lx.tokC l)) : Int))]? = some [D.int IntKind.u8 (Prod.fst (List.getD k (Int.toNat (i - (↑(List.length (List.map Lx.tokC l)) : Int))) ((0 : Int), [], (0 : Int)))), D.str (Prod.fst (Prod.snd (List.getD k (Int.toNat (i - (↑(List.length (List.map Lx.tokC l)) : Int))) ((0 : Int), [], (0 : Int))))), D.int IntKind.i64 (Prod.snd (Prod.snd (List.getD k (Int.toNat (i - (↑(List.length (List.map Lx.tokC l)) : Int))) ((0 : Int), [], (0 : Int)))))]) (Tr.owe ((-9223372036854775808 : Int) ≤ Prod.snd (Prod.snd (List.getD k (Int.toNat (i - (↑(List.length (List.map Lx.tokC l)) : Int))) ((0 : Int), [], (0 : Int)))) + (↑(List.length a) : Int) ∧ Prod.snd (Prod.snd (List.getD k (Int.toNat (i - (↑(List.length (List.map Lx.tokC l)) : Int))) ((0 : Int), [], (0 : Int)))) + (↑(List.length a) : Int) ≤ (9223372036854775807 : Int)) (Tr.owe ((-9223372036854775808 : Int) ≤ Prod.snd (Prod.snd (List.getD k (Int.toNat (i - (↑(List.length (List.map Lx.tokC l)) : Int))) ((0 : Int), [], (0 : Int)))) + (↑(List.length a) : Int) + (1 : Int) ∧ Prod.snd (Prod.snd (List.getD k (Int.toNat (i - (↑(List.length (List.map Lx.tokC l)) : Int))) ((0 : Int), [], (0 : Int)))) + (↑(List.length a) : Int) + (1 : Int) ≤ (9223372036854775807 : Int)) (brT (!decide (Prod.snd (Prod.snd (List.getD m (Int.toNat i) ((0 : Int), [], (0 : Int)))) = Prod.snd (Prod.snd (List.getD k (Int.toNat (i - (↑(List.length (List.map Lx.tokC l)) : Int))) ((0 : Int), [], (0 : Int)))) + (↑(List.length a) : Int) + (1 : Int))) (Tr.ret (D.bool false) []) (Tr.owe ((-9223372036854775808 : Int) ≤ i + (1 : Int) ∧ i + (1 : Int) ≤ (9223372036854775807 : Int)) (Tr.jmp (cut sc6 (0 : Nat)) { tm := [((0 : Nat), D.str a), ((5 : Nat), D.slice (List.map Lx.tokC l) []), ((8 : Nat), D.slice (List.map Lx.tokC k) []), ((11 : Nat), D.slice (List.map Lx.tokC m) []), ((14 : Nat), D.int IntKind.i64 (i + (1 : Int)))], ob := [] })))))))) (Tr.owe ((-9223372036854775808 : Int) ≤ i + (1 : Int) ∧ i + (1 : Int) ≤ (9223372036854775807 : Int)) (Tr.jmp (cut sc6 (0 : Nat)) { tm := [((0 : Nat), D.str a), ((5 : Nat), D.slice (List.map Lx.tokC l) []), ((8 : Nat), D.slice (List.map Lx.tokC k) []), ((11 : Nat), D.slice (List.map Lx.tokC m) []), ((14 : Nat), D.int IntKind.i64 (i + (1 : Int)))], ob := [] })))) (Tr.ret (D.bool true) [])
theorem PSpl2_eq (a : List UInt8) (l : List Lx.Tk) (k : List Lx.Tk) (m : List Lx.Tk) (i : Int) : goT Tryd.prog (ctr lawP qnone (elSpl l k m)) (0 : Nat) (finF true (0 : Nat) rs6) (2000 : Nat) (cut sc6 (0 : Nat)) (hdSpl a l k m i) = PSpl2 a l k m i := by kernel_rfl
theorem spl_at (a : List UInt8) (l k : List Lx.Tk) (ha : a.length ≤ 2000) (hl : l.length ≤ 100000) (hk : k.length ≤ 100000) (hr : ∀ t ∈ k, -100000 ≤ t.2.2 ∧ t.2.2 ≤ 100000) : ∀ (n i : Nat), l.length + k.length - i = n → i ≤ l.length + k.length →
    At Tryd.prog 0 (cut sc6 0) (hdSpl a l k (l ++ k.map fun t => (t.1, t.2.1, t.2.2 + ((a.length + 1 : Nat) : Int))) i) (FinQ true 0 rs6 fun r _ => r = .bool true) := by
  intro n
  induction n with
  | zero =>
    intro i hn hi
    refine At.tree (ctr_ok lawP_ok qnone_ok) (PSpl2_eq a l k _ i) ?_
    unfold PSpl2
    simp only [ok_br, ok_owe, ok_ret, ok_jmp, decide_eq_true_eq, decide_eq_false_iff_not, Int.toNat_natCast, true_and, and_true, Bool.not_eq_true', Bool.not_eq_false', List.drop_zero, List.take_length, D.bool.injEq, D.int.injEq, D.str.injEq, true_implies, Int.le_refl, List.length_map, List.length_append]
    exact ⟨fun h => by omega, fun _ => trivial⟩
  | succ n ih =>
    intro i hn hi
    refine At.tree (ctr_ok lawP_ok qnone_ok) (PSpl2_eq a l k _ i) ?_
    unfold PSpl2
    have hg : i < (l ++ k.map fun t => (t.1, t.2.1, t.2.2 + ((a.length + 1 : Nat) : Int))).length := by simp only [List.length_map, List.length_append]; omega
    have hI := ih (i + 1) (by omega) (by omega)
    have hr0 : -9223372036854775808 ≤ (i : Int) + 1 ∧ (i : Int) + 1 ≤ 9223372036854775807 := by omega
    have hx0 : 0 ≤ (i : Int) := by omega
    simp only [ok_br, ok_owe, ok_ret, ok_jmp, decide_eq_true_eq, decide_eq_false_iff_not, Int.toNat_natCast, true_and, and_true, Bool.not_eq_true', Bool.not_eq_false', List.drop_zero, List.take_length, D.bool.injEq, D.int.injEq, D.str.injEq, true_implies, Int.le_refl, List.length_map, List.length_append]
    refine ⟨fun _ => ⟨fun h1 => ?_, fun h1 => ?_⟩, fun h => by omega⟩
    · have hi1 : i < l.length := by omega
      have e : (l ++ k.map fun t => (t.1, t.2.1, t.2.2 + ((a.length + 1 : Nat) : Int))).getD i default = l.getD i default := by
        simp [List.getD, List.getElem?_append_left hi1]
      refine ⟨⟨hx0, Lx.tokC_get hg⟩, ⟨hx0, Lx.tokC_get hi1⟩, fun h2 => ?_, fun h2 => ⟨fun h3 => by omega, fun h3 => ⟨hr0, hI⟩⟩⟩
      exact absurd (congrArg (·.2.2) e) h2
    · have hi1 : l.length ≤ i := by omega
      have hik : i - l.length < k.length := by omega
      have e : (l ++ k.map fun t => (t.1, t.2.1, t.2.2 + ((a.length + 1 : Nat) : Int))).getD i default = ((k.getD (i - l.length) default).1, (k.getD (i - l.length) default).2.1, (k.getD (i - l.length) default).2.2 + ((a.length + 1 : Nat) : Int)) := by
        simp [List.getD, List.getElem?_append_right hi1, List.getElem?_map, List.getElem?_eq_getElem hik]
      have hb := hr (k.getD (i - l.length) default) (by rw [List.getD_eq_getElem?_getD, List.getElem?_eq_getElem hik]; exact List.getElem_mem _)
      have en : ((i : Int) - (l.length : Int)).toNat = i - l.length := by omega
      rw [en]
      refine ⟨fun h2 => ⟨⟨hx0, Lx.tokC_get hg⟩, by omega, ⟨by omega, Lx.tokC_get hik⟩, ?_, ?_, fun h3 => ?_, fun h3 => ⟨hr0, hI⟩⟩, fun h2 => by omega⟩
      · change -9223372036854775808 ≤ (k.getD (i - l.length) default).2.2 + _ ∧ (k.getD (i - l.length) default).2.2 + _ ≤ _; omega
      · change -9223372036854775808 ≤ (k.getD (i - l.length) default).2.2 + _ + _ ∧ (k.getD (i - l.length) default).2.2 + _ + _ ≤ _; omega
      · refine absurd ?_ h3
        have := congrArg (·.2.2) e
        simp only at this
        change ((l ++ k.map fun t => (t.1, t.2.1, t.2.2 + ((a.length + 1 : Nat) : Int))).getD i default).2.2 = (k.getD (i - l.length) default).2.2 + _ + _
        omega
/-- LexSplits RETURNS true. -/
theorem splits_ok (a b : List UInt8) (ha0 : a.length ≤ 281474976710656) (hb0 : b.length ≤ 281474976710656) : FnOK Tryd.prog 6 [.str a, .str b] (.bool true) := by
  refine FnOK.tree hdraw fp6 (ctr_ok lawP_ok qnone_ok) (PSpl_eq a b) ?_
  unfold PSpl
  simp only [ok_br, ok_owe, ok_ret, ok_jmp, decide_eq_true_eq, decide_eq_false_iff_not, Int.toNat_natCast, true_and, and_true, Bool.not_eq_true', Bool.not_eq_false', List.drop_zero, List.take_length, D.bool.injEq, D.int.injEq, D.str.injEq, true_implies, Int.le_refl, List.length_map, List.append_nil, Lx.map_deT, List.length_append, List.length_cons, List.length_nil]
  refine ⟨fun _ => trivial, fun h1 => ⟨fun _ => trivial, fun h2 => ⟨by omega, by omega, ?_⟩⟩⟩
  have ha : a.length ≤ 2000 := by omega
  have hb : b.length ≤ 2000 := by omega
  have ea : Lx.lexR a = Lx.ans (Lx.run 0 a) := by rw [Lx.lexR_eq, if_neg (by omega)]
  have eb : Lx.lexR b = Lx.ans (Lx.run 0 b) := by rw [Lx.lexR_eq, if_neg (by omega)]
  have em : Lx.lexR (a ++ [10] ++ b) = Lx.ans (Lx.run 0 (a ++ 10 :: b)) := by
    rw [Lx.lexR_eq, if_neg (by simp only [List.length_append, List.length_cons, List.length_nil]; omega)]; simp
  have hs := Lx.run_split b _ a 0 (Nat.lt_succ_self _)
  rw [Nat.zero_add, show a.length + 1 = 0 + (a.length + 1) by omega, Lx.run_shift (a.length + 1) _ b 0 (Nat.lt_succ_self _)] at hs
  have ta := Lx.run_toks _ a 0 (Nat.lt_succ_self _)
  have tb := Lx.run_toks _ b 0 (Nat.lt_succ_self _)
  have era := Lx.run_err _ a 0 (Nat.lt_succ_self _)
  have erb := Lx.run_err _ b 0 (Nat.lt_succ_self _)
  rw [ea, eb, em, hs]
  rcases hA : Lx.run 0 a with ⟨la, oa, pa⟩
  rcases hB : Lx.run 0 b with ⟨lb, ob, pb⟩
  rw [hA] at ta era
  rw [hB] at tb erb
  cases oa with
  | some x =>
    obtain ⟨x, e⟩ := x
    have he := (era x e rfl).1
    simp only [Lx.ans]
    simp [he]
  | none =>
    simp only [Lx.ans]
    refine ⟨fun h => (by first | exact absurd rfl h | exact absurd trivial h), fun _ => ?_⟩
    cases ob with
    | some x =>
      obtain ⟨x, e⟩ := x
      have he := erb x e rfl
      simp only [Lx.shift, Option.map_some]
      refine ⟨fun _ => ⟨fun _ => ⟨by omega, by omega, fun _ => by simp, fun h => ?_⟩, fun h => (by first | exact absurd rfl h | exact absurd trivial h)⟩, fun h => absurd h he.1⟩
      exact absurd (by omega) h
    | none =>
      simp only [Lx.shift, Option.map_none, List.length_append, List.length_map]
      have hx : ∀ t ∈ lb, -100000 ≤ t.2.2 ∧ t.2.2 ≤ 100000 := fun t ht => by
        have := tb.2 t ht
        omega
      have hla : la.length ≤ 2000 := Nat.le_trans ta.1 ha
      have hlb : lb.length ≤ 2000 := Nat.le_trans tb.1 hb
      refine ⟨fun h => (by first | exact absurd rfl h | exact absurd trivial h), fun _ => ⟨fun h => (by first | exact absurd rfl h | exact absurd trivial h), fun _ => ⟨by omega, fun h => absurd (by omega) h, fun _ => ⟨⟨allLen_map (f := Lx.tokC) (fun _ => rfl) _, by omega, by omega⟩, ?_⟩⟩⟩⟩
      have e1 : (List.map Lx.tokC (la ++ List.map (fun t => ((t.1, t.2.1, t.2.2 + ((a.length + 1 : Nat) : Int)) : Lx.Tk)) lb)).take la.length = la.map Lx.tokC := by
        rw [List.map_append, List.take_left' (by simp)]
      have e2 : ((List.map Lx.tokC (la ++ List.map (fun t => ((t.1, t.2.1, t.2.2 + ((a.length + 1 : Nat) : Int)) : Lx.Tk)) lb)).take (la.length + lb.length)).drop la.length = (List.map (fun t => ((t.1, t.2.1, t.2.2 + ((a.length + 1 : Nat) : Int)) : Lx.Tk)) lb).map Lx.tokC := by
        rw [List.take_of_length_le (by simp), List.map_append, List.drop_left' (by simp)]
      have e3 : Lx.alikeB (List.map (fun t => ((t.1, t.2.1, t.2.2 + ((a.length + 1 : Nat) : Int)) : Lx.Tk)) lb) lb = true := (Lx.alikeB_iff _ _).2 (Lx.shift_map _ lb)
      rw [e1, e2, Lx.map_deT, Lx.map_deT, Lx.alikeB_self, e3]
      simp only [List.length_map]
      refine ⟨⟨trivial, by omega⟩, fun h => (by cases h), fun _ => ⟨⟨allLen_map (f := Lx.tokC) (fun _ => rfl) _, by omega, by omega⟩, ⟨trivial, by omega⟩, fun h => (by cases h), fun _ => ?_⟩⟩
      exact spl_at a la lb ha (by omega) (by omega) hx _ 0 rfl (Nat.zero_le _)
end Go.Proofs.YtdkbjkccpnhjgaaDoor
