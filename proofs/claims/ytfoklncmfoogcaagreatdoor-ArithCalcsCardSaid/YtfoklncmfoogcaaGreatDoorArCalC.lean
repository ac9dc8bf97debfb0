/- The law of operations. -/
import Derived.Test.YtfoklncmfoogcaaGreatDoorArCalB
set_option linter.unusedSectionVars false
set_option linter.unusedVariables false
set_option linter.unusedSimpArgs false
set_option linter.deprecated false
set_option maxRecDepth 100000
namespace Go.Proofs.YtfoklncmfoogcaaGreatDoor
open Go.Sx
theorem lent0 (ext : List (List D)) : fnE tab (go Tryz.prog tab 2000) 9 [.slice (intC .i64 []) ext] = some (.slice (intC .i64 []) (intC .i64 mk1)) := by kernel_rfl
theorem lent1 (a : Int) (ext : List (List D)) : fnE tab (go Tryz.prog tab 2000) 9 [.slice (intC .i64 [a]) ext] = some (.slice (intC .i64 [a]) (intC .i64 mk1)) := by kernel_rfl
theorem lent2 (a b : Int) (ext : List (List D)) : fnE tab (go Tryz.prog tab 2000) 9 [.slice (intC .i64 [a, b]) ext] = some (.slice (intC .i64 [a, b]) (intC .i64 mk1)) := by kernel_rfl
theorem lent3 (a b c : Int) (ext : List (List D)) : fnE tab (go Tryz.prog tab 2000) 9 [.slice (intC .i64 [a, b, c]) ext] = some (.slice (intC .i64 [a, b, c]) (intC .i64 mk1)) := by kernel_rfl
theorem lent4 (a b c d : Int) (ext : List (List D)) : fnE tab (go Tryz.prog tab 2000) 9 [.slice (intC .i64 [a, b, c, d]) ext] = some (.slice (intC .i64 [a, b, c, d]) (intC .i64 mk1)) := by kernel_rfl
theorem lent_ok (l : List Int) (ext : List (List D)) (hl : l.length ≤ 4) : FnOK Tryz.prog 9 [.slice (intC .i64 l) ext] (.slice (intC .i64 l) (intC .i64 mk1)) := by
  match l, hl with
  | [], _ => exact fnE_ok hdraw tab_ok _ (lent0 ext)
  | [a], _ => exact fnE_ok hdraw tab_ok _ (lent1 a ext)
  | [a, b], _ => exact fnE_ok hdraw tab_ok _ (lent2 a b ext)
  | [a, b, c], _ => exact fnE_ok hdraw tab_ok _ (lent3 a b c ext)
  | [a, b, c, d], _ => exact fnE_ok hdraw tab_ok _ (lent4 a b c d ext)
  | _ :: _ :: _ :: _ :: _ :: _, h => simp at h
noncomputable def PAC (s : List UInt8) (es : List (List D)) (ext : List (List D)) : Go.Sx.Tr := Tr.jmp (frg sc3 (0 : Nat)) { tm := [((0 : Nat), D.str s), ((1 : Nat), D.slice es ext)], ob := [] }
theorem PAC_eq (s : List UInt8) (es : List (List D)) (ext : List (List D)) : goT Tryz.prog (ctr libT) (0 : Nat) (finF true (0 : Nat) rs3) (2000 : Nat) [Fr.sc sc3] { tm := envOf (0 : Nat) [D.str s, D.slice es ext], ob := [] } = PAC s es ext := by kernel_rfl
noncomputable def PAC0 (s : List UInt8) (es : List (List D)) (ext : List (List D)) : Go.Sx.Tr := brT (decide ((4 : Int) < (↑(List.length es) : Int))) (Tr.owe (FnOK Tryz.prog (8 : FuncId) [] (D.bool true)) (Tr.ret (D.bool true) [])) (Tr.jmp (frg sc3 (1 : Nat)) { tm := [((0 : Nat), D.str s), ((1 : Nat), D.slice es ext)], ob := [] })
theorem PAC0_eq (s : List UInt8) (es : List (List D)) (ext : List (List D)) : goT Tryz.prog (ctr (asmP (D.bool true))) (0 : Nat) (finF true (0 : Nat) rs3) (2000 : Nat) (frg sc3 (0 : Nat)) { tm := [((0 : Nat), D.str s), ((1 : Nat), D.slice es ext)], ob := [] } = PAC0 s es ext := by kernel_rfl
noncomputable def PAC1 (s : List UInt8) (es : List (List D)) (ext : List (List D)) (A : List (List D)) (X : List (List D)) : Go.Sx.Tr := Tr.owe (FnOK Tryz.prog (9 : FuncId) [D.slice es ext] (D.slice A X)) (Tr.jmp (frg sc3 (2 : Nat)) { tm := [((0 : Nat), D.str s), ((1 : Nat), D.slice es ext), ((5 : Nat), D.slice A X)], ob := [] })
theorem PAC1_eq (s : List UInt8) (es : List (List D)) (ext : List (List D)) (A : List (List D)) (X : List (List D)) : goT Tryz.prog (ctr (asmP (D.slice A X))) (0 : Nat) (finF true (0 : Nat) rs3) (2000 : Nat) (frg sc3 (1 : Nat)) { tm := [((0 : Nat), D.str s), ((1 : Nat), D.slice es ext)], ob := [] } = PAC1 s es ext A X := by kernel_rfl
noncomputable def PAC2 (s : List UInt8) (es : List (List D)) (ext : List (List D)) (A : List (List D)) (X : List (List D)) (o : Option Int) : Go.Sx.Tr := Tr.owe (CallL Tryz.prog (D.func (Fn.func (10 : FuncId)) [] []) [D.str s, D.slice A X] [] fun r0 ob0 => r0 = D.tuple [D.int IntKind.i64 (Option.getD o (0 : Int)), D.bool (Option.isSome o)] ∧ ob0 = []) (Tr.jmp (frg sc3 (3 : Nat)) { tm := [((0 : Nat), D.str s), ((1 : Nat), D.slice es ext), ((5 : Nat), D.slice A X), ((6 : Nat), D.int IntKind.i64 (Option.getD o (0 : Int))), ((7 : Nat), D.bool (Option.isSome o))], ob := [] })
theorem PAC2_eq (s : List UInt8) (es : List (List D)) (ext : List (List D)) (A : List (List D)) (X : List (List D)) (o : Option Int) : goT Tryz.prog (ctr libT (asmO (resT o) [])) (0 : Nat) (finF true (0 : Nat) rs3) (2000 : Nat) (frg sc3 (2 : Nat)) { tm := [((0 : Nat), D.str s), ((1 : Nat), D.slice es ext), ((5 : Nat), D.slice A X)], ob := [] } = PAC2 s es ext A X o := by kernel_rfl
noncomputable def PAC3 (s : List UInt8) (es : List (List D)) (ext : List (List D)) (A : List (List D)) (X : List (List D)) (o : Option Int) (n : Int) (b : Bool) : Go.Sx.Tr := Tr.owe (FnOK Tryz.prog (11 : FuncId) [D.str s, D.slice es ext] (D.tuple [D.int IntKind.i64 (Option.getD o (0 : Int)), D.bool (Option.isSome o)])) (Tr.jmp (frg sc3 (4 : Nat)) { tm := [((1 : Nat), D.slice es ext), ((5 : Nat), D.slice A X), ((6 : Nat), D.int IntKind.i64 n), ((7 : Nat), D.bool b), ((8 : Nat), D.int IntKind.i64 (Option.getD o (0 : Int))), ((9 : Nat), D.bool (Option.isSome o))], ob := [] })
theorem PAC3_eq (s : List UInt8) (es : List (List D)) (ext : List (List D)) (A : List (List D)) (X : List (List D)) (o : Option Int) (n : Int) (b : Bool) : goT Tryz.prog (ctr (asmP (resT o))) (0 : Nat) (finF true (0 : Nat) rs3) (2000 : Nat) (frg sc3 (3 : Nat)) { tm := [((0 : Nat), D.str s), ((1 : Nat), D.slice es ext), ((5 : Nat), D.slice A X), ((6 : Nat), D.int IntKind.i64 n), ((7 : Nat), D.bool b)], ob := [] } = PAC3 s es ext A X o n b := by kernel_rfl
noncomputable def PAC4 (es : List (List D)) (ext : List (List D)) (A : List (List D)) (X : List (List D)) (n : Int) (m : Int) (b : Bool) (c : Bool) : Go.Sx.Tr := brT (decide (n = m)) (brT (b == c) (Tr.owe (FnOK Tryz.prog (12 : FuncId) [D.slice A X, D.slice es ext] (D.bool true)) (Tr.owe (FnOK Tryz.prog (8 : FuncId) [] (D.bool true)) (Tr.ret (D.bool true) []))) (Tr.ret (D.bool false) [])) (Tr.ret (D.bool false) [])
theorem PAC4_eq (es : List (List D)) (ext : List (List D)) (A : List (List D)) (X : List (List D)) (n : Int) (m : Int) (b : Bool) (c : Bool) : goT Tryz.prog (ctr (asmP (D.bool true))) (0 : Nat) (finF true (0 : Nat) rs3) (2000 : Nat) (frg sc3 (4 : Nat)) { tm := [((1 : Nat), D.slice es ext), ((5 : Nat), D.slice A X), ((6 : Nat), D.int IntKind.i64 n), ((7 : Nat), D.bool b), ((8 : Nat), D.int IntKind.i64 m), ((9 : Nat), D.bool c)], ob := [] } = PAC4 es ext A X n m b c := by kernel_rfl
/-- ArithCalcs, if the chapter's examples hold. -/
theorem calcs_of (hA : FnOK Tryz.prog 8 [] (.bool true)) (s : List UInt8) (l : List Int) (ext : List (List D)) (hl : l.length ≤ 281474976710656) : FnOK Tryz.prog 3 [.str s, .slice (intC .i64 l) ext] (.bool true) := by
  refine FnOK.tree hdraw fp3 (ctr_ok libT_ok qnone_ok) (PAC_eq s _ ext) ?_
  unfold PAC
  simp only [ok_jmp]
  refine At.tree (ctr_ok (asmP_ok (.bool true)) qnone_ok) (PAC0_eq s _ ext) ?_
  unfold PAC0
  rw [ok_br]
  refine ⟨fun _ => ?_, fun h4 => ?_⟩
  · simp only [ok_br, ok_owe, ok_ret, ok_jmp, decide_eq_true_eq, decide_eq_false_iff_not, Int.toNat_natCast, true_and, and_true, Bool.not_eq_true', Bool.not_eq_false', List.drop_zero, List.take_length, D.bool.injEq, D.int.injEq, D.str.injEq, true_implies, Int.le_refl]; exact hA
  have hl4 : l.length ≤ 4 := by rw [intC_len] at h4; simp at h4; omega
  simp only [ok_jmp]
  refine At.tree (ctr_ok (asmP_ok _) qnone_ok) (PAC1_eq s _ ext (intC .i64 l) (intC .i64 mk1)) ?_
  unfold PAC1
  simp only [ok_owe, ok_jmp]
  refine ⟨lent_ok l ext hl4, ?_⟩
  refine At.tree (ctr_ok libT_ok (asmO_ok _ _)) (PAC2_eq s _ ext _ _ (calcR s l)) ?_
  unfold PAC2
  simp only [ok_owe, ok_jmp]
  refine ⟨calB_ok s _ l (by omega), ?_⟩
  refine At.tree (ctr_ok (asmP_ok _) qnone_ok) (PAC3_eq s _ ext _ _ (calcR s l) _ _) ?_
  unfold PAC3
  simp only [ok_owe, ok_jmp]
  refine ⟨rc_ok s ext l (by omega), ?_⟩
  refine At.tree (ctr_ok (asmP_ok (.bool true)) qnone_ok) (PAC4_eq _ ext _ _ _ _ _ _) ?_
  unfold PAC4
  simp only [ok_br, ok_owe, ok_ret, ok_jmp, decide_eq_true_eq, decide_eq_false_iff_not, Int.toNat_natCast, true_and, and_true, Bool.not_eq_true', Bool.not_eq_false', List.drop_zero, List.take_length, D.bool.injEq, D.int.injEq, D.str.injEq, true_implies, Int.le_refl, beq_self_eq_true]
  exact ⟨⟨⟨kept_ok l ext (by omega), hA⟩, fun h => absurd h (by decide)⟩, fun h => absurd trivial h⟩
end Go.Proofs.YtfoklncmfoogcaaGreatDoor
