/- number: whether digits are a valid number. -/
import Derived.Test.YtdkbjkccpnhjgaaGreatDoorLibT
set_option linter.unusedSectionVars false
set_option linter.unusedVariables false
set_option linter.unusedSimpArgs false
set_option linter.deprecated false
set_option maxRecDepth 100000
namespace Go.Proofs.YtdkbjkccpnhjgaaGreatDoor
open Go.Sx

/-- What number hands back. -/
def numE (s : List UInt8) : Int := match Lib.atoiAll s with
  | .ok n => if 2147483647 < n then 32 else if Lib.itoa n = s then 0 else 32
  | _ => 32

noncomputable def Tnumber (s : List UInt8) : Go.Sx.Tr := brT
  (match Lib.atoiAll s with
  | Lib.NumEnd.ok v => true
  | x => false)
  (Tr.owe (List.length s ≤ (281474976710656 : Nat))
    (brT
      (decide
        ((2147483647 : Int) <
          match Lib.atoiAll s with
          | Lib.NumEnd.ok n => n
          | x => (0 : Int)))
      (Tr.ret (D.int IntKind.i64 (32 : Int)) [])
      (Tr.owe
        (((-9223372036854775808 : Int) ≤
            match Lib.atoiAll s with
            | Lib.NumEnd.ok n => n
            | x => (0 : Int)) ∧
          (match Lib.atoiAll s with
            | Lib.NumEnd.ok n => n
            | x => (0 : Int)) ≤
            (9223372036854775807 : Int))
        (brT
          (!decide
              (Lib.itoa
                  (match Lib.atoiAll s with
                  | Lib.NumEnd.ok n => n
                  | x => (0 : Int)) =
                s))
          (Tr.ret (D.int IntKind.i64 (32 : Int)) []) (Tr.ret (D.int IntKind.i64 (0 : Int)) [])))))
  (Tr.owe (List.length s ≤ (281474976710656 : Nat)) (Tr.ret (D.int IntKind.i64 (32 : Int)) []))
theorem Tnumber_eq (s : List UInt8) : goT Tryz.prog (ctr libT) (0 : Nat) (finF true (0 : Nat) rs65) (200 : Nat) [Fr.sc sc65] { tm := envOf (0 : Nat) [D.str s], ob := [] } = Tnumber s := by kernel_rfl

theorem number_ok (s : List UInt8) (hs : s.length ≤ 281474976710656) : FnOK Tryz.prog 65 [.str s] (.int .i64 (numE s)) := by
  refine FnOK.tree hdraw fp65 (ctr_ok libT_ok qnone_ok) (Tnumber_eq s) ?_
  unfold Tnumber numE
  cases h : Lib.atoiAll s with
  | ok n =>
    obtain ⟨b0, b1⟩ := Lib.atoiAll_bounds h
    simp only [ok_br, ok_owe, ok_ret, hs, true_and]
    by_cases hm : 2147483647 < n <;> by_cases he : Lib.itoa n = s <;> simp [hm, he] <;> omega
  | _ => simp [ok_br, ok_owe, ok_ret, hs]
end Go.Proofs.YtdkbjkccpnhjgaaGreatDoor
