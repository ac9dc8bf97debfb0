/- (*scanner).skip: blanks and comments. -/
import Derived.Test.YtdkbjkccpnhjgaaGreatDoorClass
import Derived.Test.YtdkbjkccpnhjgaaGreatDoorSx6
set_option linter.unusedSectionVars false
set_option linter.unusedVariables false
set_option linter.unusedSimpArgs false
set_option linter.deprecated false
set_option maxRecDepth 100000
namespace Go.Proofs.YtdkbjkccpnhjgaaGreatDoor
open Go.Sx
theorem byte_fun {p q : UInt8 → Bool} (h : (List.range 256).all (fun n => p (UInt8.ofNat n) == q (UInt8.ofNat n)) = true) : p = q := by
  funext b
  have := List.all_eq_true.1 h b.toNat (List.mem_range.2 b.toNat_lt)
  simpa using this
theorem inC8 : (fun b : UInt8 => inC 8 b.toNat) = Lx.isBlank := byte_fun (by kernel_rfl)
theorem inC7 : (fun b : UInt8 => inC 7 b.toNat) = Lx.isName := byte_fun (by kernel_rfl)
theorem inC2 : (fun b : UInt8 => inC 2 b.toNat) = Lx.isDig := byte_fun (by kernel_rfl)
theorem inC1 : (fun b : UInt8 => inC 1 b.toNat) = Lx.isLet := byte_fun (by kernel_rfl)
theorem inLine_eq : inLine = Lx.inLine := byte_fun (by kernel_rfl)

def skQ : QT := testQ.or whQ
theorem skQ_ok : skQ.OK := QT.or_ok testQ_ok whQ_ok
noncomputable def Tsk1 (src : List UInt8) (i : Int) : Go.Sx.Tr := Tr.jmp (cut sc39 (0 : Nat)) { tm := [((0 : Nat), D.ptr (0 : Nat) (0 : Nat))], ob := [((0 : Nat), Ob.cells [D.str src, D.int IntKind.i64 i])] }
theorem Tsk1_eq (src : List UInt8) (i : Int) : goT Tryz.prog (ctr clsP skQ) (1 : Nat) (finF false (1 : Nat) rs39) (200 : Nat) [Fr.sc sc39] { tm := envOf (0 : Nat) ([] ++ [D.ptr (0 : Nat) (0 : Nat)] ++ []), ob := [((0 : Nat), Ob.cells [D.str src, D.int IntKind.i64 i])] } = Tsk1 src i := by kernel_rfl
def hdS (src : List UInt8) (i : Int) : St := ⟨[(0, .ptr 0 0)], [(0, .cells [.str src, .int .i64 i])]⟩
noncomputable def Tsk2 (src : List UInt8) (i : Int) : Go.Sx.Tr := Tr.owe True (Tr.owe ((0 : Int) ≤ i ∧ i ≤ (↑(List.length src) : Int) ∧ List.length src ≤ (4611686018427387904 : Nat)) (brT (decide ((↑(runTo (fun b => inC (8 : Int) (UInt8.toNat b)) src (Int.toNat i)) : Int) = (↑(List.length src) : Int))) (Tr.ret (D.tuple []) [((0 : Nat), Ob.cells [D.str src, D.int IntKind.i64 (↑(runTo (fun b => inC (8 : Int) (UInt8.toNat b)) src (Int.toNat i)) : Int)])]) (Tr.owe ((0 : Int) ≤ (↑(runTo (fun b => inC (8 : Int) (UInt8.toNat b)) src (Int.toNat i)) : Int) ∧ (↑(runTo (fun b => inC (8 : Int) (UInt8.toNat b)) src (Int.toNat i)) : Int) < (↑(List.length src) : Int)) (brT (!decide ((↑(UInt8.toNat (List.getD src (Int.toNat (↑(runTo (fun b => inC (8 : Int) (UInt8.toNat b)) src (Int.toNat i)) : Int)) (0 : UInt8))) : Int) = (37 : Int))) (Tr.ret (D.tuple []) [((0 : Nat), Ob.cells [D.str src, D.int IntKind.i64 (↑(runTo (fun b => inC (8 : Int) (UInt8.toNat b)) src (Int.toNat i)) : Int)])]) (Tr.owe ((0 : Int) ≤ (↑(runTo (fun b => inC (8 : Int) (UInt8.toNat b)) src (Int.toNat i)) : Int) ∧ (↑(runTo (fun b => inC (8 : Int) (UInt8.toNat b)) src (Int.toNat i)) : Int) ≤ (↑(List.length src) : Int) ∧ List.length src ≤ (4611686018427387904 : Nat)) (Tr.jmp (cut sc39 (0 : Nat)) { tm := [((0 : Nat), D.ptr (0 : Nat) (0 : Nat))], ob := [((0 : Nat), Ob.cells [D.str src, D.int IntKind.i64 (↑(runTo inLine src (Int.toNat (↑(runTo (fun b => inC (8 : Int) (UInt8.toNat b)) src (Int.toNat i)) : Int))) : Int)])] }))))))
theorem Tsk2_eq (src : List UInt8) (i : Int) : goT Tryz.prog (ctr clsP skQ) (1 : Nat) (finF false (1 : Nat) rs39) (200 : Nat) (cut sc39 (0 : Nat)) (hdS src i) = Tsk2 src i := by kernel_rfl

theorem skip_at (src : List UInt8) (hl : src.length ≤ 4611686018427387904) : ∀ (m i : Nat), src.length - i < m → i ≤ src.length →
    At Tryz.prog 1 (cut sc39 0) (hdS src i) (FinQ false 1 rs39 fun r ob => r = .tuple [] ∧ ob = [(0, .cells [.str src, .int .i64 (Lx.skipTo src i : Nat)])]) := by
  intro m
  induction m with
  | zero => intro i hm hi; omega
  | succ m ih =>
    intro i hm hi
    refine At.tree (ctr_ok clsP_ok skQ_ok) (Tsk2_eq src i) ?_
    unfold Tsk2
    simp only [ok_br, ok_owe, ok_ret, ok_jmp, decide_eq_true_eq, decide_eq_false_iff_not, Int.toNat_natCast, true_and, inC8, inLine_eq, Bool.not_eq_true', Bool.not_eq_false']
    have h1 := runTo_len (p := Lx.isBlank) hi
    have h2 := runTo_le Lx.isBlank src i
    refine ⟨⟨by omega, by omega, hl⟩, fun he => ?_, fun he => ⟨by omega, fun hc => ?_, fun hc => ⟨by omega, ?_⟩⟩⟩
    · rw [Lx.skipTo_stop (.inl (by omega)) hi]
    · rw [Lx.skipTo_stop (.inr fun h => hc (by rw [h]; rfl)) hi]
    · have hc' : src.getD (runTo Lx.isBlank src i) 0 = 37 := UInt8.toNat_inj.1 (by show _ = 37; omega)
      rw [Lx.skipTo_blank, Lx.skipTo_cmt (by omega) hc']
      have h3 := runTo_le Lx.inLine src (runTo Lx.isBlank src i)
      have h4 := runTo_len (p := Lx.inLine) (s := src) (i := runTo Lx.isBlank src i) (by omega)
      have h5 : runTo Lx.inLine src (runTo Lx.isBlank src i) = runTo Lx.inLine src (runTo Lx.isBlank src i + 1) := runTo_step (by omega) (by rw [hc']; rfl)
      have h6 := runTo_le Lx.inLine src (runTo Lx.isBlank src i + 1)
      exact ih _ (by omega) h4

theorem skip_ok (src : List UInt8) (i : Nat) (hi : i ≤ src.length) (hl : src.length ≤ 4611686018427387904) :
    CallL Tryz.prog (.func (.func 39) [] []) [.ptr 0 0] [(0, .cells [.str src, .int .i64 i])] fun r ob => r = .tuple [] ∧ ob = [(0, .cells [.str src, .int .i64 (Lx.skipTo src i : Nat)])] :=
  CallL.tree hdraw fp39 (ctr_ok clsP_ok skQ_ok) (Tsk1_eq src i) (skip_at src hl _ i (Nat.lt_succ_self _) hi)
end Go.Proofs.YtdkbjkccpnhjgaaGreatDoor
