/- The tests for the bytes of some classes; (*input).while. -/
import Derived.Test.YtdkbjkccpnhjgaaGreatDoorCls
import Derived.Test.YtdkbjkccpnhjgaaGreatDoorSx6
set_option linter.unusedSectionVars false
set_option linter.unusedVariables false
set_option linter.unusedSimpArgs false
set_option linter.deprecated false
set_option maxRecDepth 100000
namespace Go.Proofs.YtdkbjkccpnhjgaaGreatDoor
open Go.Sx

/-- The bytes of the classes c. -/
def inC (c : Int) (b : Nat) : Bool := !decide (bitI .and .i64 (cls b) c = 0)

noncomputable def Tof1 (b : Int) (c : Int) : Go.Sx.Tr := Tr.owe ((0 : Int) ≤ b ∧ b < (256 : Int)) (Tr.ret (D.bool !decide (bitI BinOp.and IntKind.i64 (cls (Int.toNat b)) c = (0 : Int))) [((0 : Nat), Ob.cells [D.int IntKind.i64 c])])
theorem Tof1_eq (b : Int) (c : Int) : goT Tryz.prog (ctr clsP) (1 : Nat) (finF false (1 : Nat) rs85) (200 : Nat) [Fr.sc sc85] { tm := envOf (0 : Nat) ([] ++ [D.int IntKind.u8 b] ++ [D.ptr (0 : Nat) (0 : Nat)]), ob := [((0 : Nat), Ob.cells [D.int IntKind.i64 c])] } = Tof1 b c := by kernel_rfl
theorem of1_ok (b c : Int) (hb : 0 ≤ b ∧ b < 256) : CallL Tryz.prog (.func (.func 85) [] [.ptr 0 0]) [.int .u8 b] [(0, .cells [.int .i64 c])] fun r ob => r = .bool (inC c b.toNat) ∧ ob = [(0, .cells [.int .i64 c])] :=
  CallL.tree hdraw fp85 (ctr_ok clsP_ok qnone_ok) (Tof1_eq b c) ⟨hb, rfl, rfl⟩

noncomputable def Tof (c : Int) : Go.Sx.Tr := Tr.ret (D.func (Fn.func (85 : FuncId)) [] [D.ptr (0 : Nat) (0 : Nat)]) [((0 : Nat), Ob.cells [D.int IntKind.i64 c])]
theorem Tof_eq (c : Int) : goT Tryz.prog (ctr clsP) (0 : Nat) (finF false (0 : Nat) rs61) (200 : Nat) [Fr.sc sc61] { tm := envOf (0 : Nat) ([] ++ [D.int IntKind.i64 c] ++ []), ob := [] } = Tof c := by kernel_rfl
theorem of_ok (c : Int) : CallL Tryz.prog (.func (.func 61) [] []) [.int .i64 c] [] fun r ob => r = .func (.func 85) [] [.ptr 0 0] ∧ ob = [(0, .cells [.int .i64 c])] :=
  CallL.tree hdraw fp61 (ctr_ok clsP_ok qnone_ok) (Tof_eq c) ⟨rfl, rfl⟩

noncomputable def Tnl (b : Int) : Go.Sx.Tr := Tr.ret (D.bool !decide (b = (10 : Int))) []
theorem Tnl_eq (b : Int) : goT Tryz.prog (ctr clsP) (0 : Nat) (finF false (0 : Nat) rs62) (200 : Nat) [Fr.sc sc62] { tm := envOf (0 : Nat) ([] ++ [D.int IntKind.u8 b] ++ []), ob := [] } = Tnl b := by kernel_rfl
theorem nl_ok (b : Int) : CallL Tryz.prog (.func (.func 62) [] []) [.int .u8 b] [] fun r ob => r = .bool (!decide (b = 10)) ∧ ob = [] :=
  CallL.tree hdraw fp62 (ctr_ok clsP_ok qnone_ok) (Tnl_eq b) ⟨rfl, rfl⟩

/-- The tests. -/
def testQ : QT := fun d xs ob => match d, xs, ob with
  | .func (.func f) [] [.ptr 0 0], [.int .u8 b], [(0, .cells [.int .i64 c])] => if f = 85 then some (.ok (0 ≤ b ∧ b < 256) (.bool (inC c b.toNat)) [(0, .cells [.int .i64 c])]) else none
  | .func (.func f) [] [], [.int .u8 b], [] => if f = 62 then some (.ok True (.bool (!decide (b = 10))) []) else none
  | .func (.func f) [] [], [.int .i64 c], [] => if f = 61 then some (.ok True (.func (.func 85) [] [.ptr 0 0]) [(0, .cells [.int .i64 c])]) else none
  | _, _, _ => none
theorem testQ_ok : testQ.OK := by
  intro d xs ob rt h
  unfold testQ at h
  split at h
  all_goals try (split at h)
  all_goals first
    | (cases h; done)
    | (rename_i hf; subst hf; cases h; first | exact fun hp => of1_ok _ _ hp | exact fun _ => nl_ok _ | exact fun _ => of_ok _)

noncomputable def Twh1 (src : List UInt8) (c : Int) (i : Int) : Go.Sx.Tr := Tr.jmp (cut sc60 (0 : Nat)) { tm := [((0 : Nat), D.ptr (0 : Nat) (0 : Nat)), ((1 : Nat), D.func (Fn.func (85 : FuncId)) [] [D.ptr (1 : Nat) (0 : Nat)]), ((5 : Nat), D.int IntKind.i64 i)], ob := [((0 : Nat), Ob.cells [D.str src, D.int IntKind.i64 i]), ((1 : Nat), Ob.cells [D.int IntKind.i64 c])] }
theorem Twh1_eq (src : List UInt8) (c : Int) (i : Int) : goT Tryz.prog (ctr clsP testQ) (2 : Nat) (finF false (2 : Nat) rs60) (200 : Nat) [Fr.sc sc60] { tm := envOf (0 : Nat) ([] ++ [D.ptr (0 : Nat) (0 : Nat), D.func (Fn.func (85 : FuncId)) [] [D.ptr (1 : Nat) (0 : Nat)]] ++ []), ob := [((0 : Nat), Ob.cells [D.str src, D.int IntKind.i64 i]), ((1 : Nat), Ob.cells [D.int IntKind.i64 c])] } = Twh1 src c i := by kernel_rfl
/-- The head of the loop. -/
def hdW (src : List UInt8) (c fr i : Int) : St := ⟨[(0, .ptr 0 0), (1, .func (.func 85) [] [.ptr 1 0]), (5, .int .i64 fr)], [(0, .cells [.str src, .int .i64 i]), (1, .cells [.int .i64 c])]⟩
noncomputable def Twh2 (src : List UInt8) (c : Int) (fr : Int) (i : Int) : Go.Sx.Tr := brT (decide (i < (↑(List.length src) : Int))) (Tr.owe ((0 : Int) ≤ i ∧ i < (↑(List.length src) : Int)) (Tr.owe ((0 : Int) ≤ (↑(UInt8.toNat (List.getD src (Int.toNat i) (0 : UInt8))) : Int) ∧ (↑(UInt8.toNat (List.getD src (Int.toNat i) (0 : UInt8))) : Int) < (256 : Int)) (brT (inC c (Int.toNat (↑(UInt8.toNat (List.getD src (Int.toNat i) (0 : UInt8))) : Int))) (Tr.owe ((-9223372036854775808 : Int) ≤ i + (1 : Int) ∧ i + (1 : Int) ≤ (9223372036854775807 : Int)) (Tr.jmp (cut sc60 (0 : Nat)) { tm := [((0 : Nat), D.ptr (0 : Nat) (0 : Nat)), ((1 : Nat), D.func (Fn.func (85 : FuncId)) [] [D.ptr (1 : Nat) (0 : Nat)]), ((5 : Nat), D.int IntKind.i64 fr)], ob := [((0 : Nat), Ob.cells [D.str src, D.int IntKind.i64 (i + (1 : Int))]), ((1 : Nat), Ob.cells [D.int IntKind.i64 c])] })) (Tr.owe ((0 : Int) ≤ fr ∧ fr ≤ i ∧ i ≤ (↑(List.length src) : Int)) (Tr.ret (D.str (List.drop (Int.toNat fr) (List.take (Int.toNat i) src))) [((0 : Nat), Ob.cells [D.str src, D.int IntKind.i64 i]), ((1 : Nat), Ob.cells [D.int IntKind.i64 c])]))))) (Tr.owe ((0 : Int) ≤ fr ∧ fr ≤ i ∧ i ≤ (↑(List.length src) : Int)) (Tr.ret (D.str (List.drop (Int.toNat fr) (List.take (Int.toNat i) src))) [((0 : Nat), Ob.cells [D.str src, D.int IntKind.i64 i]), ((1 : Nat), Ob.cells [D.int IntKind.i64 c])]))
theorem Twh2_eq (src : List UInt8) (c : Int) (fr : Int) (i : Int) : goT Tryz.prog (ctr clsP testQ) (2 : Nat) (finF false (2 : Nat) rs60) (200 : Nat) (cut sc60 (0 : Nat)) (hdW src c fr i) = Twh2 src c fr i := by kernel_rfl

theorem while_at (src : List UInt8) (c : Int) (fr : Nat) (hl : src.length ≤ 4611686018427387904) : ∀ (m i : Nat), src.length - i = m → fr ≤ i → i ≤ src.length →
    At Tryz.prog 2 (cut sc60 0) (hdW src c fr i) (FinQ false 2 rs60 fun r ob => r = .str ((src.take (runTo (fun b => inC c b.toNat) src i)).drop fr) ∧ ob = [(0, .cells [.str src, .int .i64 (runTo (fun b => inC c b.toNat) src i : Nat)]), (1, .cells [.int .i64 c])]) := by
  intro m
  induction m with
  | zero =>
    intro i hm hf hi
    refine At.tree (ctr_ok clsP_ok testQ_ok) (Twh2_eq src c fr i) ?_
    unfold Twh2
    rw [runTo_end (by omega)]
    simp only [ok_br, ok_owe, ok_ret, decide_eq_true_eq, decide_eq_false_iff_not]
    exact ⟨fun h => by omega, fun _ => ⟨by omega, by simp⟩⟩
  | succ m ih =>
    intro i hm hf hi
    refine At.tree (ctr_ok clsP_ok testQ_ok) (Twh2_eq src c fr i) ?_
    unfold Twh2
    simp only [ok_br, ok_owe, ok_ret, ok_jmp, decide_eq_true_eq, decide_eq_false_iff_not, Int.toNat_natCast]
    refine ⟨fun _ => ⟨by omega, byte_lt _ _, fun hp => ⟨by omega, ?_⟩, fun hp => ?_⟩, fun h => by omega⟩
    · have := ih (i + 1) (by omega) (by omega) (by omega)
      rw [runTo_step (by omega) hp]
      exact this
    · rw [runTo_stop (by omega) hp]
      exact ⟨by omega, rfl, rfl⟩

theorem while_ok (src : List UInt8) (c : Int) (i : Nat) (hi : i ≤ src.length) (hl : src.length ≤ 4611686018427387904) :
    CallL Tryz.prog (.func (.func 60) [] []) [.ptr 0 0, .func (.func 85) [] [.ptr 1 0]] [(0, .cells [.str src, .int .i64 i]), (1, .cells [.int .i64 c])]
      fun r ob => r = .str ((src.take (runTo (fun b => inC c b.toNat) src i)).drop i) ∧ ob = [(0, .cells [.str src, .int .i64 (runTo (fun b => inC c b.toNat) src i : Nat)]), (1, .cells [.int .i64 c])] :=
  CallL.tree hdraw fp60 (ctr_ok clsP_ok testQ_ok) (Twh1_eq src c i) (while_at src c i hl _ i rfl (Nat.le_refl _) hi)

noncomputable def Twl1 (src : List UInt8) (i : Int) : Go.Sx.Tr := Tr.jmp (cut sc60 (0 : Nat)) { tm := [((0 : Nat), D.ptr (0 : Nat) (0 : Nat)), ((1 : Nat), D.func (Fn.func (62 : FuncId)) [] []), ((5 : Nat), D.int IntKind.i64 i)], ob := [((0 : Nat), Ob.cells [D.str src, D.int IntKind.i64 i])] }
theorem Twl1_eq (src : List UInt8) (i : Int) : goT Tryz.prog (ctr clsP testQ) (1 : Nat) (finF false (1 : Nat) rs60) (200 : Nat) [Fr.sc sc60] { tm := envOf (0 : Nat) ([] ++ [D.ptr (0 : Nat) (0 : Nat), D.func (Fn.func (62 : FuncId)) [] []] ++ []), ob := [((0 : Nat), Ob.cells [D.str src, D.int IntKind.i64 i])] } = Twl1 src i := by kernel_rfl
def hdL (src : List UInt8) (fr i : Int) : St := ⟨[(0, .ptr 0 0), (1, .func (.func 62) [] []), (5, .int .i64 fr)], [(0, .cells [.str src, .int .i64 i])]⟩
noncomputable def Twl2 (src : List UInt8) (fr : Int) (i : Int) : Go.Sx.Tr := brT (decide (i < (↑(List.length src) : Int))) (Tr.owe ((0 : Int) ≤ i ∧ i < (↑(List.length src) : Int)) (Tr.owe True (brT (!decide ((↑(UInt8.toNat (List.getD src (Int.toNat i) (0 : UInt8))) : Int) = (10 : Int))) (Tr.owe ((-9223372036854775808 : Int) ≤ i + (1 : Int) ∧ i + (1 : Int) ≤ (9223372036854775807 : Int)) (Tr.jmp (cut sc60 (0 : Nat)) { tm := [((0 : Nat), D.ptr (0 : Nat) (0 : Nat)), ((1 : Nat), D.func (Fn.func (62 : FuncId)) [] []), ((5 : Nat), D.int IntKind.i64 fr)], ob := [((0 : Nat), Ob.cells [D.str src, D.int IntKind.i64 (i + (1 : Int))])] })) (Tr.owe ((0 : Int) ≤ fr ∧ fr ≤ i ∧ i ≤ (↑(List.length src) : Int)) (Tr.ret (D.str (List.drop (Int.toNat fr) (List.take (Int.toNat i) src))) [((0 : Nat), Ob.cells [D.str src, D.int IntKind.i64 i])]))))) (Tr.owe ((0 : Int) ≤ fr ∧ fr ≤ i ∧ i ≤ (↑(List.length src) : Int)) (Tr.ret (D.str (List.drop (Int.toNat fr) (List.take (Int.toNat i) src))) [((0 : Nat), Ob.cells [D.str src, D.int IntKind.i64 i])]))
theorem Twl2_eq (src : List UInt8) (fr : Int) (i : Int) : goT Tryz.prog (ctr clsP testQ) (1 : Nat) (finF false (1 : Nat) rs60) (200 : Nat) (cut sc60 (0 : Nat)) (hdL src fr i) = Twl2 src fr i := by kernel_rfl

/-- The bytes of a line. -/
def inLine (b : UInt8) : Bool := !decide ((b.toNat : Int) = 10)

theorem line_at (src : List UInt8) (fr : Nat) (hl : src.length ≤ 4611686018427387904) : ∀ (m i : Nat), src.length - i = m → fr ≤ i → i ≤ src.length →
    At Tryz.prog 1 (cut sc60 0) (hdL src fr i) (FinQ false 1 rs60 fun r ob => r = .str ((src.take (runTo inLine src i)).drop fr) ∧ ob = [(0, .cells [.str src, .int .i64 (runTo inLine src i : Nat)])]) := by
  intro m
  induction m with
  | zero =>
    intro i hm hf hi
    refine At.tree (ctr_ok clsP_ok testQ_ok) (Twl2_eq src fr i) ?_
    unfold Twl2
    rw [runTo_end (by omega)]
    simp only [ok_br, ok_owe, ok_ret, decide_eq_true_eq, decide_eq_false_iff_not]
    exact ⟨fun h => by omega, fun _ => ⟨by omega, by simp⟩⟩
  | succ m ih =>
    intro i hm hf hi
    refine At.tree (ctr_ok clsP_ok testQ_ok) (Twl2_eq src fr i) ?_
    unfold Twl2
    simp only [ok_br, ok_owe, ok_ret, ok_jmp, decide_eq_true_eq, decide_eq_false_iff_not, Int.toNat_natCast, true_and]
    refine ⟨fun _ => ⟨by omega, fun hp => ⟨by omega, ?_⟩, fun hp => ?_⟩, fun h => by omega⟩
    · have := ih (i + 1) (by omega) (by omega) (by omega)
      rw [runTo_step (by omega) hp]
      exact this
    · rw [runTo_stop (by omega) hp]
      exact ⟨by omega, rfl, rfl⟩

theorem line_ok (src : List UInt8) (i : Nat) (hi : i ≤ src.length) (hl : src.length ≤ 4611686018427387904) :
    CallL Tryz.prog (.func (.func 60) [] []) [.ptr 0 0, .func (.func 62) [] []] [(0, .cells [.str src, .int .i64 i])]
      fun r ob => r = .str ((src.take (runTo inLine src i)).drop i) ∧ ob = [(0, .cells [.str src, .int .i64 (runTo inLine src i : Nat)])] :=
  CallL.tree hdraw fp60 (ctr_ok clsP_ok testQ_ok) (Twl1_eq src i) (line_at src i hl _ i rfl (Nat.le_refl _) hi)

/-- The calls of while. -/
def whQ : QT := fun d xs ob => match d, xs, ob with
  | .func (.func w) [] [], [.ptr 0 0, .func (.func g) [] [.ptr 1 0]], [(0, .cells [.str src, .int .i64 i]), (1, .cells [.int .i64 c])] => if w = 60 ∧ g = 85 then
      some (.ok (0 ≤ i ∧ i ≤ src.length ∧ src.length ≤ 4611686018427387904) (.str ((src.take (runTo (fun b => inC c b.toNat) src i.toNat)).drop i.toNat)) [(0, .cells [.str src, .int .i64 (runTo (fun b => inC c b.toNat) src i.toNat : Nat)]), (1, .cells [.int .i64 c])]) else none
  | .func (.func w) [] [], [.ptr 0 0, .func (.func g) [] []], [(0, .cells [.str src, .int .i64 i])] => if w = 60 ∧ g = 62 then
      some (.ok (0 ≤ i ∧ i ≤ src.length ∧ src.length ≤ 4611686018427387904) (.str ((src.take (runTo inLine src i.toNat)).drop i.toNat)) [(0, .cells [.str src, .int .i64 (runTo inLine src i.toNat : Nat)])]) else none
  | _, _, _ => none
theorem whQ_ok : whQ.OK := by
  intro d xs ob rt h
  unfold whQ at h
  split at h
  · rename_i w g src i c
    split at h
    · rename_i hf
      obtain ⟨rfl, rfl⟩ := hf
      cases h
      rintro ⟨h0, h1, h2⟩
      have := while_ok src c i.toNat (by omega) h2
      rwa [Int.toNat_of_nonneg h0] at this
    · cases h
  · rename_i w g src i
    split at h
    · rename_i hf
      obtain ⟨rfl, rfl⟩ := hf
      cases h
      rintro ⟨h0, h1, h2⟩
      have := line_ok src i.toNat (by omega) h2
      rwa [Int.toNat_of_nonneg h0] at this
    · cases h
  · cases h
end Go.Proofs.YtdkbjkccpnhjgaaGreatDoor
