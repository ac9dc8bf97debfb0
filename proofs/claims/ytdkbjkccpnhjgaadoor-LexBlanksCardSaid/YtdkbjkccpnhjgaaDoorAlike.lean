/- alike, empty, Pick, Join. -/
import Derived.Test.YtdkbjkccpnhjgaaDoorAll
set_option linter.unusedSectionVars false
set_option linter.unusedVariables false
set_option linter.unusedSimpArgs false
set_option linter.deprecated false
set_option maxRecDepth 100000
namespace Go.Proofs.YtdkbjkccpnhjgaaDoor
open Go.Sx
noncomputable def Palk (es : List (List D)) (es2 : List (List D)) (ext : List (List D)) (ext2 : List (List D)) : Go.Sx.Tr := brT (!decide ((↑(List.length es) : Int) = (↑(List.length es2) : Int))) (Tr.ret (D.bool false) []) (Tr.jmp (cut sc12 (0 : Nat)) { tm := [((0 : Nat), D.slice es ext), ((1 : Nat), D.slice es2 ext2), ((5 : Nat), D.int IntKind.i64 (0 : Int))], ob := [] })
theorem Palk_eq (es : List (List D)) (es2 : List (List D)) (ext : List (List D)) (ext2 : List (List D)) : goT Tryd.prog (ctr libT) (0 : Nat) (finF true (0 : Nat) rs12) (2000 : Nat) [Fr.sc sc12] { tm := envOf (0 : Nat) [D.slice es ext, D.slice es2 ext2], ob := [] } = Palk es es2 ext ext2 := by kernel_rfl
def hdAlk (es es2 ext ext2 : List (List D)) (i : Int) : St := ⟨[(0, .slice es ext), (1, .slice es2 ext2), (5, .int .i64 i)], []⟩
def elAlk (l k : List Lx.Tk) (t : Nat) (n : Int) : List D := if t = 19 ∨ t = 31 then Lx.tokC (l.getD n.toNat default) else Lx.tokC (k.getD n.toNat default)
noncomputable def Palk2 (l : List Lx.Tk) (k : List Lx.Tk) (ext : List (List D)) (ext2 : List (List D)) (i : Int) : Go.Sx.Tr := brT (decide (i < (↑(List.length (List.map Lx.tokC l)) : Int))) (Tr.owe ((0 : Int) ≤ i ∧ (List.map Lx.tokC l)[Int.toNat i]? = some [D.int IntKind.u8 (Prod.fst (List.getD l (Int.toNat i) ((0 : Int), [], (0 : Int)))), D.str (Prod.fst (Prod.snd (List.getD l (Int.toNat i) ((0 : Int), [], (0 : Int))))), D.int IntKind.i64 (Prod.snd (Prod.snd (List.getD l (Int.toNat i) ((0 : Int), [], (0 : Int)))))]) (Tr.owe ((0 : Int) ≤ i ∧ (List.map Lx.tokC k)[Int.toNat i]? = some [D.int IntKind.u8 (Prod.fst (List.getD k (Int.toNat i) ((0 : Int), [], (0 : Int)))), D.str (Prod.fst (Prod.snd (List.getD k (Int.toNat i) ((0 : Int), [], (0 : Int))))), D.int IntKind.i64 (Prod.snd (Prod.snd (List.getD k (Int.toNat i) ((0 : Int), [], (0 : Int)))))]) (brT (!decide (Prod.fst (List.getD l (Int.toNat i) ((0 : Int), [], (0 : Int))) = Prod.fst (List.getD k (Int.toNat i) ((0 : Int), [], (0 : Int))))) (Tr.ret (D.bool false) []) (Tr.owe ((0 : Int) ≤ i ∧ (List.map Lx.tokC l)[Int.toNat i]? = some [D.int IntKind.u8 (Prod.fst (List.getD l (Int.toNat i) ((0 : Int), [], (0 : Int)))), D.str (Prod.fst (Prod.snd (List.getD l (Int.toNat i) ((0 : Int), [], (0 : Int))))), D.int IntKind.i64 (Prod.snd (Prod.snd (List.getD l (Int.toNat i) ((0 : Int), [], (0 : Int)))))]) (Tr.owe ((0 : Int) ≤ i ∧ (List.map Lx.tokC k)[Int.toNat i]? = some [D.int IntKind.u8 (Prod.fst (List.getD k (Int.toNat i) ((0 : Int), [], (0 : Int)))), D.str (Prod.fst (Prod.snd (List.getD k (Int.toNat i) ((0 : Int), [], (0 : Int))))), D.int IntKind.i64 (Prod.snd (Prod.snd (List.getD k (Int.toNat i) ((0 : Int), [], (0 : Int)))))]) (brT (!decide (Prod.fst (Prod.snd (List.getD l (Int.toNat i) ((0 : Int), [], (0 : Int)))) = Prod.fst (Prod.snd (List.getD k (Int.toNat i) ((0 : Int), [], (0 : Int)))))) (Tr.ret (D.bool false) []) (Tr.owe ((-9223372036854775808 : Int) ≤ i + (1 : Int) ∧ i + (1 : Int) ≤ (9223372036854775807 : Int)) (Tr.jmp (cut sc12 (0 : Nat)) { tm := [((0 : Nat), D.slice (List.map Lx.tokC l) ext), ((1 : Nat), D.slice (List.map Lx.tokC k) ext2), ((5 : Nat), D.int IntKind.i64 (i + (1 : Int)))], ob := [] })))))))) (Tr.ret (D.bool true) [])
theorem Palk2_eq (l : List Lx.Tk) (k : List Lx.Tk) (ext : List (List D)) (ext2 : List (List D)) (i : Int) : goT Tryd.prog (ctr libT qnone (elAlk l k)) (0 : Nat) (finF true (0 : Nat) rs12) (2000 : Nat) (cut sc12 (0 : Nat)) (hdAlk (List.map Lx.tokC l) (List.map Lx.tokC k) ext ext2 i) = Palk2 l k ext ext2 i := by kernel_rfl
noncomputable def Pemp (s : List UInt8) : Go.Sx.Tr := Tr.jmp (cut sc13 (0 : Nat)) { tm := [((0 : Nat), D.str s), ((3 : Nat), D.bool false), ((4 : Nat), D.int IntKind.i64 (0 : Int))], ob := [] }
theorem Pemp_eq (s : List UInt8) : goT Tryd.prog (ctr libT) (0 : Nat) (finF true (0 : Nat) rs13) (2000 : Nat) [Fr.sc sc13] { tm := envOf (0 : Nat) [D.str s], ob := [] } = Pemp s := by kernel_rfl
def hdEmp (s : List UInt8) (c : Bool) (i : Int) : St := ⟨[(0, .str s), (3, .bool c), (4, .int .i64 i)], []⟩
noncomputable def Pemp2 (s : List UInt8) (c : Bool) (i : Int) : Go.Sx.Tr := brT (decide (i < (↑(List.length s) : Int))) (Tr.owe ((0 : Int) ≤ i ∧ i < (↑(List.length s) : Int)) (brT (decide ((↑(UInt8.toNat (List.getD s (Int.toNat i) (0 : UInt8))) : Int) = (10 : Int))) (Tr.owe ((-9223372036854775808 : Int) ≤ i + (1 : Int) ∧ i + (1 : Int) ≤ (9223372036854775807 : Int)) (Tr.jmp (cut sc13 (0 : Nat)) { tm := [((0 : Nat), D.str s), ((3 : Nat), D.bool false), ((4 : Nat), D.int IntKind.i64 (i + (1 : Int)))], ob := [] })) (brT c (Tr.owe ((-9223372036854775808 : Int) ≤ i + (1 : Int) ∧ i + (1 : Int) ≤ (9223372036854775807 : Int)) (Tr.jmp (cut sc13 (0 : Nat)) { tm := [((0 : Nat), D.str s), ((3 : Nat), D.bool c), ((4 : Nat), D.int IntKind.i64 (i + (1 : Int)))], ob := [] })) (Tr.owe ((0 : Int) ≤ i ∧ i < (↑(List.length s) : Int)) (brT (decide ((↑(UInt8.toNat (List.getD s (Int.toNat i) (0 : UInt8))) : Int) = (37 : Int))) (Tr.owe ((-9223372036854775808 : Int) ≤ i + (1 : Int) ∧ i + (1 : Int) ≤ (9223372036854775807 : Int)) (Tr.jmp (cut sc13 (0 : Nat)) { tm := [((0 : Nat), D.str s), ((3 : Nat), D.bool true), ((4 : Nat), D.int IntKind.i64 (i + (1 : Int)))], ob := [] })) (Tr.owe ((0 : Int) ≤ i ∧ i < (↑(List.length s) : Int)) (brT (!decide ((↑(UInt8.toNat (List.getD s (Int.toNat i) (0 : UInt8))) : Int) = (32 : Int))) (Tr.owe ((0 : Int) ≤ i ∧ i < (↑(List.length s) : Int)) (brT (!decide ((↑(UInt8.toNat (List.getD s (Int.toNat i) (0 : UInt8))) : Int) = (9 : Int))) (Tr.owe ((0 : Int) ≤ i ∧ i < (↑(List.length s) : Int)) (brT (!decide ((↑(UInt8.toNat (List.getD s (Int.toNat i) (0 : UInt8))) : Int) = (13 : Int))) (Tr.ret (D.bool false) []) (Tr.owe ((-9223372036854775808 : Int) ≤ i + (1 : Int) ∧ i + (1 : Int) ≤ (9223372036854775807 : Int)) (Tr.jmp (cut sc13 (0 : Nat)) { tm := [((0 : Nat), D.str s), ((3 : Nat), D.bool c), ((4 : Nat), D.int IntKind.i64 (i + (1 : Int)))], ob := [] })))) (Tr.owe ((-9223372036854775808 : Int) ≤ i + (1 : Int) ∧ i + (1 : Int) ≤ (9223372036854775807 : Int)) (Tr.jmp (cut sc13 (0 : Nat)) { tm := [((0 : Nat), D.str s), ((3 : Nat), D.bool c), ((4 : Nat), D.int IntKind.i64 (i + (1 : Int)))], ob := [] })))) (Tr.owe ((-9223372036854775808 : Int) ≤ i + (1 : Int) ∧ i + (1 : Int) ≤ (9223372036854775807 : Int)) (Tr.jmp (cut sc13 (0 : Nat)) { tm := [((0 : Nat), D.str s), ((3 : Nat), D.bool c), ((4 : Nat), D.int IntKind.i64 (i + (1 : Int)))], ob := [] }))))))))) (Tr.ret (D.bool true) [])
theorem Pemp2_eq (s : List UInt8) (c : Bool) (i : Int) : goT Tryd.prog (ctr libT) (0 : Nat) (finF true (0 : Nat) rs13) (2000 : Nat) (cut sc13 (0 : Nat)) (hdEmp s c i) = Pemp2 s c i := by kernel_rfl
noncomputable def PJn (es : List (List D)) (ext : List (List D)) : Go.Sx.Tr := Tr.jmp (cut sc8 (0 : Nat)) { tm := [((3 : Nat), D.vec (0 : Nat)), ((6 : Nat), D.slice es ext), ((7 : Nat), D.int IntKind.i64 (↑(List.length es) : Int)), ((8 : Nat), D.int IntKind.i64 (0 : Int))], ob := [((0 : Nat), Ob.arr true (1 : Nat) (9 : TypeId) [])] }
theorem PJn_eq (es : List (List D)) (ext : List (List D)) : goT Tryd.prog (ctr libT) (0 : Nat) (finF true (0 : Nat) rs8) (2000 : Nat) [Fr.sc sc8] { tm := envOf (0 : Nat) [D.slice es ext], ob := [] } = PJn es ext := by kernel_rfl
def hdJn (es ext : List (List D)) (acc : List (List UInt8)) (i : Int) : St := ⟨[(3, .vec 0), (6, .slice es ext), (7, .int .i64 es.length), (8, .int .i64 i)], [(0, .arr true 1 9 (strC acc))]⟩
noncomputable def PJn2 (l : List Lx.Tk) (ext : List (List D)) (acc : List (List UInt8)) (i : Int) : Go.Sx.Tr := brT (decide (i < (↑(List.length (List.map Lx.tokC l)) : Int))) (Tr.owe ((0 : Int) ≤ i ∧ (List.map Lx.tokC l)[Int.toNat i]? = some [D.int IntKind.u8 (Prod.fst (List.getD l (Int.toNat i) ((0 : Int), [], (0 : Int)))), D.str (Prod.fst (Prod.snd (List.getD l (Int.toNat i) ((0 : Int), [], (0 : Int))))), D.int IntKind.i64 (Prod.snd (Prod.snd (List.getD l (Int.toNat i) ((0 : Int), [], (0 : Int)))))]) (Tr.owe (allLen (1 : Nat) [[D.str (Prod.fst (Prod.snd (List.getD l (Int.toNat i) ((0 : Int), [], (0 : Int)))))]] ∧ List.length (strC acc) + (1 : Nat) ≤ (1073741824 : Nat)) (Tr.owe ((-9223372036854775808 : Int) ≤ i + (1 : Int) ∧ i + (1 : Int) ≤ (9223372036854775807 : Int)) (Tr.jmp (cut sc8 (0 : Nat)) { tm := [((3 : Nat), D.vec (0 : Nat)), ((6 : Nat), D.slice (List.map Lx.tokC l) ext), ((7 : Nat), D.int IntKind.i64 (↑(List.length (List.map Lx.tokC l)) : Int)), ((8 : Nat), D.int IntKind.i64 (i + (1 : Int)))], ob := [((0 : Nat), Ob.arr true (1 : Nat) (9 : TypeId) (strC acc ++ [[D.str (Prod.fst (Prod.snd (List.getD l (Int.toNat i) ((0 : Int), [], (0 : Int)))))]]))] })))) (Tr.owe (strC acc = List.map (fun t => [D.str t]) (List.map deS (strC acc)) ∧ List.length (List.map deS (strC acc)) ≤ (140737488355328 : Nat) ∧ List.length (Lib.join (List.map deS (strC acc)) [(32 : UInt8)]) ≤ (140737488355328 : Nat)) (Tr.ret (D.str (Lib.join (List.map deS (strC acc)) [(32 : UInt8)])) []))
theorem PJn2_eq (l : List Lx.Tk) (ext : List (List D)) (acc : List (List UInt8)) (i : Int) : goT Tryd.prog (ctr libT qnone fun x n => Lx.tokC (List.getD l (Int.toNat n) default)) (0 : Nat) (finF true (0 : Nat) rs8) (2000 : Nat) (cut sc8 (0 : Nat)) (hdJn (List.map Lx.tokC l) ext acc i) = PJn2 l ext acc i := by kernel_rfl
noncomputable def PPick (n : Int) (m : Int) : Go.Sx.Tr := brT (decide (m < (1 : Int))) (Tr.ret (D.int IntKind.i64 (0 : Int)) []) (Tr.owe (m ≠ (0 : Int)) (brT (decide (Int.tmod n m < (0 : Int))) (Tr.owe ((-9223372036854775808 : Int) ≤ Int.tmod n m + m ∧ Int.tmod n m + m ≤ (9223372036854775807 : Int)) (Tr.ret (D.int IntKind.i64 (Int.tmod n m + m)) [])) (Tr.ret (D.int IntKind.i64 (Int.tmod n m)) [])))
theorem PPick_eq (n : Int) (m : Int) : goT Tryd.prog (ctr libT) (0 : Nat) (finF true (0 : Nat) rs14) (2000 : Nat) [Fr.sc sc14] { tm := envOf (0 : Nat) [D.int IntKind.i64 n, D.int IntKind.i64 m], ob := [] } = PPick n m := by kernel_rfl
theorem alk_at (l k : List Lx.Tk) (ext ext2 : List (List D)) (he : l.length = k.length) (hl : l.length ≤ 4611686018427387904) : ∀ (m i : Nat), l.length - i = m → i ≤ l.length →
    At Tryd.prog 0 (cut sc12 0) (hdAlk (l.map Lx.tokC) (k.map Lx.tokC) ext ext2 i) (FinQ true 0 rs12 fun r _ => r = .bool (Lx.alikeB (l.drop i) (k.drop i))) := by
  intro m
  induction m with
  | zero =>
    intro i hm hi
    refine At.tree (ctr_ok libT_ok qnone_ok) (Palk2_eq l k ext ext2 i) ?_
    unfold Palk2
    rw [List.drop_eq_nil_of_le (by omega), List.drop_eq_nil_of_le (by omega)]
    simp only [ok_br, ok_owe, ok_ret, ok_jmp, decide_eq_true_eq, decide_eq_false_iff_not, Int.toNat_natCast, true_and, and_true, Bool.not_eq_true', Bool.not_eq_false', List.drop_zero, List.take_length, D.bool.injEq, D.int.injEq, D.str.injEq, true_implies, Int.le_refl, List.length_map]
    exact ⟨fun h => by omega, fun _ => rfl⟩
  | succ m ih =>
    intro i hm hi
    have h1 : i < l.length := by omega
    have h2 : i < k.length := by omega
    refine At.tree (ctr_ok libT_ok qnone_ok) (Palk2_eq l k ext ext2 i) ?_
    unfold Palk2
    rw [drop_getD (d := (default : Lx.Tk)) h1, drop_getD (d := (default : Lx.Tk)) h2]
    simp only [ok_br, ok_owe, ok_ret, ok_jmp, decide_eq_true_eq, decide_eq_false_iff_not, Int.toNat_natCast, true_and, and_true, Bool.not_eq_true', Bool.not_eq_false', List.drop_zero, List.take_length, D.bool.injEq, D.int.injEq, D.str.injEq, true_implies, Int.le_refl, List.length_map, Lx.alikeB]
    refine ⟨fun _ => ⟨⟨by omega, Lx.tokC_get h1⟩, ⟨by omega, Lx.tokC_get h2⟩, fun h => ?_, fun h => ⟨⟨by omega, Lx.tokC_get h1⟩, ⟨by omega, Lx.tokC_get h2⟩, fun h' => ?_, fun h' => ⟨by omega, ?_⟩⟩⟩, fun h => by omega⟩
    · rw [decide_eq_false (show ¬ (l.getD i default).1 = (k.getD i default).1 from h)]; rfl
    · rw [decide_eq_true (show (l.getD i default).1 = (k.getD i default).1 from h), decide_eq_false (show ¬ (l.getD i default).2.1 = (k.getD i default).2.1 from h')]; rfl
    · rw [decide_eq_true (show (l.getD i default).1 = (k.getD i default).1 from h), decide_eq_true (show (l.getD i default).2.1 = (k.getD i default).2.1 from h')]
      exact ih (i + 1) (by omega) (by omega)
theorem alike_ok (l k : List Lx.Tk) (ext ext2 : List (List D)) (hl : l.length ≤ 4611686018427387904) : FnOK Tryd.prog 12 [.slice (l.map Lx.tokC) ext, .slice (k.map Lx.tokC) ext2] (.bool (Lx.alikeB l k)) := by
  refine FnOK.tree hdraw fp12 (ctr_ok libT_ok qnone_ok) (Palk_eq _ _ ext ext2) ?_
  unfold Palk
  simp only [ok_br, ok_owe, ok_ret, ok_jmp, decide_eq_true_eq, decide_eq_false_iff_not, Int.toNat_natCast, true_and, and_true, Bool.not_eq_true', Bool.not_eq_false', List.drop_zero, List.take_length, D.bool.injEq, D.int.injEq, D.str.injEq, true_implies, Int.le_refl, List.length_map]
  exact ⟨fun h => (Lx.alikeB_len l k (by omega)).symm, fun h => alk_at l k ext ext2 (by omega) hl _ 0 rfl (Nat.zero_le _)⟩
theorem nat8 {b : UInt8} {n : Nat} (hn : n < 256) : ((b.toNat : Int) = (n : Int)) ↔ b = UInt8.ofNat n := by
  constructor
  · intro h
    apply UInt8.toNat_inj.1
    rw [UInt8.toNat_ofNat_of_lt' (by exact hn)]
    omega
  · rintro rfl
    rw [UInt8.toNat_ofNat_of_lt' (by exact hn)]
theorem emp_at (s : List UInt8) (hl : s.length ≤ 4611686018427387904) : ∀ (m i : Nat) (c : Bool), s.length - i = m → i ≤ s.length →
    At Tryd.prog 0 (cut sc13 0) (hdEmp s c i) (FinQ true 0 rs13 fun r _ => r = .bool (Lx.emptyB c (s.drop i))) := by
  intro m
  induction m with
  | zero =>
    intro i c hm hi
    refine At.tree (ctr_ok libT_ok qnone_ok) (Pemp2_eq s c i) ?_
    unfold Pemp2
    rw [List.drop_eq_nil_of_le (by omega)]
    simp only [ok_br, ok_owe, ok_ret, ok_jmp, decide_eq_true_eq, decide_eq_false_iff_not, Int.toNat_natCast, true_and, and_true, Bool.not_eq_true', Bool.not_eq_false', List.drop_zero, List.take_length, D.bool.injEq, D.int.injEq, D.str.injEq, true_implies, Int.le_refl]
    exact ⟨fun h => by omega, fun _ => by simp [Lx.emptyB]⟩
  | succ m ih =>
    intro i c hm hi
    have h1 : i < s.length := by omega
    refine At.tree (ctr_ok libT_ok qnone_ok) (Pemp2_eq s c i) ?_
    unfold Pemp2
    rw [drop_getD (d := 0) h1]
    generalize hb : s.getD i 0 = b
    have e10 : ((b.toNat : Int) = 10) ↔ b = 10 := nat8 (n := 10) (by decide)
    have e37 : ((b.toNat : Int) = 37) ↔ b = 37 := nat8 (n := 37) (by decide)
    have e32 : ((b.toNat : Int) = 32) ↔ b = 32 := nat8 (n := 32) (by decide)
    have e9 : ((b.toNat : Int) = 9) ↔ b = 9 := nat8 (n := 9) (by decide)
    have e13 : ((b.toNat : Int) = 13) ↔ b = 13 := nat8 (n := 13) (by decide)
    have hr : -9223372036854775808 ≤ (i : Int) + 1 ∧ (i : Int) + 1 ≤ 9223372036854775807 := by omega
    have hx : 0 ≤ (i : Int) ∧ (i : Int) < s.length := by omega
    have hI := fun c => ih (i + 1) c (by omega) (by omega)
    simp only [ok_br, ok_owe, ok_ret, ok_jmp, decide_eq_true_eq, decide_eq_false_iff_not, Int.toNat_natCast, true_and, and_true, Bool.not_eq_true', Bool.not_eq_false', List.drop_zero, List.take_length, D.bool.injEq, D.int.injEq, D.str.injEq, true_implies, Int.le_refl, Lx.emptyB, hb, e10, e37, e32, e9, e13, hr, hx]
    refine And.intro ?_ (fun h => (h trivial).elim)
    refine ⟨fun h => ?_, fun h => ⟨fun hc => ?_, fun hc => ⟨fun h2 => ?_, fun h2 => ⟨fun h3 => ⟨fun h4 => ⟨fun h5 => ?_, fun h5 => ?_⟩, fun h4 => ?_⟩, fun h3 => ?_⟩⟩⟩⟩
    · rw [if_pos h]; exact hI false
    · subst hc; rw [if_neg h, if_pos rfl]; exact hI true
    · subst hc; rw [if_neg h, if_neg (by simp), if_pos h2]; exact hI true
    · subst hc; rw [if_neg h, if_neg (by simp), if_neg h2, if_pos ⟨h3, h4, h5⟩]
    · subst hc; rw [if_neg h, if_neg (by simp), if_neg h2, if_neg (by simp [h5])]; exact hI false
    · subst hc; rw [if_neg h, if_neg (by simp), if_neg h2, if_neg (by simp [h4])]; exact hI false
    · subst hc; rw [if_neg h, if_neg (by simp), if_neg h2, if_neg (by simp [h3])]; exact hI false
theorem empty_ok (s : List UInt8) (hl : s.length ≤ 4611686018427387904) : FnOK Tryd.prog 13 [.str s] (.bool (Lx.emptyB false s)) :=
  FnOK.tree hdraw fp13 (ctr_ok libT_ok qnone_ok) (Pemp_eq s) (emp_at s hl _ 0 false rfl (Nat.zero_le _))
theorem pick_ok (n m : Int) (hm : 0 < m ∧ m ≤ 1000000) (hn : -9223372036854775808 ≤ n ∧ n ≤ 9223372036854775807) : FnOK Tryd.prog 14 [.int .i64 n, .int .i64 m] (.int .i64 (if n.tmod m < 0 then n.tmod m + m else n.tmod m)) := by
  refine FnOK.tree hdraw fp14 (ctr_ok libT_ok qnone_ok) (PPick_eq n m) ?_
  unfold PPick
  simp only [ok_br, ok_owe, ok_ret, ok_jmp, decide_eq_true_eq, decide_eq_false_iff_not, Int.toNat_natCast, true_and, and_true, Bool.not_eq_true', Bool.not_eq_false', List.drop_zero, List.take_length, D.bool.injEq, D.int.injEq, D.str.injEq, true_implies, Int.le_refl]
  have h1 := Int.tmod_lt_of_pos n hm.1
  have h2 : -m < n.tmod m := Int.neg_lt_of_neg_lt (by have := Int.tmod_lt_of_pos (-n) hm.1; rw [Int.neg_tmod] at this; omega)
  exact ⟨fun h => by omega, fun _ => ⟨by omega, fun h => ⟨by omega, by rw [if_pos h]⟩, fun h => by rw [if_neg h]⟩⟩
/-- The texts of tokens. -/
def txs (l : List Lx.Tk) : List (List UInt8) := l.map (·.2.1)
theorem jn_at (l : List Lx.Tk) (ext : List (List D)) (hl : l.length ≤ 1073741824) (hj : (Lib.join (txs l) [32]).length ≤ 140737488355328) : ∀ (m i : Nat), l.length - i = m → i ≤ l.length →
    At Tryd.prog 0 (cut sc8 0) (hdJn (l.map Lx.tokC) ext (txs (l.take i)) i) (FinQ true 0 rs8 fun r _ => r = .str (Lib.join (txs l) [32])) := by
  intro m
  induction m with
  | zero =>
    intro i hm hi
    refine At.tree (ctr_ok libT_ok qnone_ok) (PJn2_eq l ext _ i) ?_
    unfold PJn2
    rw [List.take_of_length_le (by omega)]
    simp only [ok_br, ok_owe, ok_ret, ok_jmp, decide_eq_true_eq, decide_eq_false_iff_not, Int.toNat_natCast, true_and, and_true, Bool.not_eq_true', Bool.not_eq_false', List.drop_zero, List.take_length, D.bool.injEq, D.int.injEq, D.str.injEq, true_implies, Int.le_refl, List.length_map, map_deS]
    have hlt : (txs l).length = l.length := by simp [txs]
    exact ⟨fun h => by omega, fun _ => ⟨rfl, by omega, hj⟩⟩
  | succ m ih =>
    intro i hm hi
    have h1 : i < l.length := by omega
    refine At.tree (ctr_ok libT_ok qnone_ok) (PJn2_eq l ext _ i) ?_
    unfold PJn2
    simp only [ok_br, ok_owe, ok_ret, ok_jmp, decide_eq_true_eq, decide_eq_false_iff_not, Int.toNat_natCast, true_and, and_true, Bool.not_eq_true', Bool.not_eq_false', List.drop_zero, List.take_length, D.bool.injEq, D.int.injEq, D.str.injEq, true_implies, Int.le_refl, List.length_map, strC_len]
    have hlt : (txs (l.take i)).length ≤ i := by simp only [txs, List.length_map, List.length_take]; omega
    refine ⟨fun _ => ⟨⟨by omega, Lx.tokC_get h1⟩, ⟨allLen_cons.2 ⟨rfl, allLen_nil _⟩, by omega⟩, by omega, ?_⟩, fun h => by omega⟩
    have := ih (i + 1) (by omega) (by omega)
    have e : txs (l.take (i + 1)) = txs (l.take i) ++ [(l.getD i default).2.1] := by
      unfold txs
      rw [List.take_add_one, List.getElem?_eq_getElem h1, List.map_append, List.getD_eq_getElem?_getD, List.getElem?_eq_getElem h1]
      rfl
    rw [e] at this
    simp only [hdJn, strC, List.map_append, List.map_cons, List.map_nil, List.length_map] at this
    exact this
theorem join_ok (l : List Lx.Tk) (ext : List (List D)) (hl : l.length ≤ 1073741824) (hj : (Lib.join (txs l) [32]).length ≤ 140737488355328) : FnOK Tryd.prog 8 [.slice (l.map Lx.tokC) ext] (.str (Lib.join (txs l) [32])) :=
  FnOK.tree hdraw fp8 (ctr_ok libT_ok qnone_ok) (PJn_eq _ ext) (jn_at l ext hl hj _ 0 rfl (Nat.zero_le _))
end Go.Proofs.YtdkbjkccpnhjgaaDoor
