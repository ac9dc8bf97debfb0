/- sign, and the directives. -/
import Derived.Test.YtdkbjkccpnhjgaaGreatDoorWord2
set_option linter.unusedSectionVars false
set_option linter.unusedVariables false
set_option linter.unusedSimpArgs false
set_option linter.deprecated false
namespace Go.Proofs.YtdkbjkccpnhjgaaGreatDoor
open Go.Sx
noncomputable def PIdx (es : List (List D)) (ext : List (List D)) (t : List UInt8) : Go.Sx.Tr := Tr.jmp (cut sc88 (0 : Nat)) { tm := [((0 : Nat), D.slice es ext), ((1 : Nat), D.str t), ((7 : Nat), D.int IntKind.i64 (↑(List.length es) : Int)), ((8 : Nat), D.int IntKind.i64 (0 : Int))], ob := [] }
theorem PIdx_eq (es : List (List D)) (ext : List (List D)) (t : List UInt8) : goT Tryz.prog (ctr libT) (0 : Nat) (finF true (0 : Nat) rs88) (2000 : Nat) [Fr.sc sc88] { tm := envOf (0 : Nat) [D.slice es ext, D.str t], ob := [] } = PIdx es ext t := by kernel_rfl
def hdIdx (es ext : List (List D)) (t : List UInt8) (i : Int) : St := ⟨[(0, .slice es ext), (1, .str t), (7, .int .i64 es.length), (8, .int .i64 i)], []⟩
noncomputable def PIdx2 (l : List (List UInt8)) (ext : List (List D)) (t : List UInt8) (i : Int) : Go.Sx.Tr := brT (decide (i < (↑(List.length (strC l)) : Int))) (Tr.owe ((0 : Int) ≤ i ∧ (strC l)[Int.toNat i]? = some [D.str (List.getD l (Int.toNat i) [])]) (brT (decide (t = List.getD l (Int.toNat i) [])) (Tr.ret (D.int IntKind.i64 i) []) (Tr.owe ((-9223372036854775808 : Int) ≤ i + (1 : Int) ∧ i + (1 : Int) ≤ (9223372036854775807 : Int)) (Tr.jmp (cut sc88 (0 : Nat)) { tm := [((0 : Nat), D.slice (strC l) ext), ((1 : Nat), D.str t), ((7 : Nat), D.int IntKind.i64 (↑(List.length (strC l)) : Int)), ((8 : Nat), D.int IntKind.i64 (i + (1 : Int)))], ob := [] })))) (Tr.ret (D.int IntKind.i64 (-1 : Int)) [])
theorem PIdx2_eq (l : List (List UInt8)) (ext : List (List D)) (t : List UInt8) (i : Int) : goT Tryz.prog (ctr libT qnone fun x n => [D.str (List.getD l (Int.toNat n) [])]) (0 : Nat) (finF true (0 : Nat) rs88) (2000 : Nat) (cut sc88 (0 : Nat)) (hdIdx (strC l) ext t i) = PIdx2 l ext t i := by kernel_rfl
theorem idx_at (l : List (List UInt8)) (ext : List (List D)) (t : List UInt8) (hl : l.length ≤ 4611686018427387904) : ∀ (m i : Nat), l.length - i = m → i ≤ l.length →
    At Tryz.prog 0 (cut sc88 0) (hdIdx (strC l) ext t i) (FinQ true 0 rs88 fun r _ => r = .int .i64 (idxS t (l.drop i) i)) := by
  intro m
  induction m with
  | zero =>
    intro i hm hi
    refine At.tree (ctr_ok libT_ok qnone_ok) (PIdx2_eq l ext t i) ?_
    unfold PIdx2
    rw [List.drop_eq_nil_of_le (by omega)]
    simp only [ok_br, ok_owe, ok_ret, ok_jmp, decide_eq_true_eq, decide_eq_false_iff_not, Int.toNat_natCast, true_and, and_true, Bool.not_eq_true', Bool.not_eq_false', List.drop_zero, List.take_length, D.bool.injEq, D.int.injEq, D.str.injEq, true_implies, Int.le_refl, strC_len]
    exact ⟨fun h => by omega, fun _ => rfl⟩
  | succ m ih =>
    intro i hm hi
    refine At.tree (ctr_ok libT_ok qnone_ok) (PIdx2_eq l ext t i) ?_
    unfold PIdx2
    rw [drop_getD (d := []) (by omega)]
    simp only [ok_br, ok_owe, ok_ret, ok_jmp, decide_eq_true_eq, decide_eq_false_iff_not, Int.toNat_natCast, true_and, and_true, Bool.not_eq_true', Bool.not_eq_false', List.drop_zero, List.take_length, D.bool.injEq, D.int.injEq, D.str.injEq, true_implies, Int.le_refl, strC_len, idxS]
    refine ⟨fun _ => ⟨⟨by omega, strC_get (by omega)⟩, fun h => by rw [if_pos h], fun h => ⟨by omega, ?_⟩⟩, fun h => by omega⟩
    rw [if_neg h]
    have := ih (i + 1) (by omega) (by omega)
    simp only [hdIdx, strC_len] at this
    exact this
def idxP : PT := fun f xs => if f = 88 then (match xs with
    | [.slice es _, .str t] => some (.ok (es = strC (es.map deS) ∧ es.length ≤ 4611686018427387904) (.int .i64 (idxS t (es.map deS) 0)) [])
    | _ => none)
  else if f = 72 then strP f xs else none
theorem idxP_ok : idxP.OK := by
  intro f xs rt h
  unfold idxP at h
  split at h
  · rename_i hf; subst hf
    split at h
    · rename_i es ext t
      cases h
      rintro ⟨he, hl⟩
      have := FnOK.tree hdraw fp88 (ctr_ok libT_ok qnone_ok) (PIdx_eq (strC (es.map deS)) ext t) (idx_at (es.map deS) ext t (by simpa using hl) _ 0 rfl (Nat.zero_le _))
      rwa [← he] at this
    · cases h
  split at h
  · exact strP_ok _ _ _ h
  · cases h
theorem map_deS (l : List (List UInt8)) : (strC l).map deS = l := by
  unfold strC
  rw [List.map_map]
  exact List.map_id'' (fun _ => rfl) l
noncomputable def PCon (es : List (List D)) (ext : List (List D)) (t : List UInt8) : Go.Sx.Tr := Tr.owe (es = strC (List.map deS es) ∧ List.length es ≤ (4611686018427387904 : Nat)) (Tr.ret (D.bool (decide ((0 : Int) ≤ idxS t (List.map deS es) (0 : Int)))) [])
theorem PCon_eq (es : List (List D)) (ext : List (List D)) (t : List UInt8) : goT Tryz.prog (ctr idxP) (0 : Nat) (finF true (0 : Nat) rs66) (2000 : Nat) [Fr.sc sc66] { tm := envOf (0 : Nat) [D.slice es ext, D.str t], ob := [] } = PCon es ext t := by kernel_rfl
theorem con_ok (l : List (List UInt8)) (ext : List (List D)) (t : List UInt8) (hl : l.length ≤ 4611686018427387904) : FnOK Tryz.prog 66 [.slice (strC l) ext, .str t] (.bool (decide (t ∈ l))) := by
  refine FnOK.tree hdraw fp66 (ctr_ok idxP_ok qnone_ok) (PCon_eq _ ext t) ?_
  unfold PCon
  simp only [ok_br, ok_owe, ok_ret, ok_jmp, decide_eq_true_eq, decide_eq_false_iff_not, Int.toNat_natCast, true_and, and_true, Bool.not_eq_true', Bool.not_eq_false', List.drop_zero, List.take_length, D.bool.injEq, D.int.injEq, D.str.injEq, true_implies, Int.le_refl, map_deS, strC_len]
  exact ⟨hl, decide_eq_decide.2 (idxS_mem t l 0 (by omega))⟩
noncomputable def PhasP2 (s : List UInt8) (t : List UInt8) : Go.Sx.Tr := Tr.owe True (Tr.ret (D.bool (List.isPrefixOf t s)) [])
theorem PhasP2_eq (s : List UInt8) (t : List UInt8) : goT Tryz.prog (ctr idxP) (0 : Nat) (finF true (0 : Nat) rs90) (2000 : Nat) [Fr.sc sc90] { tm := envOf (0 : Nat) [D.str s, D.str t], ob := [] } = PhasP2 s t := by kernel_rfl
theorem hasP2_ok (s t : List UInt8) : FnOK Tryz.prog 90 [.str s, .str t] (.bool (t.isPrefixOf s)) :=
  FnOK.tree hdraw fp90 (ctr_ok idxP_ok qnone_ok) (PhasP2_eq s t) ⟨trivial, rfl⟩
set_option maxRecDepth 100000 in
theorem signs_run : fnE tab (go Tryz.prog tab 400) 89 [] = some (.slice (strC Lx.signL) []) := by kernel_rfl
def sgnP : PT := fun f xs => if f = 89 then (match xs with
    | [] => some (.ok True (.slice (strC Lx.signL) []) [])
    | _ => none)
  else if f = 90 then (match xs with
    | [.str s, .str t] => some (.ok True (.bool (t.isPrefixOf s)) [])
    | _ => none)
  else none
theorem sgnP_ok : sgnP.OK := by
  intro f xs rt h
  unfold sgnP at h
  split at h
  · rename_i hf; subst hf
    split at h
    · cases h; exact fun _ => fnE_ok hdraw tab_ok _ signs_run
    · cases h
  split at h
  · rename_i hf; subst hf
    split at h
    · cases h; exact fun _ => hasP2_ok _ _
    · cases h
  · cases h
noncomputable def Csg (src : List UInt8) (a : Int) : Go.Sx.Tr := Tr.owe True (Tr.jmp (cut sc67 (0 : Nat)) { tm := [((0 : Nat), D.ptr (0 : Nat) (0 : Nat)), ((5 : Nat), D.slice [[D.str [(58 : UInt8), (45 : UInt8)]], [D.str [(58 : UInt8), (126 : UInt8)]], [D.str [(58 : UInt8)]], [D.str [(46 : UInt8), (46 : UInt8)]], [D.str [(46 : UInt8)]], [D.str [(44 : UInt8)]], [D.str [(59 : UInt8)]], [D.str [(124 : UInt8)]], [D.str [(40 : UInt8)]], [D.str [(41 : UInt8)]], [D.str [(123 : UInt8)]], [D.str [(125 : UInt8)]], [D.str [(91 : UInt8)]], [D.str [(93 : UInt8)]], [D.str [(61 : UInt8)]], [D.str [(33 : UInt8), (61 : UInt8)]], [D.str [(60 : UInt8), (61 : UInt8)]], [D.str [(62 : UInt8), (61 : UInt8)]], [D.str [(60 : UInt8)]], [D.str [(62 : UInt8)]], [D.str [(43 : UInt8)]], [D.str [(45 : UInt8)]], [D.str [(42 : UInt8)]], [D.str [(47 : UInt8)]], [D.str [(92 : UInt8)]], [D.str [(64 : UInt8)]]] []), ((6 : Nat), D.int IntKind.i64 (26 : Int)), ((7 : Nat), D.int IntKind.i64 (0 : Int))], ob := [((0 : Nat), Ob.cells [D.str src, D.int IntKind.i64 a])] })
theorem Csg_eq (src : List UInt8) (a : Int) : goT Tryz.prog (ctr sgnP) (1 : Nat) (finF false (1 : Nat) rs67) (2000 : Nat) [Fr.sc sc67] { tm := envOf (0 : Nat) ([] ++ [D.ptr (0 : Nat) (0 : Nat)] ++ []), ob := [((0 : Nat), Ob.cells [D.str src, D.int IntKind.i64 a])] } = Csg src a := by kernel_rfl
def hdSg (src : List UInt8) (l : List (List UInt8)) (a i : Int) : St := ⟨[(0, .ptr 0 0), (5, .slice (strC l) []), (6, .int .i64 l.length), (7, .int .i64 i)], [(0, .cells [.str src, .int .i64 a])]⟩
noncomputable def Csg2 (src : List UInt8) (l : List (List UInt8)) (a : Int) (i : Int) : Go.Sx.Tr := brT (decide (i < (↑(List.length l) : Int))) (Tr.owe ((0 : Int) ≤ i ∧ (strC l)[Int.toNat i]? = some [D.str (List.getD l (Int.toNat i) [])]) (Tr.owe ((0 : Int) ≤ a ∧ a ≤ (↑(List.length src) : Int) ∧ (↑(List.length src) : Int) ≤ (↑(List.length src) : Int)) (Tr.owe True (brT (List.isPrefixOf (List.getD l (Int.toNat i) []) (List.drop (Int.toNat a) (List.take (Int.toNat (↑(List.length src) : Int)) src))) (Tr.owe ((-9223372036854775808 : Int) ≤ a + (↑(List.length (List.getD l (Int.toNat i) [])) : Int) ∧ a + (↑(List.length (List.getD l (Int.toNat i) [])) : Int) ≤ (9223372036854775807 : Int)) (Tr.ret (D.str (List.getD l (Int.toNat i) [])) [((0 : Nat), Ob.cells [D.str src, D.int IntKind.i64 (a + (↑(List.length (List.getD l (Int.toNat i) [])) : Int))])])) (Tr.owe ((-9223372036854775808 : Int) ≤ i + (1 : Int) ∧ i + (1 : Int) ≤ (9223372036854775807 : Int)) (Tr.jmp (cut sc67 (0 : Nat)) { tm := [((0 : Nat), D.ptr (0 : Nat) (0 : Nat)), ((5 : Nat), D.slice (strC l) []), ((6 : Nat), D.int IntKind.i64 (↑(List.length l) : Int)), ((7 : Nat), D.int IntKind.i64 (i + (1 : Int)))], ob := [((0 : Nat), Ob.cells [D.str src, D.int IntKind.i64 a])] })))))) (Tr.ret (D.str []) [((0 : Nat), Ob.cells [D.str src, D.int IntKind.i64 a])])
theorem Csg2_eq (src : List UInt8) (l : List (List UInt8)) (a : Int) (i : Int) : goT Tryz.prog (ctr sgnP qnone fun x n => [D.str (List.getD l (Int.toNat n) [])]) (1 : Nat) (finF false (1 : Nat) rs67) (2000 : Nat) (cut sc67 (0 : Nat)) (hdSg src l a i) = Csg2 src l a i := by kernel_rfl
/-- What sign hands back, the signs tried from i on. -/
def sgF (l : List (List UInt8)) (s : List UInt8) : List UInt8 := (l.find? (·.isPrefixOf s)).getD []
theorem sign_at (src : List UInt8) (l : List (List UInt8)) (a : Nat) (ha : a ≤ src.length) (hl : src.length ≤ 4611686018427387904) (hk : l.length ≤ 1000) (hll : ∀ t ∈ l, t.length ≤ 100) : ∀ (m i : Nat), l.length - i = m → i ≤ l.length →
    At Tryz.prog 1 (cut sc67 0) (hdSg src l a i) (FinQ false 1 rs67 fun r ob => r = .str (sgF (l.drop i) (src.drop a)) ∧ ob = [(0, .cells [.str src, .int .i64 ((a + (sgF (l.drop i) (src.drop a)).length : Nat) : Int)])]) := by
  intro m
  induction m with
  | zero =>
    intro i hm hi
    refine At.tree (ctr_ok sgnP_ok qnone_ok) (Csg2_eq src l a i) ?_
    unfold Csg2
    rw [List.drop_eq_nil_of_le (by omega)]
    simp only [ok_br, ok_owe, ok_ret, ok_jmp, decide_eq_true_eq, decide_eq_false_iff_not, Int.toNat_natCast, true_and, and_true, Bool.not_eq_true', Bool.not_eq_false', List.drop_zero, List.take_length, D.bool.injEq, D.int.injEq, D.str.injEq, true_implies, Int.le_refl, sgF, List.find?_nil, Option.getD_none, List.length_nil, Nat.add_zero]
    exact ⟨fun h => by omega, fun _ => trivial⟩
  | succ m ih =>
    intro i hm hi
    refine At.tree (ctr_ok sgnP_ok qnone_ok) (Csg2_eq src l a i) ?_
    unfold Csg2
    rw [drop_getD (d := []) (by omega)]
    have hb : (l.getD i []).length ≤ 100 := hll _ (by
      rw [List.getD_eq_getElem?_getD, List.getElem?_eq_getElem (by omega)]
      exact List.getElem_mem _)
    simp only [ok_br, ok_owe, ok_ret, ok_jmp, decide_eq_true_eq, decide_eq_false_iff_not, Int.toNat_natCast, true_and, and_true, Bool.not_eq_true', Bool.not_eq_false', List.drop_zero, List.take_length, D.bool.injEq, D.int.injEq, D.str.injEq, true_implies, Int.le_refl]
    refine ⟨fun _ => ⟨⟨by omega, strC_get (by omega)⟩, by omega, fun h => ?_, fun h => ⟨by omega, ?_⟩⟩, fun h => by omega⟩
    · have e : sgF (l.getD i [] :: l.drop (i + 1)) (src.drop a) = l.getD i [] := by simp only [sgF, List.find?_cons, h, Option.getD_some]
      rw [e]
      exact ⟨by omega, rfl, rfl⟩
    · have e : sgF (l.getD i [] :: l.drop (i + 1)) (src.drop a) = sgF (l.drop (i + 1)) (src.drop a) := by simp only [sgF, List.find?_cons, h]
      rw [e]
      exact ih (i + 1) (by omega) (by omega)
theorem sign_ok (src : List UInt8) (a : Nat) (ha : a ≤ src.length) (hl : src.length ≤ 4611686018427387904) : CallL Tryz.prog (.func (.func 67) [] []) [.ptr 0 0] [(0, .cells [.str src, .int .i64 a])]
    fun r ob => r = .str (Lx.signOf (src.drop a)) ∧ ob = [(0, .cells [.str src, .int .i64 ((a + (Lx.signOf (src.drop a)).length : Nat) : Int)])] :=
  CallL.tree hdraw fp67 (ctr_ok sgnP_ok qnone_ok) (Csg_eq src a) ⟨trivial, sign_at src Lx.signL a ha hl (by decide) (by decide) _ 0 rfl (Nat.zero_le _)⟩
end Go.Proofs.YtdkbjkccpnhjgaaGreatDoor
