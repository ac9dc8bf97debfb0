/- LexTells. -/
import Derived.Test.YtdkbjkccpnhjgaaGreatDoorRefM
set_option linter.unusedSectionVars false
set_option linter.unusedVariables false
set_option linter.unusedSimpArgs false
set_option linter.deprecated false
set_option maxRecDepth 100000
namespace Go.Proofs.YtdkbjkccpnhjgaaGreatDoor
open Go.Sx
noncomputable def PTh (es : List (List D)) (ext : List (List D)) : Go.Sx.Tr := Tr.jmp (cut sc37 (0 : Nat)) { tm := [((0 : Nat), D.slice es ext), ((3 : Nat), D.vec (0 : Nat)), ((4 : Nat), D.int IntKind.i64 (0 : Int))], ob := [((0 : Nat), Ob.arr true (3 : Nat) (66 : TypeId) [])] }
theorem PTh_eq (es : List (List D)) (ext : List (List D)) : goT Tryz.prog (ctr libT) (0 : Nat) (finF true (0 : Nat) rs37) (2000 : Nat) [Fr.sc sc37] { tm := envOf (0 : Nat) [D.slice es ext], ob := [] } = PTh es ext := by kernel_rfl
def hdTh (es ext fs : List (List D)) (i : Int) : St := ⟨[(0, .slice es ext), (3, .vec 0), (4, .int .i64 i)], [(0, .arr true 3 66 fs)]⟩
noncomputable def PTh2 (l : List Lx.Tk) (ext : List (List D)) (fs : List (List D)) (i : Int) : Go.Sx.Tr := brT (decide (i < (↑(List.length (List.map Lx.tokC l)) : Int))) (Tr.owe ((0 : Int) ≤ i ∧ (List.map Lx.tokC l)[Int.toNat i]? = some [D.int IntKind.u8 (Prod.fst (List.getD l (Int.toNat i) ((0 : Int), [], (0 : Int)))), D.str (Prod.fst (Prod.snd (List.getD l (Int.toNat i) ((0 : Int), [], (0 : Int))))), D.int IntKind.i64 (Prod.snd (Prod.snd (List.getD l (Int.toNat i) ((0 : Int), [], (0 : Int)))))]) (Tr.owe ((-9223372036854775808 : Int) ≤ Prod.fst (List.getD l (Int.toNat i) ((0 : Int), [], (0 : Int))) ∧ Prod.fst (List.getD l (Int.toNat i) ((0 : Int), [], (0 : Int))) ≤ (9223372036854775807 : Int)) (Tr.owe ((0 : Int) ≤ i ∧ (List.map Lx.tokC l)[Int.toNat i]? = some [D.int IntKind.u8 (Prod.fst (List.getD l (Int.toNat i) ((0 : Int), [], (0 : Int)))), D.str (Prod.fst (Prod.snd (List.getD l (Int.toNat i) ((0 : Int), [], (0 : Int))))), D.int IntKind.i64 (Prod.snd (Prod.snd (List.getD l (Int.toNat i) ((0 : Int), [], (0 : Int)))))]) (Tr.owe ((0 : Int) ≤ i ∧ (List.map Lx.tokC l)[Int.toNat i]? = some [D.int IntKind.u8 (Prod.fst (List.getD l (Int.toNat i) ((0 : Int), [], (0 : Int)))), D.str (Prod.fst (Prod.snd (List.getD l (Int.toNat i) ((0 : Int), [], (0 : Int))))), D.int IntKind.i64 (Prod.snd (Prod.snd (List.getD l (Int.toNat i) ((0 : Int), [], (0 : Int)))))]) (Tr.owe (allLen (3 : Nat) [[D.int IntKind.i64 (Prod.fst (List.getD l (Int.toNat i) ((0 : Int), [], (0 : Int)))), D.str (Prod.fst (Prod.snd (List.getD l (Int.toNat i) ((0 : Int), [], (0 : Int))))), D.int IntKind.i64 (Prod.snd (Prod.snd (List.getD l (Int.toNat i) ((0 : Int), [], (0 : Int)))))]] ∧ List.length fs + (1 : Nat) ≤ (1073741824 : Nat)) (Tr.owe ((-9223372036854775808 : Int) ≤ i + (1 : Int) ∧ i + (1 : Int) ≤ (9223372036854775807 : Int)) (Tr.jmp (cut sc37 (0 : Nat)) { tm := [((0 : Nat), D.slice (List.map Lx.tokC l) ext), ((3 : Nat), D.vec (0 : Nat)), ((4 : Nat), D.int IntKind.i64 (i + (1 : Int)))], ob := [((0 : Nat), Ob.arr true (3 : Nat) (66 : TypeId) (fs ++ [[D.int IntKind.i64 (Prod.fst (List.getD l (Int.toNat i) ((0 : Int), [], (0 : Int)))), D.str (Prod.fst (Prod.snd (List.getD l (Int.toNat i) ((0 : Int), [], (0 : Int))))), D.int IntKind.i64 (Prod.snd (Prod.snd (List.getD l (Int.toNat i) ((0 : Int), [], (0 : Int)))))]]))] }))))))) (Tr.ret (D.own (3 : Nat) (66 : TypeId) fs) [])
theorem PTh2_eq (l : List Lx.Tk) (ext : List (List D)) (fs : List (List D)) (i : Int) : goT Tryz.prog (ctr libT qnone fun x n => Lx.tokC (List.getD l (Int.toNat n) default)) (0 : Nat) (finF true (0 : Nat) rs37) (2000 : Nat) (cut sc37 (0 : Nat)) (hdTh (List.map Lx.tokC l) ext fs i) = PTh2 l ext fs i := by kernel_rfl
noncomputable def PRj (es : List (List D)) (ext : List (List D)) : Go.Sx.Tr := Tr.jmp (cut sc17 (0 : Nat)) { tm := [((0 : Nat), D.slice es ext), ((3 : Nat), D.str []), ((4 : Nat), D.int IntKind.i64 (0 : Int))], ob := [] }
theorem PRj_eq (es : List (List D)) (ext : List (List D)) : goT Tryz.prog (ctr libT) (0 : Nat) (finF true (0 : Nat) rs17) (2000 : Nat) [Fr.sc sc17] { tm := envOf (0 : Nat) [D.slice es ext], ob := [] } = PRj es ext := by kernel_rfl
def hdRj (es ext : List (List D)) (a : List UInt8) (i : Int) : St := ⟨[(0, .slice es ext), (3, .str a), (4, .int .i64 i)], []⟩
noncomputable def PRj2 (l : List Lx.Tk) (ext : List (List D)) (a : List UInt8) (i : Int) : Go.Sx.Tr := brT (decide (i < (↑(List.length (List.map tokR l)) : Int))) (brT (decide ((0 : Int) < i)) (Tr.owe (List.length a + (1 : Nat) ≤ (4611686018427387904 : Nat)) (Tr.owe ((0 : Int) ≤ i ∧ (List.map tokR l)[Int.toNat i]? = some [D.int IntKind.i64 (Prod.fst (List.getD l (Int.toNat i) ((0 : Int), [], (0 : Int)))), D.str (Prod.fst (Prod.snd (List.getD l (Int.toNat i) ((0 : Int), [], (0 : Int))))), D.int IntKind.i64 (Prod.snd (Prod.snd (List.getD l (Int.toNat i) ((0 : Int), [], (0 : Int)))))]) (Tr.owe (List.length (a ++ [(32 : UInt8)]) + List.length (Prod.fst (Prod.snd (List.getD l (Int.toNat i) ((0 : Int), [], (0 : Int))))) ≤ (4611686018427387904 : Nat)) (Tr.owe ((-9223372036854775808 : Int) ≤ i + (1 : Int) ∧ i + (1 : Int) ≤ (9223372036854775807 : Int)) (Tr.jmp (cut sc17 (0 : Nat)) { tm := [((0 : Nat), D.slice (List.map tokR l) ext), ((3 : Nat), D.str (a ++ [(32 : UInt8)] ++ Prod.fst (Prod.snd (List.getD l (Int.toNat i) ((0 : Int), [], (0 : Int)))))), ((4 : Nat), D.int IntKind.i64 (i + (1 : Int)))], ob := [] }))))) (Tr.owe ((0 : Int) ≤ i ∧ (List.map tokR l)[Int.toNat i]? = some [D.int IntKind.i64 (Prod.fst (List.getD l (Int.toNat i) ((0 : Int), [], (0 : Int)))), D.str (Prod.fst (Prod.snd (List.getD l (Int.toNat i) ((0 : Int), [], (0 : Int))))), D.int IntKind.i64 (Prod.snd (Prod.snd (List.getD l (Int.toNat i) ((0 : Int), [], (0 : Int)))))]) (Tr.owe (List.length a + List.length (Prod.fst (Prod.snd (List.getD l (Int.toNat i) ((0 : Int), [], (0 : Int))))) ≤ (4611686018427387904 : Nat)) (Tr.owe ((-9223372036854775808 : Int) ≤ i + (1 : Int) ∧ i + (1 : Int) ≤ (9223372036854775807 : Int)) (Tr.jmp (cut sc17 (0 : Nat)) { tm := [((0 : Nat), D.slice (List.map tokR l) ext), ((3 : Nat), D.str (a ++ Prod.fst (Prod.snd (List.getD l (Int.toNat i) ((0 : Int), [], (0 : Int)))))), ((4 : Nat), D.int IntKind.i64 (i + (1 : Int)))], ob := [] }))))) (Tr.ret (D.str a) [])
theorem PRj2_eq (l : List Lx.Tk) (ext : List (List D)) (a : List UInt8) (i : Int) : goT Tryz.prog (ctr libT qnone fun x n => tokR (List.getD l (Int.toNat n) default)) (0 : Nat) (finF true (0 : Nat) rs17) (2000 : Nat) (cut sc17 (0 : Nat)) (hdRj (List.map tokR l) ext a i) = PRj2 l ext a i := by kernel_rfl
theorem th_at (l : List Lx.Tk) (ext : List (List D)) (hl : l.length ≤ 1073741824) (hk : ∀ t ∈ l, 0 ≤ t.1 ∧ t.1 ≤ 6) : ∀ (m i : Nat), l.length - i = m → i ≤ l.length →
    At Tryz.prog 0 (cut sc37 0) (hdTh (l.map Lx.tokC) ext ((l.take i).map tokR) i) (FinQ true 0 rs37 fun r _ => r = .own 3 66 (l.map tokR)) := by
  intro m
  induction m with
  | zero =>
    intro i hm hi
    refine At.tree (ctr_ok libT_ok qnone_ok) (PTh2_eq l ext _ i) ?_
    unfold PTh2
    rw [List.take_of_length_le (by omega)]
    simp only [ok_br, ok_owe, ok_ret, ok_jmp, decide_eq_true_eq, decide_eq_false_iff_not, Int.toNat_natCast, true_and, and_true, Bool.not_eq_true', Bool.not_eq_false', List.drop_zero, List.take_length, D.bool.injEq, D.int.injEq, D.str.injEq, true_implies, Int.le_refl, List.length_map]
    exact ⟨fun h => by omega, fun _ => trivial⟩
  | succ m ih =>
    intro i hm hi
    have h1 : i < l.length := by omega
    refine At.tree (ctr_ok libT_ok qnone_ok) (PTh2_eq l ext _ i) ?_
    unfold PTh2
    have hI := ih (i + 1) (by omega) (by omega)
    have hg := Lx.tokC_get h1
    have hd : (default : Lx.Tk) = (0, [], 0) := rfl
    have hm := hk (l.getD i (0, [], 0)) (by rw [List.getD_eq_getElem?_getD, List.getElem?_eq_getElem h1]; exact List.getElem_mem h1)
    have et : (l.take (i + 1)).map tokR = (l.take i).map tokR ++ [tokR (l.getD i (0, [], 0))] := by
      rw [List.take_add_one, List.getElem?_eq_getElem h1, List.map_append, List.getD_eq_getElem?_getD, List.getElem?_eq_getElem h1]; rfl
    have hlt : (l.take i).length ≤ i := by rw [List.length_take]; omega
    rw [et] at hI
    rw [hd] at hg
    simp only [ok_br, ok_owe, ok_ret, ok_jmp, decide_eq_true_eq, decide_eq_false_iff_not, Int.toNat_natCast, true_and, and_true, Bool.not_eq_true', Bool.not_eq_false', List.drop_zero, List.take_length, D.bool.injEq, D.int.injEq, D.str.injEq, true_implies, Int.le_refl, List.length_map]
    generalize l.getD i (0, [], 0) = t at hg hm hI ⊢
    exact ⟨fun _ => ⟨⟨by omega, hg⟩, by omega, ⟨by omega, hg⟩, ⟨by omega, hg⟩, ⟨allLen_cons.2 ⟨rfl, allLen_nil _⟩, by omega⟩, by omega, hI⟩, fun h => by omega⟩
theorem th_ok (l : List Lx.Tk) (ext : List (List D)) (hl : l.length ≤ 1073741824) (hk : ∀ t ∈ l, 0 ≤ t.1 ∧ t.1 ≤ 6) : FnOK Tryz.prog 37 [.slice (l.map Lx.tokC) ext] (.own 3 66 (l.map tokR)) :=
  FnOK.tree hdraw fp37 (ctr_ok libT_ok qnone_ok) (PTh_eq _ ext) (th_at l ext hl hk _ 0 rfl (Nat.zero_le _))
theorem tokR_get {l : List Lx.Tk} {i : Nat} (h : i < l.length) : (l.map tokR)[i]? = some (tokR (l.getD i (0, [], 0))) := by
  rw [List.getElem?_map, List.getElem?_eq_getElem h]
  simp [List.getD, h]
theorem join_pre (xs : List (List UInt8)) (sep : List UInt8) (k : Nat) : (Lib.join (xs.take k) sep).length ≤ (Lib.join xs sep).length := by
  cases xs with
  | nil => simp
  | cons x r =>
    cases k with
    | zero => simp [Lib.join_nil]
    | succ k =>
      rw [List.take_succ_cons, Lib.join_cons, Lib.join_cons, List.length_append, List.length_append]
      have := Lib.joinTail_take_le sep r k
      omega
theorem join_step (xs : List (List UInt8)) (sep : List UInt8) (k : Nat) (h : k < xs.length) (h0 : 0 < k) : Lib.join (xs.take (k + 1)) sep = Lib.join (xs.take k) sep ++ sep ++ xs.getD k [] := by
  cases xs with
  | nil => simp at h
  | cons x r =>
    cases k with
    | zero => omega
    | succ k =>
      rw [List.length_cons] at h
      rw [List.take_succ_cons, List.take_succ_cons, Lib.join_cons, Lib.join_cons, Lib.joinTail_take_succ sep r k (r.getD k []) (by rw [List.getD_eq_getElem?_getD, List.getElem?_eq_getElem (show k < r.length by omega)]; rfl)]
      simp [List.append_assoc]
theorem rj_at (l : List Lx.Tk) (ext : List (List D)) (hl : l.length ≤ 1073741824) (hj : (Lib.join (txs l) [32]).length ≤ 140737488355328) : ∀ (m i : Nat), l.length - i = m → i ≤ l.length →
    At Tryz.prog 0 (cut sc17 0) (hdRj (l.map tokR) ext (Lib.join ((txs l).take i) [32]) i) (FinQ true 0 rs17 fun r _ => r = .str (Lib.join (txs l) [32])) := by
  have hlt : (txs l).length = l.length := by simp [txs]
  intro m
  induction m with
  | zero =>
    intro i hm hi
    refine At.tree (ctr_ok libT_ok qnone_ok) (PRj2_eq l ext _ i) ?_
    unfold PRj2
    rw [List.take_of_length_le (show (txs l).length ≤ i by omega)]
    simp only [ok_br, ok_owe, ok_ret, ok_jmp, decide_eq_true_eq, decide_eq_false_iff_not, Int.toNat_natCast, true_and, and_true, Bool.not_eq_true', Bool.not_eq_false', List.drop_zero, List.take_length, D.bool.injEq, D.int.injEq, D.str.injEq, true_implies, Int.le_refl, List.length_map]
    exact ⟨fun h => by omega, fun _ => trivial⟩
  | succ m ih =>
    intro i hm hi
    have h1 : i < l.length := by omega
    refine At.tree (ctr_ok libT_ok qnone_ok) (PRj2_eq l ext _ i) ?_
    unfold PRj2
    have hI := ih (i + 1) (by omega) (by omega)
    have hg := tokR_get h1
    have hgt : (txs l).getD i [] = (l.getD i (0, [], 0)).2.1 := by
      unfold txs
      rw [List.getD_eq_getElem?_getD, List.getElem?_map, List.getElem?_eq_getElem h1, List.getD_eq_getElem?_getD, List.getElem?_eq_getElem h1]; rfl
    have hp := join_pre (txs l) [32] (i + 1)
    simp only [ok_br, ok_owe, ok_ret, ok_jmp, decide_eq_true_eq, decide_eq_false_iff_not, Int.toNat_natCast, true_and, and_true, Bool.not_eq_true', Bool.not_eq_false', List.drop_zero, List.take_length, D.bool.injEq, D.int.injEq, D.str.injEq, true_implies, Int.le_refl, List.length_map]
    by_cases h0 : i = 0
    · subst h0
      have e : Lib.join ((txs l).take (0 + 1)) [32] = (l.getD 0 (0, [], 0)).2.1 := by
        rw [← hgt]
        have : 0 < (txs l).length := by omega
        cases hx : txs l with
        | nil => rw [hx] at this; simp at this
        | cons x r => simp [Lib.join_one]
      rw [e] at hI hp
      have e0 : Lib.join ((txs l).take 0) [32] = [] := rfl
      rw [e0]
      generalize l.getD 0 (0, [], 0) = t at hg hI hp ⊢
      refine ⟨fun _ => ⟨fun h => by omega, fun _ => ⟨⟨by omega, hg⟩, by rw [List.length_nil]; omega, by omega, hI⟩⟩, fun h => by omega⟩
    · have e := join_step (txs l) [32] i (by omega) (by omega)
      rw [hgt] at e
      rw [e] at hI hp
      generalize l.getD i (0, [], 0) = t at hg hI hp ⊢
      rw [List.length_append, List.length_append, List.length_singleton] at hp
      refine ⟨fun _ => ⟨fun _ => ⟨by omega, ⟨by omega, hg⟩, by rw [List.length_append, List.length_singleton]; omega, by omega, hI⟩, fun h => by omega⟩, fun h => by omega⟩
theorem rj_ok (l : List Lx.Tk) (ext : List (List D)) (hl : l.length ≤ 1073741824) (hj : (Lib.join (txs l) [32]).length ≤ 140737488355328) : FnOK Tryz.prog 17 [.slice (l.map tokR) ext] (.str (Lib.join (txs l) [32])) :=
  FnOK.tree hdraw fp17 (ctr_ok libT_ok qnone_ok) (PRj_eq _ ext) (rj_at l ext hl hj _ 0 rfl (Nat.zero_le _))
def deR : List D → Lx.Tk
  | [.int _ k, .str t, .int _ a] => (k, t, a)
  | _ => (0, [], 0)
theorem map_deR (l : List Lx.Tk) : (l.map tokR).map deR = l := by
  rw [List.map_map]; exact List.map_id'' (fun _ => rfl) l
def samP : PT := fun f xs =>
  if f = 37 then (match xs with
    | [.slice es ext] => some (.ok (es = (es.map Lx.deT).map Lx.tokC ∧ es.length ≤ 1073741824 ∧ ∀ t ∈ es.map Lx.deT, 0 ≤ t.1 ∧ t.1 ≤ 6) (.own 3 66 ((es.map Lx.deT).map tokR)) [])
    | _ => none)
  else none
theorem samP_ok : samP.OK := by
  intro f xs rt h
  unfold samP at h
  split at h
  · rename_i hf; subst hf
    split at h
    · rename_i es ext
      cases h
      rintro ⟨h1, h2, h3⟩
      have := th_ok (es.map Lx.deT) ext (by simpa using h2) h3
      rwa [← h1] at this
    · cases h
  · cases h
noncomputable def PSm (es : List (List D)) (ext : List (List D)) (es2 : List (List D)) (ext2 : List (List D)) : Go.Sx.Tr := brT (!decide ((↑(List.length es) : Int) = (↑(List.length es2) : Int))) (Tr.ret (D.bool false) []) (Tr.owe (es = List.map Lx.tokC (List.map Lx.deT es) ∧ List.length es ≤ (1073741824 : Nat) ∧ ∀ (t : Lx.Tk), t ∈ List.map Lx.deT es → (0 : Int) ≤ Prod.fst t ∧ Prod.fst t ≤ (6 : Int)) (Tr.jmp (cut sc16 (0 : Nat)) { tm := [((1 : Nat), D.slice es2 ext2), ((5 : Nat), D.vec (0 : Nat)), ((6 : Nat), D.int IntKind.i64 (0 : Int))], ob := [((0 : Nat), Ob.arr true (3 : Nat) (66 : TypeId) (List.map tokR (List.map Lx.deT es)))] }))
theorem PSm_eq (es : List (List D)) (ext : List (List D)) (es2 : List (List D)) (ext2 : List (List D)) : goT Tryz.prog (ctr samP) (0 : Nat) (finF true (0 : Nat) rs16) (2000 : Nat) [Fr.sc sc16] { tm := envOf (0 : Nat) [D.slice es ext, D.slice es2 ext2], ob := [] } = PSm es ext es2 ext2 := by kernel_rfl
def hdSm (es2 ext2 fs : List (List D)) (i : Int) : St := ⟨[(1, .slice es2 ext2), (5, .vec 0), (6, .int .i64 i)], [(0, .arr true 3 66 fs)]⟩
noncomputable def PSm2 (l : List Lx.Tk) (ext2 : List (List D)) (i : Int) : Go.Sx.Tr := brT (decide (i < (↑(List.length (List.map tokR l)) : Int)))
  (Tr.owe ((0 : Int) ≤ i ∧ (List.map tokR l)[Int.toNat i]? = some [D.int IntKind.i64 (Prod.fst (List.getD l (Int.toNat i) ((0 : Int), [], (0 : Int)))), D.str (Prod.fst (Prod.snd (List.getD l (Int.toNat i) ((0 : Int), [], (0 : Int))))), D.int IntKind.i64 (Prod.snd (Prod.snd (List.getD l (Int.toNat i) ((0 : Int), [], (0 : Int)))))])
    (Tr.owe ((0 : Int) ≤ i ∧ (List.map tokR l)[Int.toNat i]? = some [D.int IntKind.i64 (Prod.fst (List.getD l (Int.toNat i) ((0 : Int), [], (0 : Int)))), D.str (Prod.fst (Prod.snd (List.getD l (Int.toNat i) ((0 : Int), [], (0 : Int))))), D.int IntKind.i64 (Prod.snd (Prod.snd (List.getD l (Int.toNat i) ((0 : Int), [], (0 : Int)))))])
      (brT
        (match true with
        | true => !(decide (Prod.fst (List.getD l (Int.toNat i) ((0 : Int), [], (0 : Int))) = Prod.fst (List.getD l (Int.toNat i) ((0 : Int), [], (0 : Int)))) && (decide (Prod.fst (Prod.snd (List.getD l (Int.toNat i) ((0 : Int), [], (0 : Int)))) = Prod.fst (Prod.snd (List.getD l (Int.toNat i) ((0 : Int), [], (0 : Int))))) && (decide (Prod.snd (Prod.snd (List.getD l (Int.toNat i) ((0 : Int), [], (0 : Int)))) = Prod.snd (Prod.snd (List.getD l (Int.toNat i) ((0 : Int), [], (0 : Int))))) && true)))
        | false => decide (Prod.fst (List.getD l (Int.toNat i) ((0 : Int), [], (0 : Int))) = Prod.fst (List.getD l (Int.toNat i) ((0 : Int), [], (0 : Int)))) && (decide (Prod.fst (Prod.snd (List.getD l (Int.toNat i) ((0 : Int), [], (0 : Int)))) = Prod.fst (Prod.snd (List.getD l (Int.toNat i) ((0 : Int), [], (0 : Int))))) && (decide (Prod.snd (Prod.snd (List.getD l (Int.toNat i) ((0 : Int), [], (0 : Int)))) = Prod.snd (Prod.snd (List.getD l (Int.toNat i) ((0 : Int), [], (0 : Int))))) && true)))
        (Tr.ret (D.bool false) []) (Tr.owe ((-9223372036854775808 : Int) ≤ i + (1 : Int) ∧ i + (1 : Int) ≤ (9223372036854775807 : Int)) (Tr.jmp (cut sc16 (0 : Nat)) { tm := [((1 : Nat), D.slice (List.map tokR l) ext2), ((5 : Nat), D.vec (0 : Nat)), ((6 : Nat), D.int IntKind.i64 (i + (1 : Int)))], ob := [((0 : Nat), Ob.arr true (3 : Nat) (66 : TypeId) (List.map tokR l))] })))))
  (Tr.ret (D.bool true) [])
theorem PSm2_eq (l : List Lx.Tk) (ext2 : List (List D)) (i : Int) : goT Tryz.prog (ctr samP qnone fun x n => tokR (List.getD l (Int.toNat n) default)) (0 : Nat) (finF true (0 : Nat) rs16) (2000 : Nat) (cut sc16 (0 : Nat)) (hdSm (List.map tokR l) ext2 (List.map tokR l) i) = PSm2 l ext2 i := by kernel_rfl
theorem sm_at (l : List Lx.Tk) (ext : List (List D)) (hl : l.length ≤ 1073741824) : ∀ (m i : Nat), l.length - i = m → i ≤ l.length →
    At Tryz.prog 0 (cut sc16 0) (hdSm (l.map tokR) ext (l.map tokR) i) (FinQ true 0 rs16 fun r _ => r = .bool true) := by
  intro m
  induction m with
  | zero =>
    intro i hm hi
    refine At.tree (ctr_ok samP_ok qnone_ok) (PSm2_eq l ext i) ?_
    unfold PSm2
    simp only [ok_br, ok_owe, ok_ret, ok_jmp, decide_eq_true_eq, decide_eq_false_iff_not, Int.toNat_natCast, true_and, and_true, Bool.not_eq_true', Bool.not_eq_false', List.drop_zero, List.take_length, D.bool.injEq, D.int.injEq, D.str.injEq, true_implies, Int.le_refl, List.length_map]
    exact ⟨fun h => by omega, fun _ => trivial⟩
  | succ m ih =>
    intro i hm hi
    have h1 : i < l.length := by omega
    refine At.tree (ctr_ok samP_ok qnone_ok) (PSm2_eq l ext i) ?_
    unfold PSm2
    have hI := ih (i + 1) (by omega) (by omega)
    have hg := tokR_get h1
    simp only [decide_true, Bool.and_self, Bool.not_true, ok_br, ok_owe, ok_ret, ok_jmp, decide_eq_true_eq, decide_eq_false_iff_not, Int.toNat_natCast, true_and, and_true, Bool.not_eq_true', Bool.not_eq_false', List.drop_zero, List.take_length, D.bool.injEq, D.int.injEq, D.str.injEq, true_implies, Int.le_refl, List.length_map]
    generalize l.getD i (0, [], 0) = t at hg ⊢
    exact ⟨fun _ => ⟨⟨by omega, hg⟩, ⟨by omega, hg⟩, fun h => (by cases h), by omega, hI⟩, fun h => by omega⟩
theorem same_ok (l : List Lx.Tk) (ext ext2 : List (List D)) (hl : l.length ≤ 1073741824) (hk : ∀ t ∈ l, 0 ≤ t.1 ∧ t.1 ≤ 6) : FnOK Tryz.prog 16 [.slice (l.map Lx.tokC) ext, .slice (l.map tokR) ext2] (.bool true) := by
  refine FnOK.tree hdraw fp16 (ctr_ok samP_ok qnone_ok) (PSm_eq _ ext _ ext2) ?_
  unfold PSm
  have e : decide (((l.map Lx.tokC).length : Int) = ((l.map tokR).length : Int)) = true := decide_eq_true (by simp)
  rw [e]
  rw [Lx.map_deT]
  simp only [ok_br, ok_owe, ok_ret, ok_jmp, decide_eq_true_eq, decide_eq_false_iff_not, Int.toNat_natCast, true_and, and_true, Bool.not_eq_true', Bool.not_eq_false', List.drop_zero, List.take_length, D.bool.injEq, D.int.injEq, D.str.injEq, true_implies, Int.le_refl, Bool.not_true]
  exact ⟨fun h => (by cases h), ⟨by simpa using hl, hk⟩, sm_at l ext2 hl _ 0 rfl (Nat.zero_le _)⟩
/- What is lexed is short, its kinds are small. -/
theorem tok_kind (l : List UInt8) : 0 ≤ (Lx.tok l).1 ∧ (Lx.tok l).1 ≤ 6 := by
  have hw : ∀ t, 0 ≤ (Lx.wordK t).1 ∧ (Lx.wordK t).1 ≤ 6 := by
    intro t; unfold Lx.wordK; repeat' split
    all_goals decide
  unfold Lx.tok
  split
  · decide
  · repeat' split
    · exact hw _
    all_goals simp
theorem lex_small (s : List UInt8) : (Lx.lexR s).1.length ≤ 32768 ∧ (Lib.join (txs (Lx.lexR s).1) [32]).length ≤ 65536 ∧ ∀ t ∈ (Lx.lexR s).1, 0 ≤ t.1 ∧ t.1 ≤ 6 := by
  rw [Lx.lexR_eq]
  split
  · exact ⟨Nat.zero_le _, by decide, fun t h => by cases h⟩
  · rename_i hs
    have ts := (Lx.run_toks _ s 0 (Nat.lt_succ_self _)).1
    have hv := Lx.run_val _ s 0 (Nat.lt_succ_self _)
    have h1 := Lx.join_le (Lx.run 0 s).1
    have h2 := Lx.run_lens _ s 0 (Nat.lt_succ_self _)
    rcases hS : Lx.run 0 s with ⟨l, o, p⟩
    rw [hS] at ts hv h1 h2
    cases o with
    | some x => obtain ⟨a, e⟩ := x; exact ⟨Nat.zero_le _, by show (Lib.join (txs []) [32]).length ≤ 65536; decide, fun t h => by cases h⟩
    | none =>
      simp only at ts hv h1 h2
      simp only [Lx.ans]
      refine ⟨by omega, ?_, fun t ht => ?_⟩
      · unfold txs; omega
      · have := (hv t ht).2
        have hk := tok_kind t.2.1
        rw [this] at hk
        exact hk
def lxsP : PT := fun f xs =>
  if f = 6 then (match xs with
    | [] => some (.ok True (.bool true) [])
    | _ => none)
  else if f = 9 then (match xs with
    | [.str s] => some (.ok True (.tuple [.slice ((Lx.lexR s).1.map Lx.tokC) [], .int .i64 (Lx.lexR s).2.1, .int .i64 (Lx.lexR s).2.2]) [])
    | _ => none)
  else if f = 15 then (match xs with
    | [.str s] => some (.ok True (.tuple [.slice ((Lx.lexR s).1.map tokR) [], .int .i64 (Lx.lexR s).2.1, .int .i64 (Lx.lexR s).2.2]) [])
    | _ => none)
  else if f = 16 then (match xs with
    | [.slice es _, .slice es2 _] => some (.ok (es = (es2.map deR).map Lx.tokC ∧ es2 = (es2.map deR).map tokR ∧ es2.length ≤ 1073741824 ∧ ∀ t ∈ es2.map deR, 0 ≤ t.1 ∧ t.1 ≤ 6) (.bool true) [])
    | _ => none)
  else if f = 14 then (match xs with
    | [.slice es _] => some (.ok (es = (es.map Lx.deT).map Lx.tokC ∧ es.length ≤ 1073741824 ∧ (Lib.join (txs (es.map Lx.deT)) [32]).length ≤ 140737488355328) (.str (Lib.join (txs (es.map Lx.deT)) [32])) [])
    | _ => none)
  else if f = 17 then (match xs with
    | [.slice es _] => some (.ok (es = (es.map deR).map tokR ∧ es.length ≤ 1073741824 ∧ (Lib.join (txs (es.map deR)) [32]).length ≤ 140737488355328) (.str (Lib.join (txs (es.map deR)) [32])) [])
    | _ => none)
  else none
theorem lxsP_ok : lxsP.OK := by
  intro f xs rt h
  unfold lxsP at h
  split at h
  · rename_i hf; subst hf
    split at h
    · cases h; exact fun _ => awake_ok
    · cases h
  split at h
  · rename_i hf; subst hf
    split at h
    · cases h; exact fun _ => lex_ok _
    · cases h
  split at h
  · rename_i hf; subst hf
    split at h
    · cases h; exact fun _ => refLex_ok _
    · cases h
  split at h
  · rename_i hf; subst hf
    split at h
    · rename_i es ext es2 ext2
      cases h
      rintro ⟨h1, h2, h3, h4⟩
      have := same_ok (es2.map deR) ext ext2 (by simpa using h3) h4
      rwa [← h1, ← h2] at this
    · cases h
  split at h
  · rename_i hf; subst hf
    split at h
    · rename_i es ext
      cases h
      rintro ⟨h1, h2, h3⟩
      have := join_ok (es.map Lx.deT) ext (by simpa using h2) h3
      rwa [← h1] at this
    · cases h
  split at h
  · rename_i hf; subst hf
    split at h
    · rename_i es ext
      cases h
      rintro ⟨h1, h2, h3⟩
      have := rj_ok (es.map deR) ext (by simpa using h2) h3
      rwa [← h1] at this
    · cases h
  · cases h
noncomputable def PLx (s : List UInt8) : Go.Sx.Tr := Tr.owe True (Tr.owe True (Tr.owe (List.map Lx.tokC (Prod.fst (Lx.lexR s)) = List.map Lx.tokC (List.map deR (List.map tokR (Prod.fst (Lx.lexR s)))) ∧ List.map tokR (Prod.fst (Lx.lexR s)) = List.map tokR (List.map deR (List.map tokR (Prod.fst (Lx.lexR s)))) ∧ List.length (List.map tokR (Prod.fst (Lx.lexR s))) ≤ (1073741824 : Nat) ∧ ∀ (t : Lx.Tk), t ∈ List.map deR (List.map tokR (Prod.fst (Lx.lexR s))) → (0 : Int) ≤ Prod.fst t ∧ Prod.fst t ≤ (6 : Int)) (brT (decide (Prod.fst (Prod.snd (Lx.lexR s)) = Prod.fst (Prod.snd (Lx.lexR s)))) (brT (decide (Prod.snd (Prod.snd (Lx.lexR s)) = Prod.snd (Prod.snd (Lx.lexR s)))) (Tr.owe (List.map Lx.tokC (Prod.fst (Lx.lexR s)) = List.map Lx.tokC (List.map Lx.deT (List.map Lx.tokC (Prod.fst (Lx.lexR s)))) ∧ List.length (List.map Lx.tokC (Prod.fst (Lx.lexR s))) ≤ (1073741824 : Nat) ∧ List.length (Lib.join (txs (List.map Lx.deT (List.map Lx.tokC (Prod.fst (Lx.lexR s))))) [(32 : UInt8)]) ≤ (140737488355328 : Nat)) (Tr.owe (List.map tokR (Prod.fst (Lx.lexR s)) = List.map tokR (List.map deR (List.map tokR (Prod.fst (Lx.lexR s)))) ∧ List.length (List.map tokR (Prod.fst (Lx.lexR s))) ≤ (1073741824 : Nat) ∧ List.length (Lib.join (txs (List.map deR (List.map tokR (Prod.fst (Lx.lexR s))))) [(32 : UInt8)]) ≤ (140737488355328 : Nat)) (Tr.ret (D.bool (decide (Lib.join (txs (List.map Lx.deT (List.map Lx.tokC (Prod.fst (Lx.lexR s))))) [(32 : UInt8)] = Lib.join (txs (List.map deR (List.map tokR (Prod.fst (Lx.lexR s))))) [(32 : UInt8)]))) []))) (Tr.ret (D.bool false) [])) (Tr.ret (D.bool false) []))))
theorem PLx_eq (s : List UInt8) : goT Tryz.prog (ctr lxsP) (0 : Nat) (finF true (0 : Nat) rs7) (2000 : Nat) [Fr.sc sc7] { tm := envOf (0 : Nat) [D.str s], ob := [] } = PLx s := by kernel_rfl
theorem lexes_ok (s : List UInt8) : FnOK Tryz.prog 7 [.str s] (.bool true) := by
  refine FnOK.tree hdraw fp7 (ctr_ok lxsP_ok qnone_ok) (PLx_eq s) ?_
  unfold PLx
  obtain ⟨h1, h2, h3⟩ := lex_small s
  generalize Lx.lexR s = x at h1 h2 h3 ⊢
  obtain ⟨l, a, e⟩ := x
  simp only at h1 h2 h3
  simp only [map_deR, Lx.map_deT, List.length_map, decide_true, ok_br, ok_owe, ok_ret, ok_jmp, decide_eq_true_eq, decide_eq_false_iff_not, Int.toNat_natCast, true_and, and_true, Bool.not_eq_true', Bool.not_eq_false', List.drop_zero, List.take_length, D.bool.injEq, D.int.injEq, D.str.injEq, true_implies, Int.le_refl]
  exact ⟨⟨by omega, h3⟩, ⟨⟨⟨by omega, by omega⟩, by omega, by omega⟩, fun h => by cases h⟩, fun h => by cases h⟩
def telP : PT := fun f xs => if f = 7 then (match xs with
    | [.str _] => some (.ok True (.bool true) [])
    | _ => none)
  else lxsP f xs
theorem telP_ok : telP.OK := by
  intro f xs rt h
  unfold telP at h
  split at h
  · rename_i hf; subst hf
    split at h
    · cases h; exact fun _ => lexes_ok _
    · cases h
  · exact lxsP_ok _ _ _ h
end Go.Proofs.YtdkbjkccpnhjgaaGreatDoor
