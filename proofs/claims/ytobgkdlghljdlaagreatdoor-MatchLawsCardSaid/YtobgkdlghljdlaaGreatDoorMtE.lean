/- Bindings: binding a name. -/
import Derived.Test.YtobgkdlghljdlaaGreatDoorMtD
set_option linter.unusedSectionVars false
set_option linter.unusedVariables false
set_option linter.unusedSimpArgs false
set_option linter.deprecated false
set_option maxRecDepth 100000
namespace Go.Proofs.YtobgkdlghljdlaaGreatDoor
open Go.Sx
abbrev zB : List D := [.str [], .int .u8 0, .int .i64 0, .str [], .slice [] []]
abbrev nRow (es : List (List D)) : Obs := [(0, .cells [.vec 1]), (1, .arr false 5 45 es)]
theorem bdL_take (l : List Bd) (i : Nat) : bdL (l.take i) = (bdL l).take i := by simp [bdL, List.map_take]
theorem bdL_drop (l : List Bd) (i : Nat) : bdL (l.drop i) = (bdL l).drop i := by simp [bdL, List.map_drop]
theorem bdL_app (l m : List Bd) : bdL (l ++ m) = bdL l ++ bdL m := by simp [bdL]
/-- The copy that result makes. -/
theorem r0_at (l : List Bd) (hl : l.length ≤ 1000000) (hf : ∀ x ∈ l, x.v.few 1000) : ∀ (m i : Nat), l.length - i = m → i ≤ l.length →
    At Tryz.prog 1 (cut sc52 0) (hdR0 (bdL l) (bdL (l.take i)) l.length i) (FinQ false 1 rs52 fun r ob => r = .vec 1 ∧ ob = obT (bdL l) ++ [(1, .arr true 5 45 (bdL l))]) := by
  intro m
  induction m with
  | zero =>
    intro i hm hi
    refine At.tree mCtr_ok (MR02_eq (bdL l) (bdL (l.take i)) l.length i [] 0 0 [] []) ?_
    unfold MR02
    rw [List.take_of_length_le (show l.length ≤ i by omega)]
    simp only [ok_br, ok_owe, ok_ret, ok_jmp, decide_eq_true_eq, decide_eq_false_iff_not, Int.toNat_natCast, true_and, and_true, Bool.not_eq_true', Bool.not_eq_false', List.drop_zero, List.take_length, D.bool.injEq, D.int.injEq, D.str.injEq, true_implies, Int.le_refl]
    exact ⟨fun h => by omega, fun _ => by first | rfl | exact ⟨rfl, rfl⟩ | trivial⟩
  | succ m ih =>
    intro i hm hi
    have h1 : i < l.length := by omega
    have hx := bdL_get h1
    have hc := mcop_ok l[i].v (hf _ (List.getElem_mem h1))
    have hI := ih (i + 1) (by omega) (by omega)
    have ht : bdL (l.take (i + 1)) = bdL (l.take i) ++ [l[i].c] := by
      rw [List.take_add_one, List.getElem?_eq_getElem h1, bdL_app]; rfl
    rw [ht] at hI
    generalize l[i] = x at hx hc hI
    obtain ⟨mx, ⟨k, n, s, a⟩⟩ := x
    refine At.tree mCtr_ok (MR02_eq (bdL l) (bdL (l.take i)) l.length i mx k n s (Tm.cellsL a)) ?_
    unfold MR02
    simp only [ok_br, ok_owe, ok_ret, ok_jmp, decide_eq_true_eq, decide_eq_false_iff_not, Int.toNat_natCast, true_and, and_true, Bool.not_eq_true', Bool.not_eq_false', List.drop_zero, List.take_length, D.bool.injEq, D.int.injEq, D.str.injEq, true_implies, Int.le_refl, bdL_len, List.length_take]
    exact ⟨fun _ => ⟨⟨by omega, hx⟩, hc, ⟨by simp [allLen], by omega⟩, by omega, hI⟩, fun h => by omega⟩
theorem res0_ok (l : List Bd) (hl : l.length ≤ 1000000) (hf : ∀ x ∈ l, x.v.few 1000) : CallL Tryz.prog (.func (.func 52) [] []) [.ptr 0 0] (obT (bdL l)) fun r ob => r = .slice (bdL l) [] ∧ ob = obT (bdL l) := by
  refine CallL.vecR (ob0 := obT (bdL l)) (k := 1) (sz := 5) (e := 45) rfl ?_
  refine CallL.tree hdraw fp52 mCtr_ok (MR0_eq (bdL l)) ?_
  unfold MR0
  rw [ok_jmp, bdL_len]
  exact r0_at l hl hf _ 0 rfl (Nat.zero_le _)
theorem r1_at (l : List Bd) (hl : l.length ≤ 1000001) (hf : ∀ x ∈ l, x.v.few 1000) : ∀ (m i : Nat), l.length - i = m → i ≤ l.length →
    At Tryz.prog 2 (cut sc52 0) (hdR1 (bdL l) (bdL (l.take i)) l.length i) (FinQ false 2 rs52 fun r ob => r = .vec 2 ∧ ob = nRow (bdL l) ++ [(2, .arr true 5 45 (bdL l))]) := by
  intro m
  induction m with
  | zero =>
    intro i hm hi
    refine At.tree mCtr_ok (MR12_eq (bdL l) (bdL (l.take i)) l.length i [] 0 0 [] []) ?_
    unfold MR12
    rw [List.take_of_length_le (show l.length ≤ i by omega)]
    simp only [ok_br, ok_owe, ok_ret, ok_jmp, decide_eq_true_eq, decide_eq_false_iff_not, Int.toNat_natCast, true_and, and_true, Bool.not_eq_true', Bool.not_eq_false', List.drop_zero, List.take_length, D.bool.injEq, D.int.injEq, D.str.injEq, true_implies, Int.le_refl]
    exact ⟨fun h => by omega, fun _ => by first | rfl | exact ⟨rfl, rfl⟩ | trivial⟩
  | succ m ih =>
    intro i hm hi
    have h1 : i < l.length := by omega
    have hx := bdL_get h1
    have hc := mcop_ok l[i].v (hf _ (List.getElem_mem h1))
    have hI := ih (i + 1) (by omega) (by omega)
    have ht : bdL (l.take (i + 1)) = bdL (l.take i) ++ [l[i].c] := by
      rw [List.take_add_one, List.getElem?_eq_getElem h1, bdL_app]; rfl
    rw [ht] at hI
    generalize l[i] = x at hx hc hI
    obtain ⟨mx, ⟨k, n, s, a⟩⟩ := x
    refine At.tree mCtr_ok (MR12_eq (bdL l) (bdL (l.take i)) l.length i mx k n s (Tm.cellsL a)) ?_
    unfold MR12
    simp only [ok_br, ok_owe, ok_ret, ok_jmp, decide_eq_true_eq, decide_eq_false_iff_not, Int.toNat_natCast, true_and, and_true, Bool.not_eq_true', Bool.not_eq_false', List.drop_zero, List.take_length, D.bool.injEq, D.int.injEq, D.str.injEq, true_implies, Int.le_refl, bdL_len, List.length_take]
    exact ⟨fun _ => ⟨by omega, hx, hc, ⟨by simp [allLen], by omega⟩, by omega, hI⟩, fun h => by omega⟩
theorem res1_ok (l : List Bd) (hl : l.length ≤ 1000001) (hf : ∀ x ∈ l, x.v.few 1000) : CallL Tryz.prog (.func (.func 52) [] []) [.ptr 0 0] (nRow (bdL l)) fun r ob => r = .slice (bdL l) [] ∧ ob = nRow (bdL l) := by
  refine CallL.vecR (ob0 := nRow (bdL l)) (k := 2) (sz := 5) (e := 45) rfl ?_
  refine CallL.tree hdraw fp52 mCtr_ok (MR1_eq (bdL l)) ?_
  unfold MR1
  rw [ok_jmp, bdL_len]
  exact r1_at l hl hf _ 0 rfl (Nat.zero_le _)
/-- A name that is there. -/
theorem tbind0 (l : List Bd) (t : List UInt8) (v w : Tm) (hl : l.length ≤ 1000000) (hs : srtB l) (hw : ∀ x ∈ l, x.v.wf 281474976710656) (hv : v.wf 281474976710656) (hg : getB l t = some w) : CallL Tryz.prog (.func (.func 51) [] []) [.ptr 0 0, .str t, .agg v.cells] (obT (bdL l)) fun r ob => r = .bool (w.eqb v) ∧ ob = obT (bdL l) := by
  have hfi := find_ok l t hl hs
  unfold fndD at hfi
  have hgp := getB_pos (s := t) hs
  have hlt : posB l t < l.length := Nat.lt_of_not_le fun h => by
    rw [List.getElem?_eq_none h, hg] at hgp; cases hgp
  have hx := bdL_get hlt
  rw [List.getElem?_eq_getElem hlt, hg] at hgp
  simp only at hgp
  have he := equal_ok l[posB l t].v v (hw _ (List.getElem_mem hlt)) hv
  by_cases e : l[posB l t].n = t
  · rw [if_pos e] at hgp
    have hgp : w = l[posB l t].v := Option.some.inj hgp
    rw [← hgp] at he
    rw [hg] at hfi
    have hx : (bdL l)[posB l t]? = some (Bd.c ⟨l[posB l t].n, w⟩) := by rw [hx, hgp]
    generalize l[posB l t].n = nm at hx
    obtain ⟨k, n, s, a⟩ := w
    obtain ⟨kv, nv, sv, av⟩ := v
    refine CallL.tree hdraw fp51 mCtr_ok (MBi_eq (bdL l) t kv nv sv (Tm.cellsL av)) ?_
    unfold MBi
    rw [ok_jmp]
    refine At.tree mCtr_ok (MB0_eq (bdL l) t kv nv sv (Tm.cellsL av) (posB l t) true) ?_
    unfold MB0
    refine ⟨hfi, ?_⟩
    rw [ok_jmp]
    refine At.tree mCtr_ok (MB1_eq (bdL l) t kv nv sv (Tm.cellsL av) (posB l t) true (Tm.eqb (.mk k n s a) (.mk kv nv sv av)) nm k n s (Tm.cellsL a)) ?_
    unfold MB1
    exact ⟨⟨by omega, by rw [Int.toNat_natCast]; exact hx⟩, he, rfl, rfl⟩
  · rw [if_neg e] at hgp; cases hgp
theorem cpy_ins {es : List (List D)} {c z : List D} {i : Nat} (hi : i ≤ es.length) : cpyL ((cpyL (List.replicate (es.length + 1) z) 0 (es.take i)).set i c) (i + 1) (es.drop i) = es.take i ++ c :: es.drop i := by
  have e1 : cpyL (List.replicate (es.length + 1) z) 0 (es.take i) = es.take i ++ z :: List.replicate (es.length - i) z := by
    have h1 : (es.take i).take (es.length + 1) = es.take i := List.take_of_length_le (by rw [List.length_take]; omega)
    have h2 : es.length + 1 - i = (es.length - i) + 1 := by omega
    unfold cpyL
    rw [List.length_replicate, Nat.sub_zero, h1, List.length_take, Nat.min_eq_left hi, List.drop_replicate, Nat.zero_add, h2]
    rfl
  have hlen : (es.take i).length = i := by rw [List.length_take]; omega
  rw [e1]
  have e2 : (es.take i ++ z :: List.replicate (es.length - i) z).set i c = es.take i ++ c :: List.replicate (es.length - i) z := by
    rw [List.set_append_right _ _ (by omega), hlen, Nat.sub_self]; rfl
  rw [e2]
  unfold cpyL
  have e3 : (es.take i ++ c :: List.replicate (es.length - i) z).take (i + 1) = es.take i ++ [c] := by
    rw [List.take_append, hlen, List.take_of_length_le (show (es.take i).length ≤ i + 1 by omega)]
    have : i + 1 - i = 1 := by omega
    rw [this]; rfl
  have e4 : (es.take i ++ c :: List.replicate (es.length - i) z).length = es.length + 1 := by
    rw [List.length_append, hlen, List.length_cons, List.length_replicate]; omega
  have e5 : (es.drop i).take (es.length + 1 - (i + 1)) = es.drop i := List.take_of_length_le (by rw [List.length_drop]; omega)
  have e6 : (es.take i ++ c :: List.replicate (es.length - i) z).drop (i + 1 + (es.drop i).length) = [] := List.drop_eq_nil_of_le (by rw [e4, List.length_drop]; omega)
  rw [e3, e4, e5, e6]
  simp
theorem bdL_all (l : List Bd) : ∀ q ∈ bdL l, q.length = 5 := fun q hq => by
  obtain ⟨x, _, rfl⟩ := List.mem_map.1 hq
  exact bdc_len x
theorem bdL_allLen (l : List Bd) : allLen 5 (bdL l ++ []) := by
  rw [List.append_nil]
  intro q hq
  exact bdL_all l q hq
theorem MB2_rep (es : List (List D)) (t : List UInt8) (kv nv : Int) (sv : List UInt8) (av : List (List D)) (i : Int) : MB2 es t kv nv sv av i = .owe ((-9223372036854775808 : Int) ≤ (es.length : Int) + 1 ∧ (es.length : Int) + 1 ≤ 9223372036854775807) (.owe ((0 : Int) ≤ (es.length : Int) + 1 ∧ ((es.length : Int) + 1) * 72 ≤ 281474976710656 ∧ (es.length : Int) + 1 ≤ 1073741824) (.jmp (frg sc51 3) ⟨[(0, .ptr 0 0), (1, .str t), (5, .ptr 1 0), (7, .int .i64 i), (9, .vec 2)], [(0, .cells [.slice es []]), (1, .cells (tC kv nv sv av)), (2, .arr false 5 45 (List.replicate (es.length + 1) zB))]⟩)) := by kernel_rfl
/-- A name that is new. -/
theorem tbind1 (l : List Bd) (t : List UInt8) (v : Tm) (hl : l.length ≤ 1000000) (hs : srtB l) (hg : getB l t = none) : CallL Tryz.prog (.func (.func 51) [] []) [.ptr 0 0, .str t, .agg v.cells] (obT (bdL l)) fun r ob => r = .bool true ∧ ob = nRow (bdL (insB' l t v)) := by
  have hfi := find_ok l t hl hs
  unfold fndD at hfi
  rw [hg] at hfi
  have hp := posB_le l t
  generalize hi : posB l t = i at hfi hp
  have hr : bdL (insB' l t v) = (bdL l).take i ++ Bd.c ⟨t, v⟩ :: (bdL l).drop i := by
    unfold insB'
    rw [hi, bdL_app, bdL_take]
    show _ ++ Bd.c ⟨t, v⟩ :: bdL (l.drop i) = _
    rw [bdL_drop]
  rw [hr, ← cpy_ins (z := zB) (by rw [bdL_len]; exact hp)]
  have hL := bdL_len l
  have hA := bdL_all l
  have hAA := bdL_allLen l
  generalize bdL l = es at hfi hL hA hAA
  obtain ⟨kv, nv, sv, av⟩ := v
  refine CallL.tree hdraw fp51 mCtr_ok (MBi_eq es t kv nv sv (Tm.cellsL av)) ?_
  unfold MBi
  rw [ok_jmp]
  refine At.tree mCtr_ok (MB0_eq es t kv nv sv (Tm.cellsL av) i false) ?_
  unfold MB0
  refine ⟨hfi, ?_⟩
  rw [ok_jmp]
  refine At.tree mCtr_ok (MB1_eq es t kv nv sv (Tm.cellsL av) i false false [] 0 0 [] []) ?_
  unfold MB1
  have h2 : ∀ row : List (List D), row.length = es.length + 1 → At Tryz.prog 1 (frg sc51 4) ⟨[(0, .ptr 0 0), (1, .str t), (5, .ptr 1 0), (7, .int .i64 i), (9, .vec 2)], [(0, .cells [.slice es []]), (1, .cells (tC kv nv sv (Tm.cellsL av))), (2, .arr false 5 45 row)]⟩ (FinQ false 1 rs51 fun r ob => r = .bool true ∧ ob = nRow (cpyL (row.set i (Bd.c ⟨t, .mk kv nv sv av⟩)) (i + 1) (es.drop i))) := fun row hrow => by
    refine At.tree mCtr_ok (MB4_eq es t kv nv sv (Tm.cellsL av) row i) ?_
    unfold MB4
    refine ⟨⟨by omega, by omega⟩, by rw [Int.toNat_natCast]; omega, ?_⟩
    rw [ok_jmp]
    have hl2 : (row.set i (Bd.c ⟨t, .mk kv nv sv av⟩)).length = es.length + 1 := by rw [List.length_set]; exact hrow
    show At Tryz.prog 1 (frg sc51 5) ⟨[(0, .ptr 0 0), (7, .int .i64 i), (9, .vec 1)], [(0, .cells [.slice es []]), (1, .arr false 5 45 (row.set i (Bd.c ⟨t, .mk kv nv sv av⟩)))]⟩ _
    generalize row.set i (Bd.c ⟨t, .mk kv nv sv av⟩) = row2 at hl2 ⊢
    refine At.tree mCtr_ok (MB5_eq es row2 (es.drop i) [] i) ?_
    unfold MB5
    have et : ((i : Int) + 1).toNat = i + 1 := by omega
    rw [List.append_nil, Int.toNat_natCast, Int.toNat_natCast, List.take_length, List.drop_length, et]
    rw [List.append_nil] at hAA
    refine ⟨by omega, ⟨fun h => by rw [h] at hl2; simp at hl2, by omega, by omega⟩, ⟨hAA, by omega, by omega, by omega⟩, ⟨rfl, rfl⟩, badN_zero.2 fun q hq => hA q (List.mem_of_mem_drop hq), ?_⟩
    rw [ok_jmp]
    generalize cpyL row2 (i + 1) (es.drop i) = row3
    refine At.tree mCtr_ok (MB6_eq es row3) ?_
    unfold MB6
    rw [ok_jmp]
    refine At.tree mCtr_ok (MB7_eq row3) ?_
    unfold MB7
    exact ⟨rfl, rfl⟩
  have h1 : ∀ row : List (List D), row.length = es.length + 1 → At Tryz.prog 1 (frg sc51 3) ⟨[(0, .ptr 0 0), (1, .str t), (5, .ptr 1 0), (7, .int .i64 i), (9, .vec 2)], [(0, .cells [.slice es []]), (1, .cells (tC kv nv sv (Tm.cellsL av))), (2, .arr false 5 45 row)]⟩ (FinQ false 1 rs51 fun r ob => r = .bool true ∧ ob = nRow (cpyL ((cpyL row 0 (es.take i)).set i (Bd.c ⟨t, .mk kv nv sv av⟩)) (i + 1) (es.drop i))) := fun row hrow => by
    refine At.tree mCtr_ok (MB3_eq es t kv nv sv (Tm.cellsL av) row (es.take i) (es.drop i) i) ?_
    unfold MB3
    rw [List.append_nil, Int.toNat_natCast]
    rw [List.append_nil] at hAA
    refine ⟨⟨hAA, by omega, by omega, by omega⟩, ⟨rfl, rfl⟩, badN_zero.2 fun q hq => hA q (List.mem_of_mem_take hq), ?_⟩
    rw [ok_jmp]
    exact h2 _ (by rw [cpyL_len _ _ _ (Nat.zero_le _)]; exact hrow)
  refine At.tree mCtr_ok (MB2_eq es t kv nv sv (Tm.cellsL av) i) ?_
  rw [MB2_rep]
  refine ⟨by omega, by omega, ?_⟩
  rw [ok_jmp]
  exact h1 (List.replicate (es.length + 1) zB) (List.length_replicate ..)
/-- What Bind answers. -/
def bndD : Option (List Bd) → D
  | some c => .tuple [.slice (bdL c) [], .bool true]
  | none => .tuple [.slice [] [], .bool false]
/-- BINDING A NAME. -/
theorem mbind_ok (b : List Bd) (hl : b.length ≤ 1000000) (hw : ∀ x ∈ b, x.wf 281474976710656) (hd : ∀ x ∈ b, x.v.depth ≤ 1000000000) (hf : ∀ x ∈ b, x.v.few 1000) (t : List UInt8) (ht : t.length ≤ 281474976710656) (v : Tm) (hv : v.wf 281474976710656) (hvd : v.depth ≤ 1000000000) (hvf : v.few 1000) : FnOK Tryz.prog 25 [.slice (bdL b) [], .str t, .agg v.cells] (bndD (bindB b t v)) := by
  have h1 := mva_ok b hl hw hd
  have h2 := variable_ok t (by omega)
  have h3 := value_ok v hv hvd
  have huv : (v.all Tm.plain && v.valid) = v.value := rfl
  rw [huv] at h3
  unfold bindB
  by_cases hb : validB b = true
  · have hs := (validB_iff.1 hb).1
    cases hg : getB b t with
    | some w =>
      dsimp only
      have h4 := tbind0 b t v w hl hs (fun x hx => (hw x hx).2) hv hg
      have h5 := res0_ok b hl hf
      rw [hb] at h1 ⊢
      generalize Lx.variableB t = v2 at h2 ⊢
      generalize v.value = v3 at h3 ⊢
      generalize w.eqb v = e at h4 ⊢
      obtain ⟨kv, nv, sv, av⟩ := v
      refine FnOK.tree hdraw fp25 (dCtr_ok (bndQ_ok _ _ _)) (MBn0_eq (bdL b) t kv nv sv (Tm.cellsL av) true v2 v3 e (bdL b)) ?_
      unfold MBn0
      cases v2
      · exact ⟨h1, h2, rfl⟩
      · cases v3
        · exact ⟨h1, h2, h3, rfl⟩
        · cases e
          · exact ⟨h1, h2, h3, h4, rfl⟩
          · exact ⟨h1, h2, h3, h4, h5, rfl⟩
    | none =>
      have h4 := tbind1 b t v hl hs hg
      have h5 := res1_ok (insB' b t v) (by rw [insB_len]; omega) fun x hx => by
        rcases insB_mem.1 hx with rfl | hx
        · exact hvf
        · exact hf x hx
      rw [hb] at h1 ⊢
      generalize Lx.variableB t = v2 at h2 ⊢
      generalize v.value = v3 at h3 ⊢
      generalize insB' b t v = c at h4 h5 ⊢
      obtain ⟨kv, nv, sv, av⟩ := v
      refine FnOK.tree hdraw fp25 (dCtr_ok (bndQ_ok _ _ _)) (MBn1_eq (bdL b) t kv nv sv (Tm.cellsL av) true v2 v3 (bdL c) (bdL c)) ?_
      unfold MBn1
      cases v2
      · exact ⟨h1, h2, rfl⟩
      · cases v3
        · exact ⟨h1, h2, h3, rfl⟩
        · exact ⟨h1, h2, h3, h4, h5, rfl⟩
  · have hb := Bool.eq_false_iff.2 hb
    rw [hb] at h1 ⊢
    obtain ⟨kv, nv, sv, av⟩ := v
    refine FnOK.tree hdraw fp25 (dCtr_ok (bndQ_ok _ _ _)) (MBn0_eq (bdL b) t kv nv sv (Tm.cellsL av) false false false false []) ?_
    unfold MBn0
    exact ⟨h1, rfl⟩
end Go.Proofs.YtobgkdlghljdlaaGreatDoor
