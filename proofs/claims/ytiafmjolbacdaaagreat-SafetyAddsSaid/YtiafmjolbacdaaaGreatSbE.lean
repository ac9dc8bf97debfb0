/- Safe. -/
import Derived.Test.YtiafmjolbacdaaaGreatSafX
set_option linter.unusedSectionVars false
set_option linter.unusedVariables false
set_option linter.unusedSimpArgs false
set_option linter.deprecated false
set_option maxRecDepth 100000
namespace Go.Proofs.YtiafmjolbacdaaaGreat
open Go.Sx Go.RowKit
noncomputable def CS1 (k : Int) (hs : List (List D)) (bs : List (List D)) (ts : List (List D)) (a1 : Int) (a2 : Int) (a3 : List UInt8) (a4 : List (List D)) (b1 : Int) (b2 : Int) (b3 : List UInt8) (b4 : List (List D)) (c1 : Int) (c2 : Int) (c3 : List UInt8) (c4 : List (List D)) (d1 : Int) (d2 : Int) (d3 : List UInt8) (d4 : List (List D)) (zk : List D) : Tr := Tr.owe (CallL Tryz.prog (D.func (Fn.func 29) [] []) [D.agg [D.int .u8 k, D.slice hs [], D.int .u8 a1, D.int .i64 a2, D.str a3, D.slice a4 [], D.int .u8 b1, D.int .i64 b2, D.str b3, D.slice b4 [], D.slice bs [], D.int .u8 c1, D.int .i64 c2, D.str c3, D.slice c4 [], D.int .u8 d1, D.int .i64 d2, D.str d3, D.slice d4 [], D.slice ts []]] [] fun r0 ob0 => r0 = D.map 0 ∧ ob0 = [(0, Ob.gen (Gen.mapS zk (D.agg [])) [])]) (Tr.ret (D.bool (decide ((0 : Int) < (↑(List.length zk) : Int)))) [])
theorem CS1_eq (k : Int) (hs : List (List D)) (bs : List (List D)) (ts : List (List D)) (a1 : Int) (a2 : Int) (a3 : List UInt8) (a4 : List (List D)) (b1 : Int) (b2 : Int) (b3 : List UInt8) (b4 : List (List D)) (c1 : Int) (c2 : Int) (c3 : List UInt8) (c4 : List (List D)) (d1 : Int) (d2 : Int) (d3 : List UInt8) (d4 : List (List D)) (zk : List D) : goT Tryz.prog (ctr libT (asmO (D.map 0) [(0, Ob.gen (Gen.mapS zk (D.agg [])) [])])) 0 (finF false 0 rs32) 2000 [Fr.sc sc32] { tm := envOf 0 ([] ++ [D.agg (rC k hs bs ts a1 a2 a3 a4 b1 b2 b3 b4 c1 c2 c3 c4 d1 d2 d3 d4)] ++ []), ob := [] } = CS1 k hs bs ts a1 a2 a3 a4 b1 b2 b3 b4 c1 c2 c3 c4 d1 d2 d3 d4 zk := by kernel_rfl
noncomputable def CIa (rs : List (List D)) : Tr := Tr.jmp (cut sc44 0) { tm := [(0, D.slice rs []), (1, D.func (Fn.func 32) [] []), (7, D.int .i64 (↑(List.length rs) : Int)), (8, D.int .i64 (0 : Int))], ob := [] }
theorem CIa_eq (rs : List (List D)) : goT Tryz.prog (ctr libT) 0 (finF false 0 rs44) 2000 [Fr.sc sc44] { tm := envOf 0 ([] ++ [D.slice rs [], D.func (Fn.func 32) [] []] ++ []), ob := [] } = CIa rs := by kernel_rfl
def hdIF (rs : List (List D)) (m i : Int) : St := ⟨[(0, .slice rs []), (1, .func (.func 32) [] []), (7, .int .i64 m), (8, .int .i64 i)], []⟩
noncomputable def CIh (rs : List (List D)) (m : Int) (i : Int) (k : Int) (hs : List (List D)) (bs : List (List D)) (ts : List (List D)) (a1 : Int) (a2 : Int) (a3 : List UInt8) (a4 : List (List D)) (b1 : Int) (b2 : Int) (b3 : List UInt8) (b4 : List (List D)) (c1 : Int) (c2 : Int) (c3 : List UInt8) (c4 : List (List D)) (d1 : Int) (d2 : Int) (d3 : List UInt8) (d4 : List (List D)) (b : Bool) : Tr := brT (decide (i < m)) (Tr.owe ((0 : Int) ≤ i ∧ rs[Int.toNat i]? = some [D.int .u8 k, D.slice hs [], D.int .u8 a1, D.int .i64 a2, D.str a3, D.slice a4 [], D.int .u8 b1, D.int .i64 b2, D.str b3, D.slice b4 [], D.slice bs [], D.int .u8 c1, D.int .i64 c2, D.str c3, D.slice c4 [], D.int .u8 d1, D.int .i64 d2, D.str d3, D.slice d4 [], D.slice ts []]) (Tr.owe (CallL Tryz.prog (D.func (Fn.func 32) [] []) [D.agg [D.int .u8 k, D.slice hs [], D.int .u8 a1, D.int .i64 a2, D.str a3, D.slice a4 [], D.int .u8 b1, D.int .i64 b2, D.str b3, D.slice b4 [], D.slice bs [], D.int .u8 c1, D.int .i64 c2, D.str c3, D.slice c4 [], D.int .u8 d1, D.int .i64 d2, D.str d3, D.slice d4 [], D.slice ts []]] [] fun r0 ob0 => r0 = D.bool b ∧ ob0 = []) (brT b (Tr.ret (D.int .i64 i) []) (Tr.owe ((-9223372036854775808 : Int) ≤ i + (1 : Int) ∧ i + (1 : Int) ≤ (9223372036854775807 : Int)) (Tr.jmp (cut sc44 0) { tm := [(0, D.slice rs []), (1, D.func (Fn.func 32) [] []), (7, D.int .i64 m), (8, D.int .i64 (i + (1 : Int)))], ob := [] }))))) (Tr.ret (D.int .i64 (-1 : Int)) [])
theorem CIh_eq (rs : List (List D)) (m : Int) (i : Int) (k : Int) (hs : List (List D)) (bs : List (List D)) (ts : List (List D)) (a1 : Int) (a2 : Int) (a3 : List UInt8) (a4 : List (List D)) (b1 : Int) (b2 : Int) (b3 : List UInt8) (b4 : List (List D)) (c1 : Int) (c2 : Int) (c3 : List UInt8) (c4 : List (List D)) (d1 : Int) (d2 : Int) (d3 : List UInt8) (d4 : List (List D)) (b : Bool) : goT Tryz.prog (ctr libT (asmO (D.bool b) []) (eOne (rC k hs bs ts a1 a2 a3 a4 b1 b2 b3 b4 c1 c2 c3 c4 d1 d2 d3 d4))) 0 (finF false 0 rs44) 2000 (cut sc44 0) (hdIF rs m i) = CIh rs m i k hs bs ts a1 a2 a3 a4 b1 b2 b3 b4 c1 c2 c3 c4 d1 d2 d3 d4 b := by kernel_rfl
noncomputable def CCa (rs : List (List D)) (n : Int) : Tr := Tr.owe (CallL Tryz.prog (D.func (Fn.func 44) [] []) [D.slice rs [], D.func (Fn.func 32) [] []] [] fun r0 ob0 => r0 = D.int .i64 n ∧ ob0 = []) (Tr.ret (D.bool (decide ((0 : Int) ≤ n))) [])
theorem CCa_eq (rs : List (List D)) (n : Int) : goT Tryz.prog (ctr libT (asmO (D.int .i64 n) [])) 0 (finF false 0 rs31) 2000 [Fr.sc sc31] { tm := envOf 0 ([] ++ [D.slice rs [], D.func (Fn.func 32) [] []] ++ []), ob := [] } = CCa rs n := by kernel_rfl
noncomputable def PSf (rs : List (List D)) (sh : List (List D)) (co : List (List D)) (al : Bool) (b : Bool) : Tr := Tr.owe (CallL Tryz.prog (D.func (Fn.func 31) [] []) [D.slice rs [], D.func (Fn.func 32) [] []] [] fun r0 ob0 => r0 = D.bool b ∧ ob0 = []) (Tr.ret (D.bool !b) [])
theorem PSf_eq (rs : List (List D)) (sh : List (List D)) (co : List (List D)) (al : Bool) (b : Bool) : goT Tryz.prog (ctr libT (asmO (D.bool b) [])) 0 (finF true 0 rs18) 2000 [Fr.sc sc18] { tm := envOf 0 [D.agg [D.slice rs [], D.slice sh [], D.slice co [], D.bool al]], ob := [] } = PSf rs sh co al b := by kernel_rfl
def ruL (l : List Ru) : List (List D) := l.map Ru.cs
theorem ruL_len (l : List Ru) : (ruL l).length = l.length := by simp [ruL]
theorem ruL_get {l : List Ru} {i : Nat} (h : i < l.length) : (ruL l)[i]? = some l[i].cs := by simp [ruL, h]
def badR (r : Ru) : Bool := !(unsafeS r).isEmpty
theorem safe1_ok (r : Ru) (hr : okR r) : CallL Tryz.prog (.func (.func 32) [] []) [.agg r.cs] [] fun d ob => d = .bool (badR r) ∧ ob = [] := by
  obtain ⟨k, hs, ⟨a1, a2, a3, a4⟩, ⟨b1, b2, b3, b4⟩, bs, ⟨c1, c2, c3, c4⟩, ⟨d1, d2, d3, d4⟩, ts⟩ := r
  have hu := unsafe_ok k hs a1 a2 a3 a4 b1 b2 b3 b4 bs c1 c2 c3 c4 d1 d2 d3 d4 ts hr
  unfold badR
  generalize unsafeS ⟨k, hs, .mk a1 a2 a3 a4, .mk b1 b2 b3 b4, bs, .mk c1 c2 c3 c4, .mk d1 d2 d3 d4, ts⟩ = F at hu ⊢
  refine CallL.tree hdraw fp32 (ctr_ok libT_ok (asmO_ok _ _)) (CS1_eq k (heL hs) (boL bs) (Tm.cellsL ts) a1 a2 a3 (Tm.cellsL a4) b1 b2 b3 (Tm.cellsL b4) c1 c2 c3 (Tm.cellsL c4) d1 d2 d3 (Tm.cellsL d4) (kS F)) ?_
  unfold CS1
  rw [ok_owe, ok_ret]
  refine ⟨hu, ?_, rfl⟩
  cases F with
  | nil => rfl
  | cons a r => simp [kS]
def idxS : List Ru → Int → Int
  | [], _ => -1
  | r :: l, i => if badR r = true then i else idxS l (i + 1)
theorem idxS_ge : ∀ (l : List Ru) (i : Int), 0 ≤ i → (0 ≤ idxS l i ↔ l.any badR = true)
  | [], i, h => by simp [idxS]
  | r :: l, i, h => by
    unfold idxS
    rw [List.any_cons]
    cases hb : badR r with
    | true => simp [h]
    | false => simp [idxS_ge l (i + 1) (by omega)]
theorem index_at (l : List Ru) (hl : l.length ≤ 1000000) (hr : ∀ r ∈ l, okR r) : ∀ (m i : Nat), l.length - i = m → i ≤ l.length →
    At Tryz.prog 0 (cut sc44 0) (hdIF (ruL l) l.length i) (FinQ false 0 rs44 fun d ob => d = .int .i64 (idxS (l.drop i) i) ∧ ob = []) := by
  intro m
  induction m with
  | zero =>
    intro i hm hi
    refine At.tree (ctr_ok libT_ok (asmO_ok _ _)) (CIh_eq (ruL l) l.length i 0 [] [] [] 0 0 [] [] 0 0 [] [] 0 0 [] [] 0 0 [] [] true) ?_
    unfold CIh
    rw [List.drop_eq_nil_of_le (by omega : l.length ≤ i)]
    simp only [ok_br, ok_owe, ok_ret, ok_jmp, decide_eq_true_eq, decide_eq_false_iff_not, Int.toNat_natCast, true_and, and_true, Bool.not_eq_true', Bool.not_eq_false', List.drop_zero, List.take_length, D.bool.injEq, D.int.injEq, D.str.injEq, true_implies, Int.le_refl]
    exact ⟨fun h => by omega, fun _ => rfl⟩
  | succ m ih =>
    intro i hm hi
    have h1 : i < l.length := by omega
    have hg := ruL_get h1
    have hI := ih (i + 1) (by omega) (by omega)
    have hsf := safe1_ok _ (hr _ (List.getElem_mem h1))
    rw [drop_cons h1]
    simp only [idxS]
    generalize l[i] = r at hg hsf ⊢
    generalize badR r = b at hsf ⊢
    obtain ⟨k, hs, ⟨a1, a2, a3, a4⟩, ⟨b1, b2, b3, b4⟩, bs, ⟨c1, c2, c3, c4⟩, ⟨d1, d2, d3, d4⟩, ts⟩ := r
    refine At.tree (ctr_ok libT_ok (asmO_ok _ _)) (CIh_eq (ruL l) l.length i k (heL hs) (boL bs) (Tm.cellsL ts) a1 a2 a3 (Tm.cellsL a4) b1 b2 b3 (Tm.cellsL b4) c1 c2 c3 (Tm.cellsL c4) d1 d2 d3 (Tm.cellsL d4) b) ?_
    unfold CIh
    simp only [ok_br, ok_owe, ok_ret, ok_jmp, decide_eq_true_eq, decide_eq_false_iff_not, Int.toNat_natCast, true_and, and_true, Bool.not_eq_true', Bool.not_eq_false', List.drop_zero, List.take_length, D.bool.injEq, D.int.injEq, D.str.injEq, true_implies, Int.le_refl]
    refine ⟨fun _ => ⟨⟨by omega, hg⟩, hsf, fun h => ?_, fun h => ?_⟩, fun h => by omega⟩
    · subst h
      rfl
    · subst h
      exact ⟨by omega, hI⟩
theorem contains_ok (l : List Ru) (hl : l.length ≤ 1000000) (hr : ∀ r ∈ l, okR r) : CallL Tryz.prog (.func (.func 31) [] []) [.slice (ruL l) [], .func (.func 32) [] []] [] fun d ob => d = .bool (l.any badR) ∧ ob = [] := by
  refine CallL.tree hdraw fp31 (ctr_ok libT_ok (asmO_ok _ _)) (CCa_eq (ruL l) (idxS l 0)) ?_
  unfold CCa
  rw [ok_owe, ok_ret]
  refine ⟨?_, ?_, rfl⟩
  · refine CallL.tree hdraw fp44 (ctr_ok libT_ok qnone_ok) (CIa_eq (ruL l)) ?_
    unfold CIa
    rw [ok_jmp, ruL_len]
    exact index_at l hl hr _ 0 rfl (Nat.zero_le _)
  · have := idxS_ge l 0 (Int.le_refl _)
    congr 1
    rw [Bool.eq_iff_iff, decide_eq_true_eq]
    exact this
theorem safe_ok (l : List Ru) (hl : l.length ≤ 1000000) (hr : ∀ r ∈ l, okR r) (sh co : List (List D)) (al : Bool) : FnOK Tryz.prog 18 [.agg [.slice (ruL l) [], .slice sh [], .slice co [], .bool al]] (.bool (!l.any badR)) := by
  refine FnOK.tree hdraw fp18 (ctr_ok libT_ok (asmO_ok _ _)) (PSf_eq (ruL l) sh co al (l.any badR)) ?_
  unfold PSf
  rw [ok_owe, ok_ret]
  exact ⟨contains_ok l hl hr, rfl⟩
end Go.Proofs.YtiafmjolbacdaaaGreat
