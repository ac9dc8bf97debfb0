/- SafetyAdds: trees; sizes of rules. -/
import Derived.Test.YtiafmjolbacdaaaGreatSbB
import Derived.Test.YtiafmjolbacdaaaGreatSbD
import Derived.Test.YtiafmjolbacdaaaGreatSbE
import Derived.Test.YtiafmjolbacdaaaGreatSx9
set_option linter.unusedSectionVars false
set_option linter.unusedVariables false
set_option linter.unusedSimpArgs false
set_option linter.deprecated false
set_option maxRecDepth 100000
namespace Go.Proofs.YtiafmjolbacdaaaGreat
open Go.Sx Go.RowKit
noncomputable def PA0 (k : Int) (hs : List (List D)) (bs : List (List D)) (ts : List (List D)) (a1 : Int) (a2 : Int) (a3 : List UInt8) (a4 : List (List D)) (b1 : Int) (b2 : Int) (b3 : List UInt8) (b4 : List (List D)) (c1 : Int) (c2 : Int) (c3 : List UInt8) (c4 : List (List D)) (d1 : Int) (d2 : Int) (d3 : List UInt8) (d4 : List (List D)) (ns : List (List D)) (W : List (List D)) (N : List (List D)) (b5 : List (List D)) (n : Int) : Tr := Tr.owe (FnOK Tryz.prog 7 [] (D.bool true)) (Tr.owe (FnOK Tryz.prog 12 [D.agg [D.int .u8 k, D.slice hs [], D.int .u8 a1, D.int .i64 a2, D.str a3, D.slice a4 [], D.int .u8 b1, D.int .i64 b2, D.str b3, D.slice b4 [], D.slice bs [], D.int .u8 c1, D.int .i64 c2, D.str c3, D.slice c4 [], D.int .u8 d1, D.int .i64 d2, D.str d3, D.slice d4 [], D.slice ts []], D.int .i64 (400 : Int)] (D.int .i64 n)) (brT (decide ((400 : Int) < n)) (Tr.ret (D.bool true) []) (brT (decide ((20 : Int) < (↑(List.length ns) : Int))) (Tr.ret (D.bool true) []) (Tr.owe (FnOK Tryz.prog 15 [D.agg [D.int .u8 k, D.slice hs [], D.int .u8 a1, D.int .i64 a2, D.str a3, D.slice a4 [], D.int .u8 b1, D.int .i64 b2, D.str b3, D.slice b4 [], D.slice bs [], D.int .u8 c1, D.int .i64 c2, D.str c3, D.slice c4 [], D.int .u8 d1, D.int .i64 d2, D.str d3, D.slice d4 [], D.slice ts []]] (D.slice W [])) (Tr.owe (FnOK Tryz.prog 20 [D.agg [D.int .u8 k, D.slice hs [], D.int .u8 a1, D.int .i64 a2, D.str a3, D.slice a4 [], D.int .u8 b1, D.int .i64 b2, D.str b3, D.slice b4 [], D.slice bs [], D.int .u8 c1, D.int .i64 c2, D.str c3, D.slice c4 [], D.int .u8 d1, D.int .i64 d2, D.str d3, D.slice d4 [], D.slice ts []], D.slice ns []] (D.agg [D.int .u8 k, D.slice hs [], D.int .u8 a1, D.int .i64 a2, D.str a3, D.slice a4 [], D.int .u8 b1, D.int .i64 b2, D.str b3, D.slice b4 [], D.slice b5 [], D.int .u8 c1, D.int .i64 c2, D.str c3, D.slice c4 [], D.int .u8 d1, D.int .i64 d2, D.str d3, D.slice d4 [], D.slice ts []])) (Tr.owe (FnOK Tryz.prog 15 [D.agg [D.int .u8 k, D.slice hs [], D.int .u8 a1, D.int .i64 a2, D.str a3, D.slice a4 [], D.int .u8 b1, D.int .i64 b2, D.str b3, D.slice b4 [], D.slice b5 [], D.int .u8 c1, D.int .i64 c2, D.str c3, D.slice c4 [], D.int .u8 d1, D.int .i64 d2, D.str d3, D.slice d4 [], D.slice ts []]] (D.slice N [])) (Tr.jmp (cut sc6 0) { tm := [(1, D.slice ns []), (2, D.ptr 0 0), (5, D.slice W []), (6, D.slice N []), (7, D.int .i64 (0 : Int))], ob := [(0, Ob.cells [D.int .u8 k, D.slice hs [], D.int .u8 a1, D.int .i64 a2, D.str a3, D.slice a4 [], D.int .u8 b1, D.int .i64 b2, D.str b3, D.slice b4 [], D.slice bs [], D.int .u8 c1, D.int .i64 c2, D.str c3, D.slice c4 [], D.int .u8 d1, D.int .i64 d2, D.str d3, D.slice d4 [], D.slice ts []])] })))))))
theorem PA0_eq (k : Int) (hs : List (List D)) (bs : List (List D)) (ts : List (List D)) (a1 : Int) (a2 : Int) (a3 : List UInt8) (a4 : List (List D)) (b1 : Int) (b2 : Int) (b3 : List UInt8) (b4 : List (List D)) (c1 : Int) (c2 : Int) (c3 : List UInt8) (c4 : List (List D)) (d1 : Int) (d2 : Int) (d3 : List UInt8) (d4 : List (List D)) (ns : List (List D)) (W : List (List D)) (N : List (List D)) (b5 : List (List D)) (n : Int) : goT Tryz.prog (dCtr [(8, D.bool true), (11, D.int .i64 n), (19, D.slice W []), (22, D.agg (rC k hs b5 ts a1 a2 a3 a4 b1 b2 b3 b4 c1 c2 c3 c4 d1 d2 d3 d4)), (23, D.slice N [])]) 0 (finF true 0 rs6) 2000 [Fr.sc sc6] { tm := envOf 0 [D.agg (rC k hs bs ts a1 a2 a3 a4 b1 b2 b3 b4 c1 c2 c3 c4 d1 d2 d3 d4), D.slice ns []], ob := [] } = PA0 k hs bs ts a1 a2 a3 a4 b1 b2 b3 b4 c1 c2 c3 c4 d1 d2 d3 d4 ns W N b5 n := by kernel_rfl
abbrev tmA (ns W N : List (List D)) (i : Int) : Env := [(1, .slice ns []), (2, .ptr 0 0), (5, .slice W []), (6, .slice N []), (7, .int .i64 i)]
noncomputable def PA1 (k : Int) (hs : List (List D)) (bs : List (List D)) (ts : List (List D)) (a1 : Int) (a2 : Int) (a3 : List UInt8) (a4 : List (List D)) (b1 : Int) (b2 : Int) (b3 : List UInt8) (b4 : List (List D)) (c1 : Int) (c2 : Int) (c3 : List UInt8) (c4 : List (List D)) (d1 : Int) (d2 : Int) (d3 : List UInt8) (d4 : List (List D)) (ns : List (List D)) (W : List (List D)) (N : List (List D)) (i : Int) (x : List UInt8) (e1 : Bool) (e2 : Bool) (e3 : Bool) (b5 : List (List D)) (Z : List (List D)) : Tr := brT (decide (i < (↑(List.length N) : Int))) (Tr.owe ((0 : Int) ≤ i ∧ N[Int.toNat i]? = some [D.str x]) (Tr.owe (FnOK Tryz.prog 10 [D.slice ns [], D.str x] (D.bool e1)) (brT e1 (Tr.ret (D.bool false) []) (Tr.owe ((0 : Int) ≤ i ∧ N[Int.toNat i]? = some [D.str x]) (Tr.owe (FnOK Tryz.prog 10 [D.slice W [], D.str x] (D.bool e2)) (brT (!e2) (Tr.ret (D.bool false) []) (Tr.owe ((-9223372036854775808 : Int) ≤ i + (1 : Int) ∧ i + (1 : Int) ≤ (9223372036854775807 : Int)) (Tr.jmp (cut sc6 0) { tm := [(1, D.slice ns []), (2, D.ptr 0 0), (5, D.slice W []), (6, D.slice N []), (7, D.int .i64 (i + (1 : Int)))], ob := [(0, Ob.cells [D.int .u8 k, D.slice hs [], D.int .u8 a1, D.int .i64 a2, D.str a3, D.slice a4 [], D.int .u8 b1, D.int .i64 b2, D.str b3, D.slice b4 [], D.slice bs [], D.int .u8 c1, D.int .i64 c2, D.str c3, D.slice c4 [], D.int .u8 d1, D.int .i64 d2, D.str d3, D.slice d4 [], D.slice ts []])] })))))))) (Tr.owe (FnOK Tryz.prog 20 [D.agg [D.int .u8 k, D.slice hs [], D.int .u8 a1, D.int .i64 a2, D.str a3, D.slice a4 [], D.int .u8 b1, D.int .i64 b2, D.str b3, D.slice b4 [], D.slice bs [], D.int .u8 c1, D.int .i64 c2, D.str c3, D.slice c4 [], D.int .u8 d1, D.int .i64 d2, D.str d3, D.slice d4 [], D.slice ts []], D.slice W []] (D.agg [D.int .u8 k, D.slice hs [], D.int .u8 a1, D.int .i64 a2, D.str a3, D.slice a4 [], D.int .u8 b1, D.int .i64 b2, D.str b3, D.slice b4 [], D.slice b5 [], D.int .u8 c1, D.int .i64 c2, D.str c3, D.slice c4 [], D.int .u8 d1, D.int .i64 d2, D.str d3, D.slice d4 [], D.slice ts []])) (Tr.owe (FnOK Tryz.prog 15 [D.agg [D.int .u8 k, D.slice hs [], D.int .u8 a1, D.int .i64 a2, D.str a3, D.slice a4 [], D.int .u8 b1, D.int .i64 b2, D.str b3, D.slice b4 [], D.slice b5 [], D.int .u8 c1, D.int .i64 c2, D.str c3, D.slice c4 [], D.int .u8 d1, D.int .i64 d2, D.str d3, D.slice d4 [], D.slice ts []]] (D.slice Z [])) (brT (decide ((↑(List.length Z) : Int) = (0 : Int))) (Tr.owe (FnOK Tryz.prog 18 [D.agg [D.slice [[D.int .u8 k, D.slice hs [], D.int .u8 a1, D.int .i64 a2, D.str a3, D.slice a4 [], D.int .u8 b1, D.int .i64 b2, D.str b3, D.slice b4 [], D.slice bs [], D.int .u8 c1, D.int .i64 c2, D.str c3, D.slice c4 [], D.int .u8 d1, D.int .i64 d2, D.str d3, D.slice d4 [], D.slice ts []]] [], D.slice [] [], D.slice [] [], D.bool false]] (D.bool e3)) (Tr.ret (D.bool (e3 == decide ((↑(List.length W) : Int) = (0 : Int)))) [])) (Tr.ret (D.bool false) []))))
theorem PA1_eq (k : Int) (hs : List (List D)) (bs : List (List D)) (ts : List (List D)) (a1 : Int) (a2 : Int) (a3 : List UInt8) (a4 : List (List D)) (b1 : Int) (b2 : Int) (b3 : List UInt8) (b4 : List (List D)) (c1 : Int) (c2 : Int) (c3 : List UInt8) (c4 : List (List D)) (d1 : Int) (d2 : Int) (d3 : List UInt8) (d4 : List (List D)) (ns : List (List D)) (W : List (List D)) (N : List (List D)) (i : Int) (x : List UInt8) (e1 : Bool) (e2 : Bool) (e3 : Bool) (b5 : List (List D)) (Z : List (List D)) : goT Tryz.prog (dCtr [(35, D.bool e1), (42, D.bool e2), (47, D.agg (rC k hs b5 ts a1 a2 a3 a4 b1 b2 b3 b4 c1 c2 c3 c4 d1 d2 d3 d4)), (48, D.slice Z []), (55, D.bool e3)] [(33, [D.str x]), (40, [D.str x])]) 0 (finF true 0 rs6) 2000 (cut sc6 0) { tm := tmA ns W N i, ob := [(0, Ob.cells (rC k hs bs ts a1 a2 a3 a4 b1 b2 b3 b4 c1 c2 c3 c4 d1 d2 d3 d4))] } = PA1 k hs bs ts a1 a2 a3 a4 b1 b2 b3 b4 c1 c2 c3 c4 d1 d2 d3 d4 ns W N i x e1 e2 e3 b5 Z := by kernel_rfl
theorem okt_of {t : Tm} (h : t.wf 281474976710656) (hf : (t.vs.length : Int) ≤ 400) : okt t := ⟨h, by omega⟩
theorem okT_of {l : List Tm} (h : ∀ x ∈ l, x.wf 281474976710656) (hf : fewT 400 l) : okT l :=
  ⟨by have := hf.1; omega, fun x hx => ⟨h x hx, by have := hf.2; have := vsL_mem hx; omega⟩⟩
theorem okL_of {x : Lt} (h : x.wf 281474976710656) (hf : x.few 400) : okL x := by
  obtain ⟨_, _, w1, w2, _, w3, w4⟩ := h
  obtain ⟨f1, f2, f3⟩ := hf
  exact ⟨w1, w2, by omega, okt_of w3 f2, okt_of w4 f3⟩
theorem okC_of {l : List Lt} (h : ∀ x ∈ l, x.wf 281474976710656) (hf : fewC 400 l) : okC l :=
  ⟨by have := hf.1; omega, fun x hx => okL_of (h x hx) (hf.2.1 x hx), by have := hf.2.2.1; omega⟩
theorem okR_of {r : Ru} (h : r.wf 281474976710656) (hf : fewR 400 r) : okR r := by
  obtain ⟨t1, t2, t3, t4⟩ := hf.t4
  refine ⟨⟨by simp, fun x hx => ?_⟩, okT_of (fun x hx => wfL_all.1 h.t x hx) hf.tt, h.hl, fun x hx => ⟨okT_of (fun y hy => wfL_all.1 (h.h x hx).a y hy) (hf.h x hx).1, okC_of (h.h x hx).c (hf.h x hx).2⟩, by have := hf.bl; omega, fun x hx => ?_⟩
  · simp only [List.mem_cons, List.not_mem_nil, or_false] at hx
    rcases hx with rfl | rfl | rfl | rfl
    · exact okt_of h.lo t1
    · exact okt_of h.up t2
    · exact okt_of h.w t3
    · exact okt_of h.lv t4
  · obtain ⟨g1, g2, g3, g4, g5⟩ := hf.b x hx
    have hw := h.b x hx
    refine ⟨okC_of (fun y hy => by rw [List.mem_singleton] at hy; exact hy ▸ hw.l) g1, ⟨by simp, fun y hy => ?_⟩, okC_of hw.c g2, hw.el, fun y hy => ⟨okT_of (fun z hz => wfL_all.1 (hw.e y hy).t z hz) (g5 y hy).1, okC_of (hw.e y hy).c (g5 y hy).2⟩⟩
    rw [List.mem_singleton] at hy
    subst hy
    exact okt_of hw.b g3
theorem vsL_vars : ∀ ns : List Nm, Tm.vsL (ns.map varT) = ns
  | [] => rfl
  | a :: r => by
    rw [List.map_cons, Tm.vsL, vsL_vars r]
    simp [varT, Tm.vs, Tm.vsL, Tm.v1]
theorem okt_zT : okt zT := ⟨by simp [zT, Tm.wf, Tm.wfL], by simp [zT, Tm.vs, Tm.vsL, Tm.v1]⟩
theorem okR_plus {r : Ru} (h : okR r) (hb : r.b.length ≤ 999999) {ns : List Nm} (hn : ns.length ≤ 1000000000) (hx : ∀ x ∈ ns, x.length ≤ 281474976710656) : okR (r.plus ns) := by
  refine ⟨h.t4, h.tt, h.hl, h.h, ?_, fun x hx' => ?_⟩
  · show (r.b ++ [plusB ns]).length ≤ _
    rw [List.length_append, List.length_singleton]; omega
  · have hx' : x ∈ r.b ++ [plusB ns] := hx'
    rcases List.mem_append.1 hx' with hx' | hx'
    · exact h.b x hx'
    · rw [List.mem_singleton] at hx'
      subst hx'
      have hwf : Tm.wfL 281474976710656 (ns.map varT) := wfL_all.2 fun t ht => by
        obtain ⟨n, hn, rfl⟩ := List.mem_map.1 ht
        simp only [varT, Tm.wf, Tm.wfL]
        have := hx n hn
        simp
        omega
      refine ⟨⟨by simp, fun y hy => ?_, ?_⟩, ⟨by simp, fun y hy => ?_⟩, ⟨?_, fun y hy => (by cases hy), by simp [plusB, withinT]⟩, by simp [plusB], fun y hy => by cases hy⟩
      · rw [List.mem_singleton] at hy
        subst hy
        refine ⟨?_, hwf, ?_, okt_zT, okt_zT⟩
        · show (ns.map varT).length ≤ _
          rw [List.length_map]; omega
        · show (Tm.vsL (ns.map varT)).length ≤ _
          rw [vsL_vars]; omega
      · show (withinT [plusL ns]).length ≤ _
        simp [withinT, plusL]
        omega
      · rw [List.mem_singleton] at hy
        subst hy
        exact okt_zT
      · simp [plusB]
end Go.Proofs.YtiafmjolbacdaaaGreat
