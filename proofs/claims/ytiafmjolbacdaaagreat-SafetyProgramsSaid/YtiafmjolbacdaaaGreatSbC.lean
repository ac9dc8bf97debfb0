/- Own work: a layer over the kit: plain data,a walk over it,its soundness. -/
import Derived.Test.YtiafmjolbacdaaaGreatSafU
import Derived.Test.YtiafmjolbacdaaaGreatSx9
set_option linter.unusedSectionVars false
set_option linter.unusedVariables false
set_option linter.unusedSimpArgs false
set_option linter.deprecated false
set_option maxRecDepth 100000
/- SizeRule,Safe: trees. -/
namespace Go.Proofs.YtiafmjolbacdaaaGreat
open Go.Sx Go.RowKit
noncomputable def PSr (k : Int) (hs bs ts : List (List D)) (a1 a2 : Int) (a3 : List UInt8) (a4 : List (List D)) (b1 b2 : Int) (b3 : List UInt8) (b4 : List (List D)) (c1 c2 : Int) (c3 : List UInt8) (c4 : List (List D)) (d1 d2 : Int) (d3 : List UInt8) (d4 : List (List D)) (m x1 x2 x3 x4 x5 : Int) : Tr := Tr.owe (FnOK Tryz.prog 23 [D.agg (tC a1 a2 a3 a4),D.int .i64 m] (D.int .i64 x1)) (Tr.owe ((-9223372036854775808 : Int) <= (1 : Int) + x1 /\ (1 : Int) + x1 <= (9223372036854775807 : Int)) (Tr.owe (FnOK Tryz.prog 23 [D.agg (tC b1 b2 b3 b4),D.int .i64 m] (D.int .i64 x2)) (Tr.owe ((-9223372036854775808 : Int) <= (1 : Int) + x1 + x2 /\ (1 : Int) + x1 + x2 <= (9223372036854775807 : Int)) (Tr.owe (FnOK Tryz.prog 23 [D.agg (tC c1 c2 c3 c4),D.int .i64 m] (D.int .i64 x3)) (Tr.owe ((-9223372036854775808 : Int) <= (1 : Int) + x1 + x2 + x3 /\ (1 : Int) + x1 + x2 + x3 <= (9223372036854775807 : Int)) (Tr.owe (FnOK Tryz.prog 23 [D.agg (tC d1 d2 d3 d4),D.int .i64 m] (D.int .i64 x4)) (Tr.owe ((-9223372036854775808 : Int) <= (1 : Int) + x1 + x2 + x3 + x4 /\ (1 : Int) + x1 + x2 + x3 + x4 <= (9223372036854775807 : Int)) (Tr.owe (FnOK Tryz.prog 28 [D.slice ts [],D.int .i64 m] (D.int .i64 x5)) (Tr.owe ((-9223372036854775808 : Int) <= (1 : Int) + x1 + x2 + x3 + x4 + x5 /\ (1 : Int) + x1 + x2 + x3 + x4 + x5 <= (9223372036854775807 : Int)) (Tr.jmp (cut sc12 0) { tm := [(1,D.int .i64 m),(2,D.ptr 0 0),(5,D.int .i64 ((1 : Int) + x1 + x2 + x3 + x4 + x5)),(6,D.int .i64 (0 : Int))],ob := [(0,Ob.cells (rC k hs bs ts a1 a2 a3 a4 b1 b2 b3 b4 c1 c2 c3 c4 d1 d2 d3 d4))] }))))))))))
theorem PSr_eq (k : Int) (hs bs ts : List (List D)) (a1 a2 : Int) (a3 : List UInt8) (a4 : List (List D)) (b1 b2 : Int) (b3 : List UInt8) (b4 : List (List D)) (c1 c2 : Int) (c3 : List UInt8) (c4 : List (List D)) (d1 d2 : Int) (d3 : List UInt8) (d4 : List (List D)) (m x1 x2 x3 x4 x5 : Int) : goT Tryz.prog (dCtr [(13,D.int .i64 x1),(18,D.int .i64 x2),(23,D.int .i64 x3),(28,D.int .i64 x4),(33,D.int .i64 x5)]) 0 (finF true 0 rs12) 2000 [Fr.sc sc12] { tm := envOf 0 [D.agg (rC k hs bs ts a1 a2 a3 a4 b1 b2 b3 b4 c1 c2 c3 c4 d1 d2 d3 d4),D.int .i64 m],ob := [] } = PSr k hs bs ts a1 a2 a3 a4 b1 b2 b3 b4 c1 c2 c3 c4 d1 d2 d3 d4 m x1 x2 x3 x4 x5 := by kernel_rfl
abbrev tmR (m n : Int) (e : Env) : Env := [(1,.int .i64 m),(2,.ptr 0 0),(5,.int .i64 n)] ++ e
noncomputable def PSrH (k : Int) (hs bs ts : List (List D)) (a1 a2 : Int) (a3 : List UInt8) (a4 : List (List D)) (b1 b2 : Int) (b3 : List UInt8) (b4 : List (List D)) (c1 c2 : Int) (c3 : List UInt8) (c4 : List (List D)) (d1 d2 : Int) (d3 : List UInt8) (d4 : List (List D)) (m n i x1 x2 : Int) (p : List UInt8) (ha hc : List (List D)) : Tr := brT (decide (i < (↑(List.length hs) : Int))) (brT (decide (n <= m)) (Tr.owe ((0 : Int) <= i /\ hs[Int.toNat i]? = some [D.str p,D.slice ha [],D.slice hc []]) (Tr.owe ((-9223372036854775808 : Int) <= m - n /\ m - n <= (9223372036854775807 : Int)) (Tr.owe (FnOK Tryz.prog 22 [D.agg [D.str p,D.slice ha []],D.int .i64 (m - n)] (D.int .i64 x1)) (Tr.owe ((0 : Int) <= i /\ hs[Int.toNat i]? = some [D.str p,D.slice ha [],D.slice hc []]) (Tr.owe ((-9223372036854775808 : Int) <= m - n /\ m - n <= (9223372036854775807 : Int)) (Tr.owe (FnOK Tryz.prog 8 [D.slice hc [],D.int .i64 (m - n)] (D.int .i64 x2)) (Tr.owe ((-9223372036854775808 : Int) <= x1 + x2 /\ x1 + x2 <= (9223372036854775807 : Int)) (Tr.owe ((-9223372036854775808 : Int) <= n + (x1 + x2) /\ n + (x1 + x2) <= (9223372036854775807 : Int)) (Tr.owe ((-9223372036854775808 : Int) <= i + (1 : Int) /\ i + (1 : Int) <= (9223372036854775807 : Int)) (Tr.jmp (cut sc12 0) { tm := [(1,D.int .i64 m),(2,D.ptr 0 0),(5,D.int .i64 (n + (x1 + x2))),(6,D.int .i64 (i + (1 : Int)))],ob := [(0,Ob.cells (rC k hs bs ts a1 a2 a3 a4 b1 b2 b3 b4 c1 c2 c3 c4 d1 d2 d3 d4))] })))))))))) (Tr.jmp (cut sc12 1) { tm := [(1,D.int .i64 m),(2,D.ptr 0 0),(5,D.int .i64 n),(7,D.int .i64 (0 : Int))],ob := [(0,Ob.cells (rC k hs bs ts a1 a2 a3 a4 b1 b2 b3 b4 c1 c2 c3 c4 d1 d2 d3 d4))] })) (Tr.jmp (cut sc12 1) { tm := [(1,D.int .i64 m),(2,D.ptr 0 0),(5,D.int .i64 n),(7,D.int .i64 (0 : Int))],ob := [(0,Ob.cells (rC k hs bs ts a1 a2 a3 a4 b1 b2 b3 b4 c1 c2 c3 c4 d1 d2 d3 d4))] })
theorem PSrH_eq (k : Int) (hs bs ts : List (List D)) (a1 a2 : Int) (a3 : List UInt8) (a4 : List (List D)) (b1 b2 : Int) (b3 : List UInt8) (b4 : List (List D)) (c1 c2 : Int) (c3 : List UInt8) (c4 : List (List D)) (d1 d2 : Int) (d3 : List UInt8) (d4 : List (List D)) (m n i x1 x2 : Int) (p : List UInt8) (ha hc : List (List D)) : goT Tryz.prog (dCtr [(57,D.int .i64 x1),(67,D.int .i64 x2)] [(51,[D.str p,D.slice ha [],D.slice hc []]),(61,[D.str p,D.slice ha [],D.slice hc []])]) 0 (finF true 0 rs12) 2000 (cut sc12 0) { tm := tmR m n [(6,D.int .i64 i)],ob := [(0,Ob.cells (rC k hs bs ts a1 a2 a3 a4 b1 b2 b3 b4 c1 c2 c3 c4 d1 d2 d3 d4))] } = PSrH k hs bs ts a1 a2 a3 a4 b1 b2 b3 b4 c1 c2 c3 c4 d1 d2 d3 d4 m n i x1 x2 p ha hc := by kernel_rfl
noncomputable def PSrB (k : Int) (hs bs ts : List (List D)) (a1 a2 : Int) (a3 : List UInt8) (a4 : List (List D)) (b1 b2 : Int) (b3 : List UInt8) (b4 : List (List D)) (c1 c2 : Int) (c3 : List UInt8) (c4 : List (List D)) (d1 d2 : Int) (d3 : List UInt8) (d4 : List (List D)) (m n i x1 x2 x3 bk l1 : Int) (l2 : Bool) (l3 : List UInt8) (l4 : List (List D)) (l5 l6 l7 : Int) (l8 : List UInt8) (l9 : List (List D)) (l10 l11 : Int) (l12 : List UInt8) (l13 bcn : List (List D)) (bno : Bool) (bf : Int) (be : List (List D)) (bop t1 t2 : Int) (t3 : List UInt8) (t4 : List (List D)) : Tr := brT (decide (i < (↑(List.length bs) : Int))) (brT (decide (n <= m)) (Tr.owe ((0 : Int) <= i /\ bs[Int.toNat i]? = some (bC bk l1 l2 l3 l4 l5 l6 l7 l8 l9 l10 l11 l12 l13 bcn bno bf be bop t1 t2 t3 t4)) (Tr.owe ((-9223372036854775808 : Int) <= m - n /\ m - n <= (9223372036854775807 : Int)) (Tr.owe (FnOK Tryz.prog 8 [D.slice [[D.int .u8 l1,D.bool l2,D.str l3,D.slice l4 [],D.int .u8 l5,D.int .u8 l6,D.int .i64 l7,D.str l8,D.slice l9 [],D.int .u8 l10,D.int .i64 l11,D.str l12,D.slice l13 []]] [],D.int .i64 (m - n)] (D.int .i64 x1)) (Tr.owe ((-9223372036854775808 : Int) <= (1 : Int) + x1 /\ (1 : Int) + x1 <= (9223372036854775807 : Int)) (Tr.owe ((-9223372036854775808 : Int) <= m - n /\ m - n <= (9223372036854775807 : Int)) (Tr.owe (FnOK Tryz.prog 8 [D.slice bcn [],D.int .i64 (m - n)] (D.int .i64 x2)) (Tr.owe ((-9223372036854775808 : Int) <= (1 : Int) + x1 + x2 /\ (1 : Int) + x1 + x2 <= (9223372036854775807 : Int)) (Tr.owe ((-9223372036854775808 : Int) <= m - n /\ m - n <= (9223372036854775807 : Int)) (Tr.owe (FnOK Tryz.prog 23 [D.agg (tC t1 t2 t3 t4),D.int .i64 (m - n)] (D.int .i64 x3)) (Tr.owe ((-9223372036854775808 : Int) <= (1 : Int) + x1 + x2 + x3 /\ (1 : Int) + x1 + x2 + x3 <= (9223372036854775807 : Int)) (Tr.owe ((-9223372036854775808 : Int) <= n + ((1 : Int) + x1 + x2 + x3) /\ n + ((1 : Int) + x1 + x2 + x3) <= (9223372036854775807 : Int)) (Tr.jmp (cut sc12 2) { tm := [(1,D.int .i64 m),(2,D.ptr 0 0),(5,D.int .i64 (n + ((1 : Int) + x1 + x2 + x3))),(7,D.int .i64 i),(8,D.ptr 1 0),(9,D.int .i64 (0 : Int))],ob := [(0,Ob.cells (rC k hs bs ts a1 a2 a3 a4 b1 b2 b3 b4 c1 c2 c3 c4 d1 d2 d3 d4)),(1,Ob.cells (bC bk l1 l2 l3 l4 l5 l6 l7 l8 l9 l10 l11 l12 l13 bcn bno bf be bop t1 t2 t3 t4))] })))))))))))) (Tr.ret (D.int .i64 n) [])) (Tr.ret (D.int .i64 n) [])
theorem PSrB_eq (k : Int) (hs bs ts : List (List D)) (a1 a2 : Int) (a3 : List UInt8) (a4 : List (List D)) (b1 b2 : Int) (b3 : List UInt8) (b4 : List (List D)) (c1 c2 : Int) (c3 : List UInt8) (c4 : List (List D)) (d1 d2 : Int) (d3 : List UInt8) (d4 : List (List D)) (m n i x1 x2 x3 bk l1 : Int) (l2 : Bool) (l3 : List UInt8) (l4 : List (List D)) (l5 l6 l7 : Int) (l8 : List UInt8) (l9 : List (List D)) (l10 l11 : Int) (l12 : List UInt8) (l13 bcn : List (List D)) (bno : Bool) (bf : Int) (be : List (List D)) (bop t1 t2 : Int) (t3 : List UInt8) (t4 : List (List D)) : goT Tryz.prog (dCtr [(94,D.int .i64 x1),(101,D.int .i64 x2),(108,D.int .i64 x3)] [(85,bC bk l1 l2 l3 l4 l5 l6 l7 l8 l9 l10 l11 l12 l13 bcn bno bf be bop t1 t2 t3 t4)]) 0 (finF true 0 rs12) 2000 (cut sc12 1) { tm := tmR m n [(7,D.int .i64 i)],ob := [(0,Ob.cells (rC k hs bs ts a1 a2 a3 a4 b1 b2 b3 b4 c1 c2 c3 c4 d1 d2 d3 d4))] } = PSrB k hs bs ts a1 a2 a3 a4 b1 b2 b3 b4 c1 c2 c3 c4 d1 d2 d3 d4 m n i x1 x2 x3 bk l1 l2 l3 l4 l5 l6 l7 l8 l9 l10 l11 l12 l13 bcn bno bf be bop t1 t2 t3 t4 := by kernel_rfl
noncomputable def PSrE (k : Int) (hs bs ts : List (List D)) (a1 a2 : Int) (a3 : List UInt8) (a4 : List (List D)) (b1 b2 : Int) (b3 : List UInt8) (b4 : List (List D)) (c1 c2 : Int) (c3 : List UInt8) (c4 : List (List D)) (d1 d2 : Int) (d3 : List UInt8) (d4 : List (List D)) (m n i j x1 x2 bk l1 : Int) (l2 : Bool) (l3 : List UInt8) (l4 : List (List D)) (l5 l6 l7 : Int) (l8 : List UInt8) (l9 : List (List D)) (l10 l11 : Int) (l12 : List UInt8) (l13 bcn : List (List D)) (bno : Bool) (bf : Int) (be : List (List D)) (bop t1 t2 : Int) (t3 : List UInt8) (t4 et ec : List (List D)) : Tr := brT (decide (j < (↑(List.length be) : Int))) (brT (decide (n <= m)) (Tr.owe ((0 : Int) <= j /\ be[Int.toNat j]? = some [D.slice et [],D.slice ec []]) (Tr.owe ((-9223372036854775808 : Int) <= m - n /\ m - n <= (9223372036854775807 : Int)) (Tr.owe (FnOK Tryz.prog 28 [D.slice et [],D.int .i64 (m - n)] (D.int .i64 x1)) (Tr.owe ((-9223372036854775808 : Int) <= (1 : Int) + x1 /\ (1 : Int) + x1 <= (9223372036854775807 : Int)) (Tr.owe ((0 : Int) <= j /\ be[Int.toNat j]? = some [D.slice et [],D.slice ec []]) (Tr.owe ((-9223372036854775808 : Int) <= m - n /\ m - n <= (9223372036854775807 : Int)) (Tr.owe (FnOK Tryz.prog 8 [D.slice ec [],D.int .i64 (m - n)] (D.int .i64 x2)) (Tr.owe ((-9223372036854775808 : Int) <= (1 : Int) + x1 + x2 /\ (1 : Int) + x1 + x2 <= (9223372036854775807 : Int)) (Tr.owe ((-9223372036854775808 : Int) <= n + ((1 : Int) + x1 + x2) /\ n + ((1 : Int) + x1 + x2) <= (9223372036854775807 : Int)) (Tr.owe ((-9223372036854775808 : Int) <= j + (1 : Int) /\ j + (1 : Int) <= (9223372036854775807 : Int)) (Tr.jmp (cut sc12 2) { tm := [(1,D.int .i64 m),(2,D.ptr 0 0),(5,D.int .i64 (n + ((1 : Int) + x1 + x2))),(7,D.int .i64 i),(8,D.ptr 1 0),(9,D.int .i64 (j + (1 : Int)))],ob := [(0,Ob.cells (rC k hs bs ts a1 a2 a3 a4 b1 b2 b3 b4 c1 c2 c3 c4 d1 d2 d3 d4)),(1,Ob.cells (bC bk l1 l2 l3 l4 l5 l6 l7 l8 l9 l10 l11 l12 l13 bcn bno bf be bop t1 t2 t3 t4))] }))))))))))) (Tr.owe ((-9223372036854775808 : Int) <= i + (1 : Int) /\ i + (1 : Int) <= (9223372036854775807 : Int)) (Tr.jmp (cut sc12 1) { tm := [(1,D.int .i64 m),(2,D.ptr 0 0),(5,D.int .i64 n),(7,D.int .i64 (i + (1 : Int)))],ob := [(0,Ob.cells (rC k hs bs ts a1 a2 a3 a4 b1 b2 b3 b4 c1 c2 c3 c4 d1 d2 d3 d4))] }))) (Tr.owe ((-9223372036854775808 : Int) <= i + (1 : Int) /\ i + (1 : Int) <= (9223372036854775807 : Int)) (Tr.jmp (cut sc12 1) { tm := [(1,D.int .i64 m),(2,D.ptr 0 0),(5,D.int .i64 n),(7,D.int .i64 (i + (1 : Int)))],ob := [(0,Ob.cells (rC k hs bs ts a1 a2 a3 a4 b1 b2 b3 b4 c1 c2 c3 c4 d1 d2 d3 d4))] }))
theorem PSrE_eq (k : Int) (hs bs ts : List (List D)) (a1 a2 : Int) (a3 : List UInt8) (a4 : List (List D)) (b1 b2 : Int) (b3 : List UInt8) (b4 : List (List D)) (c1 c2 : Int) (c3 : List UInt8) (c4 : List (List D)) (d1 d2 : Int) (d3 : List UInt8) (d4 : List (List D)) (m n i j x1 x2 bk l1 : Int) (l2 : Bool) (l3 : List UInt8) (l4 : List (List D)) (l5 l6 l7 : Int) (l8 : List UInt8) (l9 : List (List D)) (l10 l11 : Int) (l12 : List UInt8) (l13 bcn : List (List D)) (bno : Bool) (bf : Int) (be : List (List D)) (bop t1 t2 : Int) (t3 : List UInt8) (t4 et ec : List (List D)) : goT Tryz.prog (dCtr [(133,D.int .i64 x1),(144,D.int .i64 x2)] [(127,[D.slice et [],D.slice ec []]),(138,[D.slice et [],D.slice ec []])]) 0 (finF true 0 rs12) 2000 (cut sc12 2) { tm := tmR m n [(7,D.int .i64 i),(8,D.ptr 1 0),(9,D.int .i64 j)],ob := [(0,Ob.cells (rC k hs bs ts a1 a2 a3 a4 b1 b2 b3 b4 c1 c2 c3 c4 d1 d2 d3 d4)),(1,Ob.cells (bC bk l1 l2 l3 l4 l5 l6 l7 l8 l9 l10 l11 l12 l13 bcn bno bf be bop t1 t2 t3 t4))] } = PSrE k hs bs ts a1 a2 a3 a4 b1 b2 b3 b4 c1 c2 c3 c4 d1 d2 d3 d4 m n i j x1 x2 bk l1 l2 l3 l4 l5 l6 l7 l8 l9 l10 l11 l12 l13 bcn bno bf be bop t1 t2 t3 t4 et ec := by kernel_rfl
end Go.Proofs.YtiafmjolbacdaaaGreat

/- SizeRule,proved. -/
namespace Go.Proofs.YtiafmjolbacdaaaGreat
open Go.Sx Go.RowKit
section
variable (k : Nat) (hs : List He) (a1 : Nat) (a2 : Int) (a3 : Nm) (a4 : List Tm) (b1 : Nat) (b2 : Int) (b3 : Nm) (b4 : List Tm) (bs : List Bo) (c1 : Nat) (c2 : Int) (c3 : Nm) (c4 : List Tm) (d1 : Nat) (d2 : Int) (d3 : Nm) (d4 : List Tm) (ts : List Tm) (M : Int)
abbrev obR : Obs := [(0,.cells (rC k (heL hs) (boL bs) (Tm.cellsL ts) a1 a2 a3 (Tm.cellsL a4) b1 b2 b3 (Tm.cellsL b4) c1 c2 c3 (Tm.cellsL c4) d1 d2 d3 (Tm.cellsL d4)))]
abbrev QR (v : Int) : Exit -> St -> Prop := FinQ true 0 rs12 fun r _ => r = .int .i64 v
variable (hw : Ru.wf 281474976710656 ⟨k,hs,.mk a1 a2 a3 a4,.mk b1 b2 b3 b4,bs,.mk c1 c2 c3 c4,.mk d1 d2 d3 d4,ts⟩) (hM : 0 <= M /\ M <= 1000000)
include hw hM
theorem sre_at (i : Nat) (hi : i < bs.length) (K : ∀ n : Int,0 <= n -> n <= 10 * M + 1000 -> At Tryz.prog 0 (cut sc12 1) ⟨tmR M n [(7,.int .i64 (i + 1))],obR k hs a1 a2 a3 a4 b1 b2 b3 b4 bs c1 c2 c3 c4 d1 d2 d3 d4 ts⟩ (QR (szBos (bs.drop (i + 1)) M n))) : ∀ (q j : Nat) (n : Int),bs[i].e.length - j = q -> j <= bs[i].e.length -> 0 <= n -> n <= 10 * M + 1000 →
  At Tryz.prog 0 (cut sc12 2) ⟨tmR M n [(7,.int .i64 i),(8,.ptr 1 0),(9,.int .i64 j)],obR k hs a1 a2 a3 a4 b1 b2 b3 b4 bs c1 c2 c3 c4 d1 d2 d3 d4 ts ++ [(1,.cells bs[i].cs)]⟩ (QR (szBos (bs.drop (i + 1)) M (szEls (bs[i].e.drop j) M n))) := by
 have hbl := hw.bl
 simp only at hbl
 have hb := hw.b _ (List.getElem_mem hi)
 have hel := hb.el
 have hee := hb.e
 generalize bs[i] = x at hel hee ⊢
 obtain ⟨bk,⟨lk,ln,lp,la,lo,⟨x1,x2,x3,x4⟩,⟨y1,y2,y3,y4⟩⟩,bc,bno,bf,be,bop,⟨t1,t2,t3,t4⟩⟩ := x
 simp only at hel hee ⊢
 intro q
 induction q with
 | zero =>
  intro j n hm hj hn hn2
  have hK := K n hn hn2
  refine At.tree (dCtr_ok qnone_ok) (PSrE_eq k (heL hs) (boL bs) (Tm.cellsL ts) a1 a2 a3 (Tm.cellsL a4) b1 b2 b3 (Tm.cellsL b4) c1 c2 c3 (Tm.cellsL c4) d1 d2 d3 (Tm.cellsL d4) M n i j 0 0 bk lk ln lp (Tm.cellsL la) lo x1 x2 x3 (Tm.cellsL x4) y1 y2 y3 (Tm.cellsL y4) (ltL bc) bno bf (elL be) bop t1 t2 t3 (Tm.cellsL t4) [] []) ?_
  unfold PSrE
  rw [List.drop_eq_nil_of_le (show be.length <= j by omega)]
  simp only [SS,elL_len]
  exact ⟨fun h => by omega,fun _ => ⟨by omega,hK⟩⟩
 | succ q ih =>
  intro j n hm hj hn hn2
  have h1 : j < be.length := by omega
  have hg := elL_get h1
  have hy := hee _ (List.getElem_mem h1)
  rw [drop_cons h1]
  simp only [szEls]
  by_cases hnm : n <= M
  ·rw [if_pos hnm]
   have hA := szs_ok be[j].t hy.tl (fun x hx => sz_ok x (wf_get hy.t hx)) (M - n) (by omega)
   have hB := szl_ok be[j].c [] hy.cl hy.c (M - n) (by omega)
   have g1 := szL_ge be[j].t (M - n) 0
   have g2 := szL_le be[j].t (M - n) 0 (by omega)
   have g3 := szLts_ge be[j].c (M - n) 0
   have g4 := szLts_le be[j].c (M - n) 0 (by omega) (by omega) (by omega)
   have e : szEl be[j] (M - n) = 1 + Tm.szL be[j].t (M - n) 0 + szLts be[j].c (M - n) 0 := rfl
   have hI := ih (j + 1) (n + szEl be[j] (M - n)) (by omega) (by omega) (by omega) (by omega)
   rw [e] at hI ⊢
   generalize Tm.szL be[j].t (M - n) 0 = z1 at hA hI g1 g2 ⊢
   generalize szLts be[j].c (M - n) 0 = z2 at hB hI g3 g4 ⊢
   generalize be[j] = y at hg hA hB
   obtain ⟨et,ec⟩ := y
   refine At.tree (dCtr_ok qnone_ok) (PSrE_eq k (heL hs) (boL bs) (Tm.cellsL ts) a1 a2 a3 (Tm.cellsL a4) b1 b2 b3 (Tm.cellsL b4) c1 c2 c3 (Tm.cellsL c4) d1 d2 d3 (Tm.cellsL d4) M n i j z1 z2 bk lk ln lp (Tm.cellsL la) lo x1 x2 x3 (Tm.cellsL x4) y1 y2 y3 (Tm.cellsL y4) (ltL bc) bno bf (elL be) bop t1 t2 t3 (Tm.cellsL t4) (Tm.cellsL et) (ltL ec)) ?_
   unfold PSrE
   simp only [SS,elL_len]
   exact ⟨fun _ => ⟨fun _ => ⟨⟨by omega,hg⟩,by omega,hA,by omega,⟨by omega,hg⟩,by omega,hB,by omega,by omega,by omega,hI⟩,fun h => by omega⟩,fun h => by omega⟩
  ·rw [if_neg hnm]
   have hK := K n hn hn2
   refine At.tree (dCtr_ok qnone_ok) (PSrE_eq k (heL hs) (boL bs) (Tm.cellsL ts) a1 a2 a3 (Tm.cellsL a4) b1 b2 b3 (Tm.cellsL b4) c1 c2 c3 (Tm.cellsL c4) d1 d2 d3 (Tm.cellsL d4) M n i j 0 0 bk lk ln lp (Tm.cellsL la) lo x1 x2 x3 (Tm.cellsL x4) y1 y2 y3 (Tm.cellsL y4) (ltL bc) bno bf (elL be) bop t1 t2 t3 (Tm.cellsL t4) [] []) ?_
   unfold PSrE
   simp only [SS,elL_len]
   exact ⟨fun _ => ⟨fun h => by omega,fun _ => ⟨by omega,hK⟩⟩,fun _ => ⟨by omega,hK⟩⟩
theorem srb_at : ∀ (q i : Nat) (n : Int),bs.length - i = q -> i <= bs.length -> 0 <= n -> n <= 10 * M + 1000 →
  At Tryz.prog 0 (cut sc12 1) ⟨tmR M n [(7,.int .i64 i)],obR k hs a1 a2 a3 a4 b1 b2 b3 b4 bs c1 c2 c3 c4 d1 d2 d3 d4 ts⟩ (QR (szBos (bs.drop i) M n)) := by
 intro q
 induction q with
 | zero =>
  intro i n hm hi hn hn2
  refine At.tree (dCtr_ok qnone_ok) (PSrB_eq k (heL hs) (boL bs) (Tm.cellsL ts) a1 a2 a3 (Tm.cellsL a4) b1 b2 b3 (Tm.cellsL b4) c1 c2 c3 (Tm.cellsL c4) d1 d2 d3 (Tm.cellsL d4) M n i 0 0 0 0 0 true [] [] 0 0 0 [] [] 0 0 [] [] [] true 0 [] 0 0 0 [] []) ?_
  unfold PSrB
  rw [List.drop_eq_nil_of_le (show bs.length <= i by omega)]
  simp only [SS,boL_len]
  exact ⟨fun h => by omega,fun _ => rfl⟩
 | succ q ih =>
  intro i n hm hi hn hn2
  have h1 : i < bs.length := by omega
  have hg := boL_get h1
  have hy := hw.b _ (List.getElem_mem h1)
  rw [drop_cons h1]
  simp only [szBos]
  by_cases hnm : n <= M
  ·rw [if_pos hnm]
   have hA := szl_ok [bs[i].l] [] (by simp) (fun x hx => by rw [List.mem_singleton] at hx; exact hx ▸ hy.l) (M - n) (by omega)
   have hB := szl_ok bs[i].c [] hy.cl hy.c (M - n) (by omega)
   have hC := sz_ok bs[i].b hy.b (M - n) (by omega) (by omega)
   have g1 := szLts_ge [bs[i].l] (M - n) 0
   have g2 := szLts_le [bs[i].l] (M - n) 0 (by omega) (by omega) (by omega)
   have g3 := szLts_ge bs[i].c (M - n) 0
   have g4 := szLts_le bs[i].c (M - n) 0 (by omega) (by omega) (by omega)
   have g5 := sz_ge bs[i].b (M - n)
   have g6 := sz_le bs[i].b (M - n) (by omega)
   have e : szBo bs[i] (M - n) = 1 + szLts [bs[i].l] (M - n) 0 + szLts bs[i].c (M - n) 0 + bs[i].b.sz (M - n) := rfl
   have hE := sre_at k hs a1 a2 a3 a4 b1 b2 b3 b4 bs c1 c2 c3 c4 d1 d2 d3 d4 ts M hw hM i h1 (fun n hn hn2 => ih (i + 1) n (by omega) (by omega) hn hn2) _ 0 (n + szBo bs[i] (M - n)) rfl (Nat.zero_le _) (by omega) (by omega)
   rw [e,List.drop_zero] at hE
   rw [e]
   generalize szLts [bs[i].l] (M - n) 0 = z1 at hA hE g1 g2 ⊢
   generalize szLts bs[i].c (M - n) 0 = z2 at hB hE g3 g4 ⊢
   generalize bs[i].b.sz (M - n) = z3 at hC hE g5 g6 ⊢
   generalize bs[i] = y at hg hA hB hC hE ⊢
   obtain ⟨bk,⟨lk,ln,lp,la,lo,⟨x1,x2,x3,x4⟩,⟨y1,y2,y3,y4⟩⟩,bc,bno,bf,be,bop,⟨t1,t2,t3,t4⟩⟩ := y
   refine At.tree (dCtr_ok qnone_ok) (PSrB_eq k (heL hs) (boL bs) (Tm.cellsL ts) a1 a2 a3 (Tm.cellsL a4) b1 b2 b3 (Tm.cellsL b4) c1 c2 c3 (Tm.cellsL c4) d1 d2 d3 (Tm.cellsL d4) M n i z1 z2 z3 bk lk ln lp (Tm.cellsL la) lo x1 x2 x3 (Tm.cellsL x4) y1 y2 y3 (Tm.cellsL y4) (ltL bc) bno bf (elL be) bop t1 t2 t3 (Tm.cellsL t4)) ?_
   unfold PSrB
   simp only [SS,boL_len]
   exact ⟨fun _ => ⟨fun _ => ⟨⟨by omega,hg⟩,by omega,hA,by omega,by omega,hB,by omega,by omega,hC,by omega,by omega,hE⟩,fun h => by omega⟩,fun h => by omega⟩
  ·rw [if_neg hnm]
   refine At.tree (dCtr_ok qnone_ok) (PSrB_eq k (heL hs) (boL bs) (Tm.cellsL ts) a1 a2 a3 (Tm.cellsL a4) b1 b2 b3 (Tm.cellsL b4) c1 c2 c3 (Tm.cellsL c4) d1 d2 d3 (Tm.cellsL d4) M n i 0 0 0 0 0 true [] [] 0 0 0 [] [] 0 0 [] [] [] true 0 [] 0 0 0 [] []) ?_
   unfold PSrB
   simp only [SS,boL_len]
   exact ⟨fun _ => ⟨fun h => by omega,fun _ => trivial⟩,fun _ => trivial⟩
theorem srh_at : ∀ (q i : Nat) (n : Int),hs.length - i = q -> i <= hs.length -> 0 <= n -> n <= 10 * M + 1000 →
  At Tryz.prog 0 (cut sc12 0) ⟨tmR M n [(6,.int .i64 i)],obR k hs a1 a2 a3 a4 b1 b2 b3 b4 bs c1 c2 c3 c4 d1 d2 d3 d4 ts⟩ (QR (szBos bs M (szHes (hs.drop i) M n))) := by
 have hB := fun n hn hn2 => srb_at k hs a1 a2 a3 a4 b1 b2 b3 b4 bs c1 c2 c3 c4 d1 d2 d3 d4 ts M hw hM _ 0 n rfl (Nat.zero_le _) hn hn2
 have hhl := hw.hl
 simp only at hhl
 simp only [List.drop_zero] at hB
 intro q
 induction q with
 | zero =>
  intro i n hm hi hn hn2
  have hB := hB n hn hn2
  refine At.tree (dCtr_ok qnone_ok) (PSrH_eq k (heL hs) (boL bs) (Tm.cellsL ts) a1 a2 a3 (Tm.cellsL a4) b1 b2 b3 (Tm.cellsL b4) c1 c2 c3 (Tm.cellsL c4) d1 d2 d3 (Tm.cellsL d4) M n i 0 0 [] [] []) ?_
  unfold PSrH
  rw [List.drop_eq_nil_of_le (show hs.length <= i by omega)]
  simp only [SS,heL_len]
  exact ⟨fun h => by omega,fun _ => hB⟩
 | succ q ih =>
  intro i n hm hi hn hn2
  have h1 : i < hs.length := by omega
  have hg := heL_get h1
  have hy := hw.h _ (List.getElem_mem h1)
  rw [drop_cons h1]
  simp only [szHes]
  by_cases hnm : n <= M
  ·rw [if_pos hnm]
   have hA := sza_ok hs[i].p hs[i].a hy.al hy.a (M - n) (by omega) (by omega)
   have hB := szl_ok hs[i].c [] hy.cl hy.c (M - n) (by omega)
   have g1 := szL_ge hs[i].a (M - n - 1) 0
   have g2 := szL_le hs[i].a (M - n - 1) 0 (by omega)
   have g3 := szLts_ge hs[i].c (M - n) 0
   have g4 := szLts_le hs[i].c (M - n) 0 (by omega) (by omega) (by omega)
   have e : szHe hs[i] (M - n) = (1 + Tm.szL hs[i].a (M - n - 1) 0) + szLts hs[i].c (M - n) 0 := rfl
   have hI := ih (i + 1) (n + szHe hs[i] (M - n)) (by omega) (by omega) (by omega) (by omega)
   rw [e] at hI ⊢
   generalize Tm.szL hs[i].a (M - n - 1) 0 = z1 at hA hI g1 g2 ⊢
   generalize szLts hs[i].c (M - n) 0 = z2 at hB hI g3 g4 ⊢
   generalize hs[i] = y at hg hA hB
   obtain ⟨p,ha,hc⟩ := y
   refine At.tree (dCtr_ok qnone_ok) (PSrH_eq k (heL hs) (boL bs) (Tm.cellsL ts) a1 a2 a3 (Tm.cellsL a4) b1 b2 b3 (Tm.cellsL b4) c1 c2 c3 (Tm.cellsL c4) d1 d2 d3 (Tm.cellsL d4) M n i (1 + z1) z2 p (Tm.cellsL ha) (ltL hc)) ?_
   unfold PSrH
   simp only [SS,heL_len]
   exact ⟨fun _ => ⟨fun _ => ⟨⟨by omega,hg⟩,by omega,hA,⟨by omega,hg⟩,by omega,hB,by omega,by omega,by omega,hI⟩,fun h => by omega⟩,fun h => by omega⟩
  ·rw [if_neg hnm]
   have hB := hB n hn hn2
   refine At.tree (dCtr_ok qnone_ok) (PSrH_eq k (heL hs) (boL bs) (Tm.cellsL ts) a1 a2 a3 (Tm.cellsL a4) b1 b2 b3 (Tm.cellsL b4) c1 c2 c3 (Tm.cellsL c4) d1 d2 d3 (Tm.cellsL d4) M n i 0 0 [] [] []) ?_
   unfold PSrH
   simp only [SS,heL_len]
   exact ⟨fun _ => ⟨fun h => by omega,fun _ => hB⟩,fun _ => hB⟩
theorem szr_ok' : FnOK Tryz.prog 12 [.agg (rC k (heL hs) (boL bs) (Tm.cellsL ts) a1 a2 a3 (Tm.cellsL a4) b1 b2 b3 (Tm.cellsL b4) c1 c2 c3 (Tm.cellsL c4) d1 d2 d3 (Tm.cellsL d4)),.int .i64 M] (.int .i64 (szRu ⟨k,hs,.mk a1 a2 a3 a4,.mk b1 b2 b3 b4,bs,.mk c1 c2 c3 c4,.mk d1 d2 d3 d4,ts⟩ M)) := by
 have h1 := sz_ok _ hw.lo M hM.1 hM.2
 have h2 := sz_ok _ hw.up M hM.1 hM.2
 have h3 := sz_ok _ hw.w M hM.1 hM.2
 have h4 := sz_ok _ hw.lv M hM.1 hM.2
 have h5 := szs_ok ts hw.tl (fun x hx => sz_ok x (wf_get hw.t hx)) M (by omega)
 have hH := srh_at k hs a1 a2 a3 a4 b1 b2 b3 b4 bs c1 c2 c3 c4 d1 d2 d3 d4 ts M hw hM _ 0 (szR0 ⟨k,hs,.mk a1 a2 a3 a4,.mk b1 b2 b3 b4,bs,.mk c1 c2 c3 c4,.mk d1 d2 d3 d4,ts⟩ M) rfl (Nat.zero_le _)
 unfold szRu
 have e : szR0 ⟨k,hs,.mk a1 a2 a3 a4,.mk b1 b2 b3 b4,bs,.mk c1 c2 c3 c4,.mk d1 d2 d3 d4,ts⟩ M = 1 + Tm.sz (.mk a1 a2 a3 a4) M + Tm.sz (.mk b1 b2 b3 b4) M + Tm.sz (.mk c1 c2 c3 c4) M + Tm.sz (.mk d1 d2 d3 d4) M + Tm.szL ts M 0 := rfl
 rw [e] at hH ⊢
 have g1 := sz_ge (.mk a1 a2 a3 a4) M
 have g2 := sz_le (.mk a1 a2 a3 a4) M hM.1
 have g3 := sz_ge (.mk b1 b2 b3 b4) M
 have g4 := sz_le (.mk b1 b2 b3 b4) M hM.1
 have g5 := sz_ge (.mk c1 c2 c3 c4) M
 have g6 := sz_le (.mk c1 c2 c3 c4) M hM.1
 have g7 := sz_ge (.mk d1 d2 d3 d4) M
 have g8 := sz_le (.mk d1 d2 d3 d4) M hM.1
 have g9 := szL_ge ts M 0
 have g10 := szL_le ts M 0 (by omega)
 simp only at h1 h2 h3 h4
 generalize Tm.sz (.mk a1 a2 a3 a4) M = z1 at h1 hH g1 g2 ⊢
 generalize Tm.sz (.mk b1 b2 b3 b4) M = z2 at h2 hH g3 g4 ⊢
 generalize Tm.sz (.mk c1 c2 c3 c4) M = z3 at h3 hH g5 g6 ⊢
 generalize Tm.sz (.mk d1 d2 d3 d4) M = z4 at h4 hH g7 g8 ⊢
 generalize Tm.szL ts M 0 = z5 at h5 hH g9 g10 ⊢
 have hH := hH (by omega) (by omega)
 refine FnOK.tree hdraw fp12 (dCtr_ok qnone_ok) (PSr_eq k (heL hs) (boL bs) (Tm.cellsL ts) a1 a2 a3 (Tm.cellsL a4) b1 b2 b3 (Tm.cellsL b4) c1 c2 c3 (Tm.cellsL c4) d1 d2 d3 (Tm.cellsL d4) M z1 z2 z3 z4 z5) ?_
 unfold PSr
 simp only [SS]
 exact ⟨h1,by omega,h2,by omega,h3,by omega,h4,by omega,h5,by omega,hH⟩
end
theorem szr_ok (r : Ru) (hw : r.wf 281474976710656) (M : Int) (hM : 0 <= M /\ M <= 1000000) : FnOK Tryz.prog 12 [.agg r.cs,.int .i64 M] (.int .i64 (szRu r M)) := by
 obtain ⟨k,hs,⟨a1,a2,a3,a4⟩,⟨b1,b2,b3,b4⟩,bs,⟨c1,c2,c3,c4⟩,⟨d1,d2,d3,d4⟩,ts⟩ := r
 exact szr_ok' k hs a1 a2 a3 a4 b1 b2 b3 b4 bs c1 c2 c3 c4 d1 d2 d3 d4 ts M hw hM
end Go.Proofs.YtiafmjolbacdaaaGreat

/- A rule of a modest size. -/
namespace Go.Proofs.YtiafmjolbacdaaaGreat
open Go.Sx Go.RowKit
theorem okt_of {t : Tm} (h : t.wf 281474976710656) (hf : (t.vs.length : Int) <= 400) : okt t := ⟨h,by omega⟩
theorem okT_of {l : List Tm} (h : ∀ x ∈ l,x.wf 281474976710656) (hf : fewT 400 l) : okT l :=
 ⟨by have := hf.1; omega,fun x hx => ⟨h x hx,by have := hf.2; have := vsL_mem hx; omega⟩⟩
theorem okL_of {x : Lt} (h : x.wf 281474976710656) (hf : x.few 400) : okL x := by
 obtain ⟨_,_,w1,w2,_,w3,w4⟩ := h
 obtain ⟨f1,f2,f3⟩ := hf
 exact ⟨w1,w2,by omega,okt_of w3 f2,okt_of w4 f3⟩
theorem okC_of {l : List Lt} (h : ∀ x ∈ l,x.wf 281474976710656) (hf : fewC 400 l) : okC l :=
 ⟨by have := hf.1; omega,fun x hx => okL_of (h x hx) (hf.2.1 x hx),by have := hf.2.2.1; omega⟩
theorem okR_of {r : Ru} (h : r.wf 281474976710656) (hf : fewR 400 r) : okR r := by
 obtain ⟨t1,t2,t3,t4⟩ := hf.t4
 refine ⟨⟨by simp,fun x hx => ?_⟩,okT_of (fun x hx => wfL_all.1 h.t x hx) hf.tt,h.hl,fun x hx => ⟨okT_of (fun y hy => wfL_all.1 (h.h x hx).a y hy) (hf.h x hx).1,okC_of (h.h x hx).c (hf.h x hx).2⟩,by have := hf.bl; omega,fun x hx => ?_⟩
 ·simp only [List.mem_cons,List.not_mem_nil,or_false] at hx
  rcases hx with rfl | rfl | rfl | rfl
  ·exact okt_of h.lo t1
  ·exact okt_of h.up t2
  ·exact okt_of h.w t3
  ·exact okt_of h.lv t4
 ·obtain ⟨g1,g2,g3,g4,g5⟩ := hf.b x hx
  have hw := h.b x hx
  refine ⟨okC_of (fun y hy => by rw [List.mem_singleton] at hy; exact hy ▸ hw.l) g1,⟨by simp,fun y hy => ?_⟩,okC_of hw.c g2,hw.el,fun y hy => ⟨okT_of (fun z hz => wfL_all.1 (hw.e y hy).t z hz) (g5 y hy).1,okC_of (hw.e y hy).c (g5 y hy).2⟩⟩
  rw [List.mem_singleton] at hy
  subst hy
  exact okt_of hw.b g3
end Go.Proofs.YtiafmjolbacdaaaGreat

/- Safe. -/
namespace Go.Proofs.YtiafmjolbacdaaaGreat
open Go.Sx Go.RowKit
noncomputable def CS1 (k : Int) (hs bs ts : List (List D)) (a1 a2 : Int) (a3 : List UInt8) (a4 : List (List D)) (b1 b2 : Int) (b3 : List UInt8) (b4 : List (List D)) (c1 c2 : Int) (c3 : List UInt8) (c4 : List (List D)) (d1 d2 : Int) (d3 : List UInt8) (d4 : List (List D)) (zk : List D) : Tr := Tr.owe (CallL Tryz.prog (D.func (Fn.func 29) [] []) [D.agg (rC k hs bs ts a1 a2 a3 a4 b1 b2 b3 b4 c1 c2 c3 c4 d1 d2 d3 d4)] [] fun r0 ob0 => r0 = D.map 0 /\ ob0 = [(0,Ob.gen (Gen.mapS zk (D.agg [])) [])]) (Tr.ret (D.bool (decide ((0 : Int) < (↑(List.length zk) : Int)))) [])
theorem CS1_eq (k : Int) (hs bs ts : List (List D)) (a1 a2 : Int) (a3 : List UInt8) (a4 : List (List D)) (b1 b2 : Int) (b3 : List UInt8) (b4 : List (List D)) (c1 c2 : Int) (c3 : List UInt8) (c4 : List (List D)) (d1 d2 : Int) (d3 : List UInt8) (d4 : List (List D)) (zk : List D) : goT Tryz.prog (ctr libT (asmO (D.map 0) [(0,Ob.gen (Gen.mapS zk (D.agg [])) [])])) 0 (finF false 0 rs32) 2000 [Fr.sc sc32] { tm := envOf 0 ([] ++ [D.agg (rC k hs bs ts a1 a2 a3 a4 b1 b2 b3 b4 c1 c2 c3 c4 d1 d2 d3 d4)] ++ []),ob := [] } = CS1 k hs bs ts a1 a2 a3 a4 b1 b2 b3 b4 c1 c2 c3 c4 d1 d2 d3 d4 zk := by kernel_rfl
noncomputable def CIa (rs : List (List D)) : Tr := Tr.jmp (cut sc44 0) { tm := [(0,D.slice rs []),(1,D.func (Fn.func 32) [] []),(7,D.int .i64 (↑(List.length rs) : Int)),(8,D.int .i64 (0 : Int))],ob := [] }
theorem CIa_eq (rs : List (List D)) : goT Tryz.prog (ctr libT) 0 (finF false 0 rs44) 2000 [Fr.sc sc44] { tm := envOf 0 ([] ++ [D.slice rs [],D.func (Fn.func 32) [] []] ++ []),ob := [] } = CIa rs := by kernel_rfl
def hdIF (rs : List (List D)) (m i : Int) : St := ⟨[(0,.slice rs []),(1,.func (.func 32) [] []),(7,.int .i64 m),(8,.int .i64 i)],[]⟩
noncomputable def CIh (rs : List (List D)) (m i k : Int) (hs bs ts : List (List D)) (a1 a2 : Int) (a3 : List UInt8) (a4 : List (List D)) (b1 b2 : Int) (b3 : List UInt8) (b4 : List (List D)) (c1 c2 : Int) (c3 : List UInt8) (c4 : List (List D)) (d1 d2 : Int) (d3 : List UInt8) (d4 : List (List D)) (b : Bool) : Tr := brT (decide (i < m)) (Tr.owe ((0 : Int) <= i /\ rs[Int.toNat i]? = some (rC k hs bs ts a1 a2 a3 a4 b1 b2 b3 b4 c1 c2 c3 c4 d1 d2 d3 d4)) (Tr.owe (CallL Tryz.prog (D.func (Fn.func 32) [] []) [D.agg (rC k hs bs ts a1 a2 a3 a4 b1 b2 b3 b4 c1 c2 c3 c4 d1 d2 d3 d4)] [] fun r0 ob0 => r0 = D.bool b /\ ob0 = []) (brT b (Tr.ret (D.int .i64 i) []) (Tr.owe ((-9223372036854775808 : Int) <= i + (1 : Int) /\ i + (1 : Int) <= (9223372036854775807 : Int)) (Tr.jmp (cut sc44 0) { tm := [(0,D.slice rs []),(1,D.func (Fn.func 32) [] []),(7,D.int .i64 m),(8,D.int .i64 (i + (1 : Int)))],ob := [] }))))) (Tr.ret (D.int .i64 (-1 : Int)) [])
theorem CIh_eq (rs : List (List D)) (m i k : Int) (hs bs ts : List (List D)) (a1 a2 : Int) (a3 : List UInt8) (a4 : List (List D)) (b1 b2 : Int) (b3 : List UInt8) (b4 : List (List D)) (c1 c2 : Int) (c3 : List UInt8) (c4 : List (List D)) (d1 d2 : Int) (d3 : List UInt8) (d4 : List (List D)) (b : Bool) : goT Tryz.prog (ctr libT (asmO (D.bool b) []) (eOne (rC k hs bs ts a1 a2 a3 a4 b1 b2 b3 b4 c1 c2 c3 c4 d1 d2 d3 d4))) 0 (finF false 0 rs44) 2000 (cut sc44 0) (hdIF rs m i) = CIh rs m i k hs bs ts a1 a2 a3 a4 b1 b2 b3 b4 c1 c2 c3 c4 d1 d2 d3 d4 b := by kernel_rfl
noncomputable def CCa (rs : List (List D)) (n : Int) : Tr := Tr.owe (CallL Tryz.prog (D.func (Fn.func 44) [] []) [D.slice rs [],D.func (Fn.func 32) [] []] [] fun r0 ob0 => r0 = D.int .i64 n /\ ob0 = []) (Tr.ret (D.bool (decide ((0 : Int) <= n))) [])
theorem CCa_eq (rs : List (List D)) (n : Int) : goT Tryz.prog (ctr libT (asmO (D.int .i64 n) [])) 0 (finF false 0 rs31) 2000 [Fr.sc sc31] { tm := envOf 0 ([] ++ [D.slice rs [],D.func (Fn.func 32) [] []] ++ []),ob := [] } = CCa rs n := by kernel_rfl
noncomputable def PSf (rs sh co : List (List D)) (al b : Bool) : Tr := Tr.owe (CallL Tryz.prog (D.func (Fn.func 31) [] []) [D.slice rs [],D.func (Fn.func 32) [] []] [] fun r0 ob0 => r0 = D.bool b /\ ob0 = []) (Tr.ret (D.bool !b) [])
theorem PSf_eq (rs sh co : List (List D)) (al b : Bool) : goT Tryz.prog (ctr libT (asmO (D.bool b) [])) 0 (finF true 0 rs18) 2000 [Fr.sc sc18] { tm := envOf 0 [D.agg [D.slice rs [],D.slice sh [],D.slice co [],D.bool al]],ob := [] } = PSf rs sh co al b := by kernel_rfl
def ruL (l : List Ru) : List (List D) := l.map Ru.cs
theorem ruL_len (l : List Ru) : (ruL l).length = l.length := by simp [ruL]
theorem ruL_get {l : List Ru} {i : Nat} (h : i < l.length) : (ruL l)[i]? = some l[i].cs := by simp [ruL,h]
def badR (r : Ru) : Bool := !(unsafeS r).isEmpty
theorem safe1_ok (r : Ru) (hr : okR r) : CallL Tryz.prog (.func (.func 32) [] []) [.agg r.cs] [] fun d ob => d = .bool (badR r) /\ ob = [] := by
 obtain ⟨k,hs,⟨a1,a2,a3,a4⟩,⟨b1,b2,b3,b4⟩,bs,⟨c1,c2,c3,c4⟩,⟨d1,d2,d3,d4⟩,ts⟩ := r
 have hu := unsafe_ok k hs a1 a2 a3 a4 b1 b2 b3 b4 bs c1 c2 c3 c4 d1 d2 d3 d4 ts hr
 unfold badR
 generalize unsafeS ⟨k,hs,.mk a1 a2 a3 a4,.mk b1 b2 b3 b4,bs,.mk c1 c2 c3 c4,.mk d1 d2 d3 d4,ts⟩ = F at hu ⊢
 refine CallL.tree hdraw fp32 (ctr_ok libT_ok (asmO_ok _ _)) (CS1_eq k (heL hs) (boL bs) (Tm.cellsL ts) a1 a2 a3 (Tm.cellsL a4) b1 b2 b3 (Tm.cellsL b4) c1 c2 c3 (Tm.cellsL c4) d1 d2 d3 (Tm.cellsL d4) (kS F)) ?_
 unfold CS1
 rw [ok_owe,ok_ret]
 refine ⟨hu, ?_,rfl⟩
 cases F with
 | nil => rfl
 | cons a r => simp [kS]
def idxS : List Ru -> Int -> Int
 | [],_ => -1
 | r :: l,i => if badR r = true then i else idxS l (i + 1)
theorem idxS_ge : ∀ (l : List Ru) (i : Int),0 <= i -> (0 <= idxS l i ↔ l.any badR = true)
 | [],i,h => by simp [idxS]
 | r :: l,i,h => by
  unfold idxS
  rw [List.any_cons]
  cases hb : badR r with
  | true => simp [h]
  | false => simp [idxS_ge l (i + 1) (by omega)]
theorem index_at (l : List Ru) (hl : l.length <= 1000000) (hr : ∀ r ∈ l,okR r) : ∀ (m i : Nat),l.length - i = m -> i <= l.length →
  At Tryz.prog 0 (cut sc44 0) (hdIF (ruL l) l.length i) (FinQ false 0 rs44 fun d ob => d = .int .i64 (idxS (l.drop i) i) /\ ob = []) := by
 intro m
 induction m with
 | zero =>
  intro i hm hi
  refine At.tree (ctr_ok libT_ok (asmO_ok _ _)) (CIh_eq (ruL l) l.length i 0 [] [] [] 0 0 [] [] 0 0 [] [] 0 0 [] [] 0 0 [] [] true) ?_
  unfold CIh
  rw [List.drop_eq_nil_of_le (by omega : l.length <= i)]
  simp only [SS]
  exact ⟨fun h => by omega,fun _ => rfl⟩
 | succ m ih =>
  intro i hm hi
  have h1 : i < l.length := by omega
  have hg := ruL_get h1
  have hI := ih (i + 1) (by omega) (by omega)
  have hsf := safe1_ok _ (hr _ (List.getElem_mem h1))
  rw [drop_cons h1]
  simp only [idxS]
  generalize l[i] = r at hg hsf ⊢
  generalize badR r = b at hsf ⊢
  obtain ⟨k,hs,⟨a1,a2,a3,a4⟩,⟨b1,b2,b3,b4⟩,bs,⟨c1,c2,c3,c4⟩,⟨d1,d2,d3,d4⟩,ts⟩ := r
  refine At.tree (ctr_ok libT_ok (asmO_ok _ _)) (CIh_eq (ruL l) l.length i k (heL hs) (boL bs) (Tm.cellsL ts) a1 a2 a3 (Tm.cellsL a4) b1 b2 b3 (Tm.cellsL b4) c1 c2 c3 (Tm.cellsL c4) d1 d2 d3 (Tm.cellsL d4) b) ?_
  unfold CIh
  simp only [SS]
  refine ⟨fun _ => ⟨⟨by omega,hg⟩,hsf,fun h => ?_,fun h => ?_⟩,fun h => by omega⟩
  ·subst h
   rfl
  ·subst h
   exact ⟨by omega,hI⟩
theorem contains_ok (l : List Ru) (hl : l.length <= 1000000) (hr : ∀ r ∈ l,okR r) : CallL Tryz.prog (.func (.func 31) [] []) [.slice (ruL l) [],.func (.func 32) [] []] [] fun d ob => d = .bool (l.any badR) /\ ob = [] := by
 refine CallL.tree hdraw fp31 (ctr_ok libT_ok (asmO_ok _ _)) (CCa_eq (ruL l) (idxS l 0)) ?_
 unfold CCa
 rw [ok_owe,ok_ret]
 refine ⟨?_, ?_,rfl⟩
 ·refine CallL.tree hdraw fp44 (ctr_ok libT_ok qnone_ok) (CIa_eq (ruL l)) ?_
  unfold CIa
  rw [ok_jmp,ruL_len]
  exact index_at l hl hr _ 0 rfl (Nat.zero_le _)
 ·have := idxS_ge l 0 (Int.le_refl _)
  congr 1
  rw [Bool.eq_iff_iff,decide_eq_true_eq]
  exact this
theorem safe_ok (l : List Ru) (hl : l.length <= 1000000) (hr : ∀ r ∈ l,okR r) (sh co : List (List D)) (al : Bool) : FnOK Tryz.prog 18 [.agg [.slice (ruL l) [],.slice sh [],.slice co [],.bool al]] (.bool (!l.any badR)) := by
 refine FnOK.tree hdraw fp18 (ctr_ok libT_ok (asmO_ok _ _)) (PSf_eq (ruL l) sh co al (l.any badR)) ?_
 unfold PSf
 rw [ok_owe,ok_ret]
 exact ⟨contains_ok l hl hr,rfl⟩
end Go.Proofs.YtiafmjolbacdaaaGreat
