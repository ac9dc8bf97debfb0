/- Bound; sizes, has, SameTexts. -/
import Derived.Test.YtiafmjolbacdaaaGreatSafJ
import Derived.Test.YtiafmjolbacdaaaGreatSx9
set_option linter.unusedSectionVars false
set_option linter.unusedVariables false
set_option linter.unusedSimpArgs false
set_option linter.deprecated false
set_option maxRecDepth 100000
namespace Go.Proofs.YtiafmjolbacdaaaGreat
open Go.Sx Go.RowKit
theorem Bound_ok (ls : List Lt) (hl : ls.length ≤ 281474976710656) (hok : ∀ x ∈ ls, okL x) (g : List Nm) (hg : g.length ≤ 1000000) (hp : (ls.flatMap Lt.pool).length ≤ 1000000) :
    FnOK Tryz.prog 9 [.slice (ltL ls) [], .slice (strC g) []] (.slice (strC (boundS ls g)) []) := by
  have hn0 : (addS [] g).Nodup := addS_nd List.nodup_nil
  have hl0 := (addS_len g []).2
  have hcl := closeS_len ls hn0
  have ha := addV_ok g (by omega) []
  have hb := bound_ok ls hl hok (addS [] g) hn0
  have hs := sorted_ok (closeS (addS [] g) ls) (by simp only [List.length_nil] at hl0; omega) (closeS_nd ls hn0)
  unfold boundS
  generalize closeS (addS [] g) ls = T at hb hs ⊢
  generalize srt T = z at hs ⊢
  cases z with
  | nil =>
    refine FnOK.tree hdraw fp9 (ctr_ok libT_ok (bdQ_ok (asmO_ok _ _))) (PBoN_eq (ltL ls) (strC g) (kS (addS [] g)) (uS (addS [] g)) (kS T) (uS T)) ?_
    unfold PBoN
    rw [ok_owe, ok_owe, ok_owe, ok_owe, ok_ret]
    exact ⟨trivial, ha, hb, hs, rfl⟩
  | cons c r =>
    refine FnOK.freezeT (ty := 9) (FnOK.tree hdraw fp9 (ctr_ok libT_ok (bdQ_ok (asmO_ok _ _))) (PBoA_eq (ltL ls) (strC g) (strC (c :: r)) (kS (addS [] g)) (uS (addS [] g)) (kS T) (uS T)) ?_)
    unfold PBoA
    rw [ok_owe, ok_owe, ok_owe, ok_owe, ok_ret]
    exact ⟨trivial, ha, hb, hs, rfl⟩
def dCtr (l : List (Nat × D)) (e : List (Nat × List D) := []) (q : QT := qnone) : Ctr := ⟨fun t f az => match lk l t with | some r => some (.ok (FnOK Tryz.prog f az r) r []) | none => none, fun _ => q, fun t _ => (lk e t).getD []⟩
theorem dCtr_ok {l : List (Nat × D)} {e : List (Nat × List D)} {q : QT} (hq : q.OK) : (dCtr l e q).OK Tryz.prog := by
  refine ⟨fun t f az rt h => ?_, fun _ => hq⟩
  simp only [dCtr] at h
  split at h
  · cases h; exact fun hp => hp
  · cases h
noncomputable def PSz (k : Int) (n : Int) (s : List UInt8) (a : List (List D)) (m : Int) (c : Int) : Tr := Tr.owe ((-9223372036854775808 : Int) ≤ m - (1 : Int) ∧ m - (1 : Int) ≤ (9223372036854775807 : Int)) (Tr.owe (FnOK Tryz.prog 28 [D.slice a [], D.int .i64 (m - (1 : Int))] (D.int .i64 c)) (Tr.owe ((-9223372036854775808 : Int) ≤ (1 : Int) + c ∧ (1 : Int) + c ≤ (9223372036854775807 : Int)) (Tr.ret (D.int .i64 ((1 : Int) + c)) [])))
theorem PSz_eq (k : Int) (n : Int) (s : List UInt8) (a : List (List D)) (m : Int) (c : Int) : goT Tryz.prog (ctr (asmP (D.int .i64 c))) 0 (finF true 0 rs23) 2000 [Fr.sc sc23] { tm := envOf 0 [D.agg [D.int .u8 k, D.int .i64 n, D.str s, D.slice a []], D.int .i64 m], ob := [] } = PSz k n s a m c := by kernel_rfl
noncomputable def PSzs (a : List (List D)) (m : Int) : Tr := Tr.jmp (cut sc28 0) { tm := [(0, D.slice a []), (1, D.int .i64 m), (5, D.int .i64 (0 : Int)), (6, D.int .i64 (0 : Int))], ob := [] }
theorem PSzs_eq (a : List (List D)) (m : Int) : goT Tryz.prog (ctr libT) 0 (finF true 0 rs28) 2000 [Fr.sc sc28] { tm := envOf 0 [D.slice a [], D.int .i64 m], ob := [] } = PSzs a m := by kernel_rfl
def hdSz (a : List (List D)) (m n i : Int) : St := ⟨[(0, .slice a []), (1, .int .i64 m), (5, .int .i64 n), (6, .int .i64 i)], []⟩
noncomputable def PSzs2 (a : List (List D)) (m : Int) (n : Int) (i : Int) (kx : Int) (nx : Int) (sx : List UInt8) (ax : List (List D)) (c : Int) : Tr := brT (decide (i < (↑(List.length a) : Int))) (brT (decide (n ≤ m)) (Tr.owe ((0 : Int) ≤ i ∧ a[Int.toNat i]? = some [D.int .u8 kx, D.int .i64 nx, D.str sx, D.slice ax []]) (Tr.owe ((-9223372036854775808 : Int) ≤ m - n ∧ m - n ≤ (9223372036854775807 : Int)) (Tr.owe (FnOK Tryz.prog 23 [D.agg [D.int .u8 kx, D.int .i64 nx, D.str sx, D.slice ax []], D.int .i64 (m - n)] (D.int .i64 c)) (Tr.owe ((-9223372036854775808 : Int) ≤ n + c ∧ n + c ≤ (9223372036854775807 : Int)) (Tr.owe ((-9223372036854775808 : Int) ≤ i + (1 : Int) ∧ i + (1 : Int) ≤ (9223372036854775807 : Int)) (Tr.jmp (cut sc28 0) { tm := [(0, D.slice a []), (1, D.int .i64 m), (5, D.int .i64 (n + c)), (6, D.int .i64 (i + (1 : Int)))], ob := [] })))))) (Tr.ret (D.int .i64 n) [])) (Tr.ret (D.int .i64 n) [])
theorem PSzs2_eq (a : List (List D)) (m : Int) (n : Int) (i : Int) (kx : Int) (nx : Int) (sx : List UInt8) (ax : List (List D)) (c : Int) : goT Tryz.prog (ctr (asmP (D.int .i64 c)) qnone (eOne [D.int .u8 kx, D.int .i64 nx, D.str sx, D.slice ax []])) 0 (finF true 0 rs28) 2000 (cut sc28 0) (hdSz a m n i) = PSzs2 a m n i kx nx sx ax c := by kernel_rfl
noncomputable def PSa (p : List UInt8) (a : List (List D)) (m : Int) (c : Int) : Tr := Tr.owe ((-9223372036854775808 : Int) ≤ m - (1 : Int) ∧ m - (1 : Int) ≤ (9223372036854775807 : Int)) (Tr.owe (FnOK Tryz.prog 28 [D.slice a [], D.int .i64 (m - (1 : Int))] (D.int .i64 c)) (Tr.owe ((-9223372036854775808 : Int) ≤ (1 : Int) + c ∧ (1 : Int) + c ≤ (9223372036854775807 : Int)) (Tr.ret (D.int .i64 ((1 : Int) + c)) [])))
theorem PSa_eq (p : List UInt8) (a : List (List D)) (m : Int) (c : Int) : goT Tryz.prog (ctr (asmP (D.int .i64 c))) 0 (finF true 0 rs22) 2000 [Fr.sc sc22] { tm := envOf 0 [D.agg [D.str p, D.slice a []], D.int .i64 m], ob := [] } = PSa p a m c := by kernel_rfl
noncomputable def PSl (a : List (List D)) (ext : List (List D)) (m : Int) : Tr := Tr.jmp (cut sc8 0) { tm := [(0, D.slice a ext), (1, D.int .i64 m), (5, D.int .i64 (0 : Int)), (6, D.int .i64 (0 : Int))], ob := [] }
theorem PSl_eq (a : List (List D)) (ext : List (List D)) (m : Int) : goT Tryz.prog (ctr libT) 0 (finF true 0 rs8) 2000 [Fr.sc sc8] { tm := envOf 0 [D.slice a ext, D.int .i64 m], ob := [] } = PSl a ext m := by kernel_rfl
def hdSl (a ext : List (List D)) (m n i : Int) : St := ⟨[(0, .slice a ext), (1, .int .i64 m), (5, .int .i64 n), (6, .int .i64 i)], []⟩
noncomputable def PSl2 (es : List (List D)) (ext : List (List D)) (m : Int) (n : Int) (i : Int) (k : Int) (no : Bool) (p : List UInt8) (a : List (List D)) (op : Int) (kx : Int) (nx : Int) (sx : List UInt8) (ax : List (List D)) (ky : Int) (ny : Int) (sy : List UInt8) (ay : List (List D)) (c1 : Int) (c2 : Int) (c3 : Int) : Tr := brT (decide (i < (↑(List.length es) : Int))) (brT (decide (n ≤ m)) (Tr.owe ((0 : Int) ≤ i ∧ es[Int.toNat i]? = some [D.int .u8 k, D.bool no, D.str p, D.slice a [], D.int .u8 op, D.int .u8 kx, D.int .i64 nx, D.str sx, D.slice ax [], D.int .u8 ky, D.int .i64 ny, D.str sy, D.slice ay []]) (Tr.owe ((-9223372036854775808 : Int) ≤ m - n ∧ m - n ≤ (9223372036854775807 : Int)) (Tr.owe (FnOK Tryz.prog 22 [D.agg [D.str p, D.slice a []], D.int .i64 (m - n)] (D.int .i64 c1)) (Tr.owe ((-9223372036854775808 : Int) ≤ (1 : Int) + c1 ∧ (1 : Int) + c1 ≤ (9223372036854775807 : Int)) (Tr.owe ((0 : Int) ≤ i ∧ es[Int.toNat i]? = some [D.int .u8 k, D.bool no, D.str p, D.slice a [], D.int .u8 op, D.int .u8 kx, D.int .i64 nx, D.str sx, D.slice ax [], D.int .u8 ky, D.int .i64 ny, D.str sy, D.slice ay []]) (Tr.owe ((-9223372036854775808 : Int) ≤ m - n ∧ m - n ≤ (9223372036854775807 : Int)) (Tr.owe (FnOK Tryz.prog 23 [D.agg [D.int .u8 kx, D.int .i64 nx, D.str sx, D.slice ax []], D.int .i64 (m - n)] (D.int .i64 c2)) (Tr.owe ((-9223372036854775808 : Int) ≤ (1 : Int) + c1 + c2 ∧ (1 : Int) + c1 + c2 ≤ (9223372036854775807 : Int)) (Tr.owe ((0 : Int) ≤ i ∧ es[Int.toNat i]? = some [D.int .u8 k, D.bool no, D.str p, D.slice a [], D.int .u8 op, D.int .u8 kx, D.int .i64 nx, D.str sx, D.slice ax [], D.int .u8 ky, D.int .i64 ny, D.str sy, D.slice ay []]) (Tr.owe ((-9223372036854775808 : Int) ≤ m - n ∧ m - n ≤ (9223372036854775807 : Int)) (Tr.owe (FnOK Tryz.prog 23 [D.agg [D.int .u8 ky, D.int .i64 ny, D.str sy, D.slice ay []], D.int .i64 (m - n)] (D.int .i64 c3)) (Tr.owe ((-9223372036854775808 : Int) ≤ (1 : Int) + c1 + c2 + c3 ∧ (1 : Int) + c1 + c2 + c3 ≤ (9223372036854775807 : Int)) (Tr.owe ((-9223372036854775808 : Int) ≤ n + ((1 : Int) + c1 + c2 + c3) ∧ n + ((1 : Int) + c1 + c2 + c3) ≤ (9223372036854775807 : Int)) (Tr.owe ((-9223372036854775808 : Int) ≤ i + (1 : Int) ∧ i + (1 : Int) ≤ (9223372036854775807 : Int)) (Tr.jmp (cut sc8 0) { tm := [(0, D.slice es ext), (1, D.int .i64 m), (5, D.int .i64 (n + ((1 : Int) + c1 + c2 + c3))), (6, D.int .i64 (i + (1 : Int)))], ob := [] }))))))))))))))) (Tr.ret (D.int .i64 n) [])) (Tr.ret (D.int .i64 n) [])
theorem PSl2_eq (es : List (List D)) (ext : List (List D)) (m : Int) (n : Int) (i : Int) (k : Int) (no : Bool) (p : List UInt8) (a : List (List D)) (op : Int) (kx : Int) (nx : Int) (sx : List UInt8) (ax : List (List D)) (ky : Int) (ny : Int) (sy : List UInt8) (ay : List (List D)) (c1 : Int) (c2 : Int) (c3 : Int) : goT Tryz.prog (dCtr [(27, D.int .i64 c1), (37, D.int .i64 c2), (47, D.int .i64 c3)] [(21, lC k no p a op kx nx sx ax ky ny sy ay), (31, lC k no p a op kx nx sx ax ky ny sy ay), (41, lC k no p a op kx nx sx ax ky ny sy ay)]) 0 (finF true 0 rs8) 2000 (cut sc8 0) (hdSl es ext m n i) = PSl2 es ext m n i k no p a op kx nx sx ax ky ny sy ay c1 c2 c3 := by kernel_rfl
noncomputable def PHas (es : List (List D)) (s : List UInt8) : Tr := Tr.jmp (cut sc10 0) { tm := [(0, D.slice es []), (1, D.str s), (5, D.int .i64 (0 : Int))], ob := [] }
def hdHas (es : List (List D)) (s : List UInt8) (i : Int) : St := ⟨[(0, .slice es []), (1, .str s), (5, .int .i64 i)], []⟩
noncomputable def PHas2 (es : List (List D)) (s : List UInt8) (i : Int) (t : List UInt8) : Tr := brT (decide (i < (↑(List.length es) : Int))) (Tr.owe ((0 : Int) ≤ i ∧ es[Int.toNat i]? = some [D.str t]) (brT (decide (t = s)) (Tr.ret (D.bool true) []) (Tr.owe ((-9223372036854775808 : Int) ≤ i + (1 : Int) ∧ i + (1 : Int) ≤ (9223372036854775807 : Int)) (Tr.jmp (cut sc10 0) { tm := [(0, D.slice es []), (1, D.str s), (5, D.int .i64 (i + (1 : Int)))], ob := [] })))) (Tr.ret (D.bool false) [])
noncomputable def PSt (es : List (List D)) (fs : List (List D)) : Tr := brT (!decide ((↑(List.length es) : Int) = (↑(List.length fs) : Int))) (Tr.ret (D.bool false) []) (Tr.jmp (cut sc11 0) { tm := [(0, D.slice es []), (1, D.slice fs []), (5, D.int .i64 (0 : Int))], ob := [] })
theorem PSt_eq (es : List (List D)) (fs : List (List D)) : goT Tryz.prog (dCtr []) 0 (finF true 0 rs11) 2000 [Fr.sc sc11] { tm := envOf 0 [D.slice es [], D.slice fs []], ob := [] } = PSt es fs := by kernel_rfl
def hdSt (es fs : List (List D)) (i : Int) : St := ⟨[(0, .slice es []), (1, .slice fs []), (5, .int .i64 i)], []⟩
noncomputable def PSt2 (es : List (List D)) (fs : List (List D)) (i : Int) (s : List UInt8) (t : List UInt8) : Tr := brT (decide (i < (↑(List.length es) : Int))) (Tr.owe ((0 : Int) ≤ i ∧ es[Int.toNat i]? = some [D.str s]) (Tr.owe ((0 : Int) ≤ i ∧ fs[Int.toNat i]? = some [D.str t]) (brT (!decide (s = t)) (Tr.ret (D.bool false) []) (Tr.owe ((-9223372036854775808 : Int) ≤ i + (1 : Int) ∧ i + (1 : Int) ≤ (9223372036854775807 : Int)) (Tr.jmp (cut sc11 0) { tm := [(0, D.slice es []), (1, D.slice fs []), (5, D.int .i64 (i + (1 : Int)))], ob := [] }))))) (Tr.ret (D.bool true) [])
theorem PSt2_eq (es : List (List D)) (fs : List (List D)) (i : Int) (s : List UInt8) (t : List UInt8) : goT Tryz.prog (dCtr [] [(19, [D.str s]), (23, [D.str t])]) 0 (finF true 0 rs11) 2000 (cut sc11 0) (hdSt es fs i) = PSt2 es fs i s t := by kernel_rfl
end Go.Proofs.YtiafmjolbacdaaaGreat
