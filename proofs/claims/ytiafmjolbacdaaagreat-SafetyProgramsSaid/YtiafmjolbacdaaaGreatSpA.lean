/- Own work: a layer over the kit: plain data,a walk over it,its soundness. -/
import Derived.Test.YtiafmjolbacdaaaGreatSafU
import Derived.Test.YtiafmjolbacdaaaGreatSx9
import Derived.Test.YtiafmjolbacdaaaGreatSx8
set_option linter.unusedSectionVars false
set_option linter.unusedVariables false
set_option linter.unusedSimpArgs false
set_option linter.deprecated false
set_option maxRecDepth 100000
/- The reference model: names,sorted,vars,has: trees. -/
namespace Go.Proofs.YtiafmjolbacdaaaGreat
open Go.Sx Go.RowKit
noncomputable def RNm (k n : Int) (s : List UInt8) (a : List (List D)) : Tr := brT (decide (k = (3 : Int))) (Tr.owe (allLen 1 [[D.str s]] /\ 1 <= 1073741824) (Tr.jmp (cut sc81 0) { tm := [(1,D.ptr 0 0),(3,D.vec 1),(4,D.int .i64 (0 : Int))],ob := [(0,Ob.cells (tC k n s a)),(1,Ob.arr true 1 9 [[D.str s]])] })) (Tr.jmp (cut sc81 0) { tm := [(1,D.ptr 0 0),(3,D.vec 1),(4,D.int .i64 (0 : Int))],ob := [(0,Ob.cells (tC k n s a)),(1,Ob.arr true 1 9 [])] })
theorem RNm_eq (k n : Int) (s : List UInt8) (a : List (List D)) : goT Tryz.prog (dCtr []) 0 (finF true 0 rs81) 2000 [Fr.sc sc81] { tm := envOf 0 [D.agg (tC k n s a)],ob := [] } = RNm k n s a := by kernel_rfl
def hdN (k n : Int) (s : List UInt8) (a rw : List (List D)) (i : Int) : St := ⟨[(1,.ptr 0 0),(3,.vec 1),(4,.int .i64 i)],[(0,.cells (tC k n s a)),(1,.arr true 1 9 rw)]⟩
noncomputable def RNm2 (k n : Int) (s : List UInt8) (a rw w : List (List D)) (i kx nx : Int) (sx : List UInt8) (ax : List (List D)) : Tr := brT (decide (i < (↑(List.length a) : Int))) (Tr.owe ((0 : Int) <= i /\ a[Int.toNat i]? = some (tC kx nx sx ax)) (Tr.owe (FnOK Tryz.prog 81 [D.agg (tC kx nx sx ax)] (D.slice w [])) (Tr.owe (allLen 1 w /\ List.length rw + List.length w <= 1073741824) (Tr.owe ((-9223372036854775808 : Int) <= i + (1 : Int) /\ i + (1 : Int) <= (9223372036854775807 : Int)) (Tr.jmp (cut sc81 0) { tm := [(1,D.ptr 0 0),(3,D.vec 1),(4,D.int .i64 (i + (1 : Int)))],ob := [(0,Ob.cells (tC k n s a)),(1,Ob.arr true 1 9 (rw ++ w))] }))))) (Tr.ret (D.own 1 9 rw) [])
theorem RNm2_eq (k n : Int) (s : List UInt8) (a rw w : List (List D)) (i kx nx : Int) (sx : List UInt8) (ax : List (List D)) : goT Tryz.prog (dCtr [(26,D.slice w [])] [(24,tC kx nx sx ax)]) 0 (finF true 0 rs81) 2000 (cut sc81 0) (hdN k n s a rw i) = RNm2 k n s a rw w i kx nx sx ax := by kernel_rfl
noncomputable def RSo (es : List (List D)) : Tr := Tr.jmp (cut sc80 0) { tm := [(0,D.slice es []),(3,D.vec 0)],ob := [(0,Ob.arr true 1 9 [])] }
theorem RSo_eq (es : List (List D)) : goT Tryz.prog (dCtr []) 0 (finF true 0 rs80) 2000 [Fr.sc sc80] { tm := envOf 0 [D.slice es []],ob := [] } = RSo es := by kernel_rfl
noncomputable def RSo1 (es rw : List (List D)) : Tr := Tr.jmp (cut sc80 1) { tm := [(0,D.slice es []),(3,D.vec 0),(4,D.int .i64 (-1 : Int)),(5,D.int .i64 (0 : Int))],ob := [(0,Ob.arr true 1 9 rw)] }
theorem RSo1_eq (es rw : List (List D)) : goT Tryz.prog (dCtr []) 0 (finF true 0 rs80) 2000 (cut sc80 0) { tm := [(0,D.slice es []),(3,D.vec 0)],ob := [(0,Ob.arr true 1 9 rw)] } = RSo1 es rw := by kernel_rfl
noncomputable def RSo2 (es rw : List (List D)) (b i : Int) (x y z : List UInt8) : Tr := brT (decide (i < (↑(List.length es) : Int))) (brT (decide ((0 : Int) < (↑(List.length rw) : Int))) (Tr.owe ((0 : Int) <= i /\ es[Int.toNat i]? = some [D.str x]) (Tr.owe ((-9223372036854775808 : Int) <= (↑(List.length rw) : Int) - (1 : Int) /\ (↑(List.length rw) : Int) - (1 : Int) <= (9223372036854775807 : Int)) (Tr.owe ((0 : Int) <= (↑(List.length rw) : Int) - (1 : Int) /\ rw[Int.toNat ((↑(List.length rw) : Int) - (1 : Int))]? = some [D.str y]) (brT (Op.bytesLess x y || decide (x = y)) (Tr.owe ((-9223372036854775808 : Int) <= i + (1 : Int) /\ i + (1 : Int) <= (9223372036854775807 : Int)) (Tr.jmp (cut sc80 1) { tm := [(0,D.slice es []),(3,D.vec 0),(4,D.int .i64 b),(5,D.int .i64 (i + (1 : Int)))],ob := [(0,Ob.arr true 1 9 rw)] })) (brT (decide (b < (0 : Int))) (Tr.owe ((-9223372036854775808 : Int) <= i + (1 : Int) /\ i + (1 : Int) <= (9223372036854775807 : Int)) (Tr.jmp (cut sc80 1) { tm := [(0,D.slice es []),(3,D.vec 0),(4,D.int .i64 i),(5,D.int .i64 (i + (1 : Int)))],ob := [(0,Ob.arr true 1 9 rw)] })) (Tr.owe ((0 : Int) <= i /\ es[Int.toNat i]? = some [D.str x]) (Tr.owe ((0 : Int) <= b /\ es[Int.toNat b]? = some [D.str z]) (brT (Op.bytesLess x z) (Tr.owe ((-9223372036854775808 : Int) <= i + (1 : Int) /\ i + (1 : Int) <= (9223372036854775807 : Int)) (Tr.jmp (cut sc80 1) { tm := [(0,D.slice es []),(3,D.vec 0),(4,D.int .i64 i),(5,D.int .i64 (i + (1 : Int)))],ob := [(0,Ob.arr true 1 9 rw)] })) (Tr.owe ((-9223372036854775808 : Int) <= i + (1 : Int) /\ i + (1 : Int) <= (9223372036854775807 : Int)) (Tr.jmp (cut sc80 1) { tm := [(0,D.slice es []),(3,D.vec 0),(4,D.int .i64 b),(5,D.int .i64 (i + (1 : Int)))],ob := [(0,Ob.arr true 1 9 rw)] })))))))))) (brT (decide (b < (0 : Int))) (Tr.owe ((-9223372036854775808 : Int) <= i + (1 : Int) /\ i + (1 : Int) <= (9223372036854775807 : Int)) (Tr.jmp (cut sc80 1) { tm := [(0,D.slice es []),(3,D.vec 0),(4,D.int .i64 i),(5,D.int .i64 (i + (1 : Int)))],ob := [(0,Ob.arr true 1 9 rw)] })) (Tr.owe ((0 : Int) <= i /\ es[Int.toNat i]? = some [D.str x]) (Tr.owe ((0 : Int) <= b /\ es[Int.toNat b]? = some [D.str z]) (brT (Op.bytesLess x z) (Tr.owe ((-9223372036854775808 : Int) <= i + (1 : Int) /\ i + (1 : Int) <= (9223372036854775807 : Int)) (Tr.jmp (cut sc80 1) { tm := [(0,D.slice es []),(3,D.vec 0),(4,D.int .i64 i),(5,D.int .i64 (i + (1 : Int)))],ob := [(0,Ob.arr true 1 9 rw)] })) (Tr.owe ((-9223372036854775808 : Int) <= i + (1 : Int) /\ i + (1 : Int) <= (9223372036854775807 : Int)) (Tr.jmp (cut sc80 1) { tm := [(0,D.slice es []),(3,D.vec 0),(4,D.int .i64 b),(5,D.int .i64 (i + (1 : Int)))],ob := [(0,Ob.arr true 1 9 rw)] }))))))) (brT (decide (b < (0 : Int))) (Tr.ret (D.own 1 9 rw) []) (Tr.owe ((0 : Int) <= b /\ es[Int.toNat b]? = some [D.str z]) (Tr.owe (allLen 1 [[D.str z]] /\ List.length rw + 1 <= 1073741824) (Tr.jmp (cut sc80 0) { tm := [(0,D.slice es []),(3,D.vec 0)],ob := [(0,Ob.arr true 1 9 (rw ++ [[D.str z]]))] }))))
theorem RSo2_eq (es rw : List (List D)) (b i : Int) (x y z : List UInt8) : goT Tryz.prog (dCtr [] [(18,[D.str x]),(24,[D.str y]),(33,[D.str x]),(37,[D.str z]),(48,[D.str z])]) 0 (finF true 0 rs80) 2000 (cut sc80 1) { tm := [(0,D.slice es []),(3,D.vec 0),(4,D.int .i64 b),(5,D.int .i64 i)],ob := [(0,Ob.arr true 1 9 rw)] } = RSo2 es rw b i x y z := by kernel_rfl
noncomputable def RVa (k n : Int) (s : List UInt8) (a w z : List (List D)) : Tr := Tr.owe (FnOK Tryz.prog 81 [D.agg (tC k n s a)] (D.slice w [])) (Tr.owe (FnOK Tryz.prog 80 [D.slice w []] (D.own 1 9 z)) (Tr.ret (D.own 1 9 z) []))
theorem RVa_eq (k n : Int) (s : List UInt8) (a w z : List (List D)) : goT Tryz.prog (dCtr [(4,D.slice w []),(5,D.own 1 9 z)]) 0 (finF true 0 rs64) 2000 [Fr.sc sc64] { tm := envOf 0 [D.agg (tC k n s a)],ob := [] } = RVa k n s a w z := by kernel_rfl
noncomputable def RVr (a z : List (List D)) : Tr := Tr.owe (FnOK Tryz.prog 64 [D.agg [D.int .u8 (0 : Int),D.int .i64 (0 : Int),D.str [],D.slice a []]] (D.own 1 9 z)) (Tr.ret (D.own 1 9 z) [])
theorem RVr_eq (a z : List (List D)) : goT Tryz.prog (dCtr [(5,D.own 1 9 z)]) 0 (finF true 0 rs48) 2000 [Fr.sc sc48] { tm := envOf 0 [D.slice a []],ob := [] } = RVr a z := by kernel_rfl
noncomputable def RSd (es : List (List D)) : Tr := Tr.jmp (cut sc50 0) { tm := [(0,D.slice es []),(3,D.ptr 0 0),(4,D.int .i64 (0 : Int))],ob := [(0,Ob.cells [D.int .u8 (0 : Int),D.int .i64 (0 : Int),D.str [],D.nils])] }
theorem RSd_eq (es : List (List D)) : goT Tryz.prog (dCtr []) 0 (finF true 0 rs50) 2000 [Fr.sc sc50] { tm := envOf 0 [D.slice es []],ob := [] } = RSd es := by kernel_rfl
noncomputable def RSdN (es z : List (List D)) (i : Int) (x : List UInt8) : Tr := brT (decide (i < (↑(List.length es) : Int))) (Tr.owe ((0 : Int) <= i /\ es[Int.toNat i]? = some [D.str x]) (Tr.owe (allLen 4 [[D.int .u8 (3 : Int),D.int .i64 (0 : Int),D.str x,D.slice [] []]] /\ 1 <= 1073741824) (Tr.owe ((-9223372036854775808 : Int) <= i + (1 : Int) /\ i + (1 : Int) <= (9223372036854775807 : Int)) (Tr.jmp (cut sc50 0) { tm := [(0,D.slice es []),(3,D.ptr 0 0),(4,D.int .i64 (i + (1 : Int)))],ob := [(0,Ob.cells [D.int .u8 (0 : Int),D.int .i64 (0 : Int),D.str [],D.vec 1]),(1,Ob.arr true 4 32 [[D.int .u8 (3 : Int),D.int .i64 (0 : Int),D.str x,D.slice [] []]])] })))) (Tr.owe (FnOK Tryz.prog 64 [D.agg [D.int .u8 (0 : Int),D.int .i64 (0 : Int),D.str [],D.slice [] []]] (D.own 1 9 z)) (Tr.ret (D.own 1 9 z) []))
theorem RSdN_eq (es z : List (List D)) (i : Int) (x : List UInt8) : goT Tryz.prog (dCtr [(23,D.own 1 9 z)] [(16,[D.str x])]) 0 (finF true 0 rs50) 2000 (cut sc50 0) { tm := [(0,D.slice es []),(3,D.ptr 0 0),(4,D.int .i64 i)],ob := [(0,Ob.cells [D.int .u8 (0 : Int),D.int .i64 (0 : Int),D.str [],D.nils])] } = RSdN es z i x := by kernel_rfl
noncomputable def RSdA (es rw z : List (List D)) (i : Int) (x : List UInt8) : Tr := brT (decide (i < (↑(List.length es) : Int))) (Tr.owe ((0 : Int) <= i /\ es[Int.toNat i]? = some [D.str x]) (Tr.owe (allLen 4 [[D.int .u8 (3 : Int),D.int .i64 (0 : Int),D.str x,D.slice [] []]] /\ List.length rw + 1 <= 1073741824) (Tr.owe ((-9223372036854775808 : Int) <= i + (1 : Int) /\ i + (1 : Int) <= (9223372036854775807 : Int)) (Tr.jmp (cut sc50 0) { tm := [(0,D.slice es []),(3,D.ptr 0 0),(4,D.int .i64 (i + (1 : Int)))],ob := [(0,Ob.cells [D.int .u8 (0 : Int),D.int .i64 (0 : Int),D.str [],D.vec 1]),(1,Ob.arr true 4 32 (rw ++ [[D.int .u8 (3 : Int),D.int .i64 (0 : Int),D.str x,D.slice [] []]]))] })))) (Tr.owe (FnOK Tryz.prog 64 [D.agg [D.int .u8 (0 : Int),D.int .i64 (0 : Int),D.str [],D.slice rw []]] (D.own 1 9 z)) (Tr.ret (D.own 1 9 z) []))
theorem RSdA_eq (es rw z : List (List D)) (i : Int) (x : List UInt8) : goT Tryz.prog (dCtr [(23,D.own 1 9 z)] [(16,[D.str x])]) 0 (finF true 0 rs50) 2000 (cut sc50 0) { tm := [(0,D.slice es []),(3,D.ptr 0 0),(4,D.int .i64 i)],ob := [(0,Ob.cells [D.int .u8 (0 : Int),D.int .i64 (0 : Int),D.str [],D.vec 1]),(1,Ob.arr true 4 32 rw)] } = RSdA es rw z i x := by kernel_rfl
noncomputable def RHa (es : List (List D)) (s : List UInt8) : Tr := Tr.jmp (cut sc62 0) { tm := [(0,D.slice es []),(1,D.str s),(5,D.int .i64 (0 : Int))],ob := [] }
theorem RHa_eq (es : List (List D)) (s : List UInt8) : goT Tryz.prog (dCtr []) 0 (finF true 0 rs62) 2000 [Fr.sc sc62] { tm := envOf 0 [D.slice es [],D.str s],ob := [] } = RHa es s := by kernel_rfl
noncomputable def RHa2 (es : List (List D)) (s : List UInt8) (i : Int) (t : List UInt8) : Tr := brT (decide (i < (↑(List.length es) : Int))) (Tr.owe ((0 : Int) <= i /\ es[Int.toNat i]? = some [D.str t]) (brT (decide (t = s)) (Tr.ret (D.bool true) []) (Tr.owe ((-9223372036854775808 : Int) <= i + (1 : Int) /\ i + (1 : Int) <= (9223372036854775807 : Int)) (Tr.jmp (cut sc62 0) { tm := [(0,D.slice es []),(1,D.str s),(5,D.int .i64 (i + (1 : Int)))],ob := [] })))) (Tr.ret (D.bool false) [])
theorem RHa2_eq (es : List (List D)) (s : List UInt8) (i : Int) (t : List UInt8) : goT Tryz.prog (dCtr [] [(14,[D.str t])]) 0 (finF true 0 rs62) 2000 (cut sc62 0) (hdHas es s i) = RHa2 es s i t := by kernel_rfl
end Go.Proofs.YtiafmjolbacdaaaGreat

/- The reference model: names,sorted,Vars,vars,has,proved. -/
namespace Go.Proofs.YtiafmjolbacdaaaGreat
open Go.Sx Go.RowKit
theorem strC_app' (a b : List Nm) : strC (a ++ b) = strC a ++ strC b := by simp [strC]
theorem nm_at (k n : Int) (s : Nm) (l : List Tm) (P : List Nm) (hl : l.length <= 281474976710656) (hP : (P ++ Tm.vsL l).length <= 1073741824) (H : ∀ x ∈ l,FnOK Tryz.prog 81 [.agg x.cells] (.slice (strC x.vs) [])) : ∀ (m i : Nat),l.length - i = m -> i <= l.length →
  At Tryz.prog 0 (cut sc81 0) (hdN k n s (Tm.cellsL l) (strC (P ++ Tm.vsL (l.take i))) i) (FinQ true 0 rs81 fun r _ => r = .own 1 9 (strC (P ++ Tm.vsL l))) := by
 intro m
 induction m with
 | zero =>
  intro i hm hi
  refine At.tree (dCtr_ok qnone_ok) (RNm2_eq k n s (Tm.cellsL l) (strC (P ++ Tm.vsL (l.take i))) [] i 0 0 [] []) ?_
  unfold RNm2
  rw [List.take_of_length_le (show l.length <= i by omega)]
  simp only [SS,cellsL_length]
  exact ⟨fun h => by omega,fun _ => trivial⟩
 | succ m ih =>
  intro i hm hi
  have h1 : i < l.length := by omega
  have hI := ih (i + 1) (by omega) (by omega)
  have hg := cellsL_get h1
  have hC := H _ (List.getElem_mem h1)
  have e : Tm.vsL (l.take (i + 1)) = Tm.vsL (l.take i) ++ l[i].vs := by
   rw [List.take_add_one,List.getElem?_eq_getElem h1,vsL_app]
   simp [Tm.vsL]
  have hz : (P ++ Tm.vsL (l.take i)).length + l[i].vs.length <= 1073741824 := by
   have e2 : Tm.vsL l = Tm.vsL (l.take (i + 1)) ++ Tm.vsL (l.drop (i + 1)) := by rw [<- vsL_app,List.take_append_drop]
   rw [e2,e] at hP
   simp only [List.length_append] at hP ⊢
   omega
  rw [e,<- List.append_assoc,strC_app'] at hI
  generalize P ++ Tm.vsL (l.take i) = R at hI hz ⊢
  have al := alS l[i].vs
  generalize l[i].vs = v at hI hC hz al
  generalize l[i] = x at hg hC
  obtain ⟨kx,nx,sx,ax⟩ := x
  refine At.tree (dCtr_ok qnone_ok) (RNm2_eq k n s (Tm.cellsL l) (strC R) (strC v) i kx nx sx (Tm.cellsL ax)) ?_
  unfold RNm2
  simp only [SS,cellsL_length,strC_len]
  exact ⟨fun _ => ⟨⟨by omega,hg⟩,hC,⟨al,hz⟩,by omega,hI⟩,fun h => by omega⟩
theorem names_ok : ∀ (x : Tm),x.wf 281474976710656 -> x.vs.length <= 1073741824 -> FnOK Tryz.prog 81 [.agg x.cells] (.slice (strC x.vs) [])
 | .mk k n s l,hx,hv => by
  simp only [Tm.wf] at hx
  obtain ⟨hk,hn1,hn2,hs,hl,hw⟩ := hx
  have H : ∀ y ∈ l,FnOK Tryz.prog 81 [.agg y.cells] (.slice (strC y.vs) []) := fun y hy => names_ok y (wf_get hw hy) (by
   have := vsL_mem hy
   simp only [Tm.vs,List.length_append] at hv
   omega)
  refine FnOK.freezeT (ty := 9) (FnOK.tree hdraw fp81 (dCtr_ok qnone_ok) (RNm_eq k n s (Tm.cellsL l)) ?_)
  unfold RNm
  simp only [Tm.vs,Tm.v1] at hv ⊢
  by_cases h3 : k = 3
  ·rw [if_pos h3] at hv ⊢
   have hA := nm_at k n s l [s] hl hv H _ 0 rfl (Nat.zero_le _)
   simp only [SS]
   refine ⟨fun _ => ⟨⟨alS [s],by omega⟩,hA⟩,fun h => by omega⟩
  ·rw [if_neg h3] at hv ⊢
   have hA := nm_at k n s l [] hl hv H _ 0 rfl (Nat.zero_le _)
   simp only [SS]
   exact ⟨fun h => by omega,fun _ => hA⟩
termination_by x => SizeOf.sizeOf x
decreasing_by
 have := List.sizeOf_lt_of_mem hy
 simp only [Tm.mk.sizeOf_spec]
 omega
def gtA (O : List Nm) (x : Nm) : Prop := ∀ y ∈ O,y < x
structure SrI (l O : List Nm) : Prop where
 lt : O.Pairwise (· < ·)
 mem : ∀ x ∈ O,x ∈ l
 dn : ∀ x ∈ l,(∃ y ∈ O,x <= y) -> x ∈ O
theorem not_gt {O : List Nm} {x : Nm} (h : ¬ gtA O x) : ∃ y ∈ O,x <= y := by
 refine Classical.byContradiction fun hn => h fun y hy => ?_
 refine Classical.byContradiction fun hlt => hn ⟨y,hy, ?_⟩
 exact List.not_lt.1 hlt
theorem lt_le {a b : Nm} (h : a < b) : a <= b := List.le_of_lt h
theorem gt_last {O : List Nm} {y x : Nm} (h : (O ++ [y]).Pairwise (· < ·)) : gtA (O ++ [y]) x ↔ y < x := by
 constructor
 ·exact fun hg => hg y (by simp)
 ·intro hlt z hz
  rcases List.mem_append.1 hz with hz | hz
  ·exact List.lt_trans ((List.pairwise_append.1 h).2.2 z hz y (by simp)) hlt
  ·rw [List.mem_singleton] at hz; exact hz ▸ hlt
theorem SrI.done {l O : List Nm} (h : SrI l O) (hn : ∀ x ∈ l,¬ gtA O x) : O = sortD l :=
 pw_eq h.lt (sortD_lt l) fun x => by
  rw [sortD_mem]
  exact ⟨h.mem x,fun hx => h.dn x hx (not_gt (hn x hx))⟩
theorem SrI.next {l O : List Nm} (h : SrI l O) {z : Nm} (hz : z ∈ l) (hg : gtA O z) (hm : ∀ x ∈ l,gtA O x -> z <= x) : SrI l (O ++ [z]) := by
 refine ⟨List.pairwise_append.2 ⟨h.lt,by simp,fun a ha b hb => by rw [List.mem_singleton] at hb; exact hb ▸ hg a ha⟩,fun x hx => ?_,fun x hx ⟨y,hy,hxy⟩ => ?_⟩
 ·rcases List.mem_append.1 hx with hx | hx
  ·exact h.mem x hx
  ·rw [List.mem_singleton] at hx; exact hx ▸ hz
 ·rcases List.mem_append.1 hy with hy | hy
  ·exact List.mem_append_left _ (h.dn x hx ⟨y,hy,hxy⟩)
  ·rw [List.mem_singleton] at hy
   subst hy
   by_cases hgx : gtA O x
   ·have := List.le_antisymm hxy (hm x hx hgx)
    rw [this]; simp
   ·exact List.mem_append_left _ (h.dn x hx (not_gt hgx))
theorem SrI.len {l O : List Nm} (h : SrI l O) : O.length <= l.length :=
 List.Nodup.length_le_of_subset (h.lt.imp fun {a b} hab e => by subst e; exact List.lt_irrefl _ hab) h.mem
def InI (l O : List Nm) (b : Int) (i : Nat) : Prop := (b = -1 /\ ∀ j,(h : j < l.length) -> j < i -> ¬ gtA O l[j]) \/ ∃ c : Nat, ∃ h : c < l.length,b = c /\ c < i /\ gtA O l[c] /\ ∀ j,(h' : j < l.length) -> j < i -> gtA O l[j] -> l[c] <= l[j]
theorem InI.skip {l O : List Nm} {b : Int} {i : Nat} (h : InI l O b i) (hi : i < l.length) (hn : ¬ gtA O l[i]) : InI l O b (i + 1) := by
 rcases h with ⟨hb,h⟩ | ⟨c,hc,hb,hci,hg,h⟩
 ·refine .inl ⟨hb,fun j hj hji => ?_⟩
  by_cases e : j = i
  ·subst e; exact hn
  ·exact h j hj (by omega)
 ·refine .inr ⟨c,hc,hb,by omega,hg,fun j hj hji hgj => ?_⟩
  by_cases e : j = i
  ·subst e; exact absurd hgj hn
  ·exact h j hj (by omega) hgj
theorem InI.none {l O : List Nm} {i : Nat} (h : InI l O (-1) i) (hi : i < l.length) (hg : gtA O l[i]) : InI l O i (i + 1) := by
 rcases h with ⟨_,h⟩ | ⟨c,hc,hb,_⟩
 ·refine .inr ⟨i,hi,rfl,by omega,hg,fun j hj hji hgj => ?_⟩
  by_cases e : j = i
  ·subst e; exact List.le_refl _
  ·exact absurd hgj (h j hj (by omega))
 ·omega
theorem InI.take {l O : List Nm} {c i : Nat} (h : InI l O c i) (hc : c < l.length) (hi : i < l.length) (hg : gtA O l[i]) : InI l O (if l[i] < l[c] then (i : Int) else c) (i + 1) := by
 rcases h with ⟨hb,_⟩ | ⟨c',hc',hb,hci,hgc,h⟩
 ·omega
 ·obtain rfl : c = c' := by omega
  split
  ·rename_i hlt
   refine .inr ⟨i,hi,rfl,by omega,hg,fun j hj hji hgj => ?_⟩
   by_cases e : j = i
   ·subst e; exact List.le_refl _
   ·exact List.le_trans (lt_le hlt) (h j hj (by omega) hgj)
  ·rename_i hlt
   refine .inr ⟨c,hc,rfl,by omega,hgc,fun j hj hji hgj => ?_⟩
   by_cases e : j = i
   ·subst e; exact List.not_lt.1 hlt
   ·exact h j hj (by omega) hgj
def BzI (l : List Nm) (b : Int) : Prop := b = -1 \/ ∃ c : Nat, ∃ h : c < l.length,b = c
abbrev QSo (l : List Nm) : Exit -> St -> Prop := FinQ true 0 rs80 fun r _ => r = .own 1 9 (strC (sortD l))
theorem so2_at (l : List Nm) (hl : l.length <= 1000000000) (O : List Nm) (hO : SrI l O) (K : ∀ z,SrI l (O ++ [z]) -> At Tryz.prog 0 (cut sc80 0) ⟨[(0,.slice (strC l) []),(3,.vec 0)],[(0,.arr true 1 9 (strC (O ++ [z])))]⟩ (QSo l)) : ∀ (m i : Nat) (b : Int),l.length - i = m -> i <= l.length -> InI l O b i →
  At Tryz.prog 0 (cut sc80 1) ⟨[(0,.slice (strC l) []),(3,.vec 0),(4,.int .i64 b),(5,.int .i64 i)],[(0,.arr true 1 9 (strC O))]⟩ (QSo l) := by
 have hOl := hO.len
 intro m
 induction m with
 | zero =>
  intro i b hm hi hI
  rcases hI with ⟨rfl,hn⟩ | ⟨c,hc,rfl,_,hg,hmin⟩
  ·have e := hO.done fun x hx => by
    obtain ⟨j,hj,rfl⟩ := List.getElem_of_mem hx
    exact hn j hj (by omega)
   refine At.tree (dCtr_ok qnone_ok) (RSo2_eq (strC l) (strC O) (-1) i [] [] []) ?_
   unfold RSo2
   simp only [SS,strC_len]
   exact ⟨fun h => by omega,fun _ => ⟨fun _ => by rw [e],fun h => absurd (by omega) h⟩⟩
  ·have hK := K l[c] (hO.next (List.getElem_mem hc) hg fun x hx hgx => by
    obtain ⟨j,hj,rfl⟩ := List.getElem_of_mem hx
    exact hmin j hj (by omega) hgx)
   rw [strC_app'] at hK
   refine At.tree (dCtr_ok qnone_ok) (RSo2_eq (strC l) (strC O) c i [] [] l[c]) ?_
   unfold RSo2
   simp only [SS,strC_len]
   exact ⟨fun h => by omega,fun _ => ⟨fun h => by omega,fun _ => ⟨⟨by omega,strC_gt hc⟩,⟨alS [l[c]],by omega⟩,hK⟩⟩⟩
 | succ m ih =>
  intro i b hm hi hI
  have h1 : i < l.length := by omega
  have hx := strC_gt h1
  -- what follows once the element is beyond
  have hbz : BzI l b := by
   rcases hI with ⟨hb,_⟩ | ⟨c,hc,hb,_⟩
   ·exact .inl hb
   ·exact .inr ⟨c,hc,hb⟩
  have hskip : ¬ gtA O l[i] -> _ := fun hn => ih (i + 1) b (by omega) (by omega) (hI.skip h1 hn)
  have htake : gtA O l[i] -> (b = -1 -> At Tryz.prog 0 (cut sc80 1) ⟨[(0,.slice (strC l) []),(3,.vec 0),(4,.int .i64 i),(5,.int .i64 (i + 1))],[(0,.arr true 1 9 (strC O))]⟩ (QSo l)) /\ (∀ c : Nat, ∀ h : c < l.length,b = c -> At Tryz.prog 0 (cut sc80 1) ⟨[(0,.slice (strC l) []),(3,.vec 0),(4,.int .i64 (if l[i] < l[c] then (i : Int) else c)),(5,.int .i64 (i + 1))],[(0,.arr true 1 9 (strC O))]⟩ (QSo l)) := fun hg =>
   ⟨fun e => by subst e; exact ih (i + 1) i (by omega) (by omega) (hI.none h1 hg),fun c hc e => by subst e; exact ih (i + 1) _ (by omega) (by omega) (hI.take hc h1 hg)⟩
  rcases List.eq_nil_or_concat O with hnil | ⟨O',y,hcc⟩
  ·have hg : gtA O l[i] := by rw [hnil]; intro y hy; cases hy
   obtain ⟨t1,t2⟩ := htake hg
   have hlen : O.length = 0 := by rw [hnil]; rfl
   rcases hbz with hb | ⟨c,hc,hb⟩
   ·have t1 := t1 hb
    refine At.tree (dCtr_ok qnone_ok) (RSo2_eq (strC l) (strC O) b i l[i] [] []) ?_
    unfold RSo2
    simp only [SS,strC_len]
    exact ⟨fun _ => ⟨fun h => by omega,fun _ => ⟨fun _ => ⟨by omega,t1⟩,fun h => by omega⟩⟩,fun h => by omega⟩
   ·have t3 := t2 c hc hb
    subst hb
    refine At.tree (dCtr_ok qnone_ok) (RSo2_eq (strC l) (strC O) c i l[i] [] l[c]) ?_
    unfold RSo2
    simp only [SS,strC_len,blt]
    refine ⟨fun _ => ⟨fun h => by omega,fun _ => ⟨fun h => by omega,fun _ => ⟨⟨by omega,hx⟩,⟨by omega,strC_gt hc⟩,fun hlt => ?_,fun hlt => ?_⟩⟩⟩,fun h => by omega⟩
    ·rw [if_pos hlt] at t3; exact ⟨by omega,t3⟩
    ·rw [if_neg hlt] at t3; exact ⟨by omega,t3⟩
  ·rw [List.concat_eq_append] at hcc
   have hlen : O.length = O'.length + 1 := by rw [hcc]; simp
   have hy : (strC O)[O'.length]? = some [.str y] := by rw [hcc]; simp [strC]
   have hgl : gtA O l[i] ↔ y < l[i] := by
    have := hO.lt
    rw [hcc] at this ⊢
    exact gt_last this
   have hle : (decide (l[i] < y) || decide (l[i] = y)) = !decide (y < l[i]) := by
    rw [Bool.eq_iff_iff]
    simp only [Bool.or_eq_true,decide_eq_true_eq,Bool.not_eq_true',decide_eq_false_iff_not]
    constructor
    ·rintro (h | h)
     ·exact fun h2 => List.lt_irrefl _ (List.lt_trans h h2)
     ·intro h2
      rw [h] at h2
      exact List.lt_irrefl _ h2
    ·intro h
     have h := List.not_lt.1 h
     by_cases e : l[i] = y
     ·exact .inr e
     ·exact .inl (lt_ne h e)
   have hidx : ((O.length : Int) - 1).toNat = O'.length := by omega
   rcases hbz with hb | ⟨c,hc,hb⟩
   ·refine At.tree (dCtr_ok qnone_ok) (RSo2_eq (strC l) (strC O) b i l[i] y []) ?_
    unfold RSo2
    simp only [SS,strC_len,blt,hidx,hle,Classical.not_not]
    exact ⟨fun _ => ⟨fun _ => ⟨⟨by omega,hx⟩,by omega,⟨by omega,hy⟩,fun hn => ⟨by omega,hskip fun h => hn (hgl.1 h)⟩,fun hg => ⟨fun _ => ⟨by omega,(htake (hgl.2 hg)).1 hb⟩,fun h => by omega⟩⟩,fun h => by omega⟩,fun h => by omega⟩
   ·subst hb
    refine At.tree (dCtr_ok qnone_ok) (RSo2_eq (strC l) (strC O) c i l[i] y l[c]) ?_
    unfold RSo2
    simp only [SS,strC_len,blt,hidx,hle,Classical.not_not]
    refine ⟨fun _ => ⟨fun _ => ⟨⟨by omega,hx⟩,by omega,⟨by omega,hy⟩,fun hn => ⟨by omega,hskip fun h => hn (hgl.1 h)⟩,fun hg => ⟨fun h => by omega,fun _ => ⟨⟨by omega,hx⟩,⟨by omega,strC_gt hc⟩,fun hlt => ?_,fun hlt => ?_⟩⟩⟩,fun h => by omega⟩,fun h => by omega⟩
    ·have t2 := (htake (hgl.2 hg)).2 c hc rfl
     rw [if_pos hlt] at t2; exact ⟨by omega,t2⟩
    ·have t2 := (htake (hgl.2 hg)).2 c hc rfl
     rw [if_neg hlt] at t2; exact ⟨by omega,t2⟩
theorem so1_at (l : List Nm) (hl : l.length <= 1000000000) : ∀ (m : Nat) (O : List Nm),O.length + m = l.length + 1 -> SrI l O →
  At Tryz.prog 0 (cut sc80 0) ⟨[(0,.slice (strC l) []),(3,.vec 0)],[(0,.arr true 1 9 (strC O))]⟩ (QSo l) := by
 intro m
 induction m with
 | zero =>
  intro O hm hO
  have := hO.len
  omega
 | succ m ih =>
  intro O hm hO
  have h2 := so2_at l hl O hO (fun z hz => ih (O ++ [z]) (by rw [List.length_append,List.length_singleton]; omega) hz) _ 0 (-1) rfl (Nat.zero_le _) (.inl ⟨rfl,fun j _ hj => by omega⟩)
  refine At.tree (dCtr_ok qnone_ok) (RSo1_eq (strC l) (strC O)) ?_
  unfold RSo1
  rw [ok_jmp]
  exact h2
theorem rsorted_ok (l : List Nm) (hl : l.length <= 1000000000) : FnOK Tryz.prog 80 [.slice (strC l) []] (.own 1 9 (strC (sortD l))) := by
 have h := so1_at l hl _ [] (by rw [List.length_nil,Nat.zero_add]) ⟨List.Pairwise.nil,fun x hx => (by cases hx),fun x hx ⟨y,hy,_⟩ => (by cases hy)⟩
 refine FnOK.tree hdraw fp80 (dCtr_ok qnone_ok) (RSo_eq (strC l)) ?_
 unfold RSo
 rw [ok_jmp]
 exact h
theorem rVars_ok (x : Tm) (hx : x.wf 281474976710656) (hv : x.vs.length <= 1000000000) : FnOK Tryz.prog 64 [.agg x.cells] (.own 1 9 (strC x.W)) := by
 have h1 := names_ok x hx (by omega)
 have h2 := rsorted_ok x.vs hv
 have e : sortD x.vs = x.W := rfl
 rw [e] at h2
 generalize x.vs = v at h1 h2
 generalize x.W = w at h2 ⊢
 obtain ⟨k,n,s,a⟩ := x
 refine FnOK.tree hdraw fp64 (dCtr_ok qnone_ok) (RVa_eq k n s (Tm.cellsL a) (strC v) (strC w)) ?_
 unfold RVa
 simp only [SS]
 exact ⟨h1,h2⟩
theorem rvars_ok (l : List Tm) (hl : l.length <= 281474976710656) (hw : Tm.wfL 281474976710656 l) (hv : (Tm.vsL l).length <= 1000000000) : FnOK Tryz.prog 48 [.slice (Tm.cellsL l) []] (.own 1 9 (strC (sortD (Tm.vsL l)))) := by
 have h := rVars_ok (.mk 0 0 [] l) (by simp only [Tm.wf]; exact ⟨by omega,by omega,by omega,by simp,hl,hw⟩) (by simpa [Tm.vs,Tm.v1] using hv)
 have e : Tm.W (.mk 0 0 [] l) = sortD (Tm.vsL l) := by simp [Tm.W,Tm.vs,Tm.v1]
 rw [e] at h
 refine FnOK.tree hdraw fp48 (dCtr_ok qnone_ok) (RVr_eq (Tm.cellsL l) (strC (sortD (Tm.vsL l)))) ?_
 unfold RVr
 simp only [SS]
 exact h
theorem rhas_ok (l : List Nm) (s : Nm) (hl : l.length <= 281474976710656) : FnOK Tryz.prog 62 [.slice (strC l) [],.str s] (.bool (decide (s ∈ l))) := by
 have at_ : ∀ (m i : Nat),l.length - i = m -> i <= l.length -> At Tryz.prog 0 (cut sc62 0) (hdHas (strC l) s i) (FinQ true 0 rs62 fun r _ => r = .bool (decide (s ∈ l.drop i))) := by
  intro m
  induction m with
  | zero =>
   intro i hm hi
   refine At.tree (dCtr_ok qnone_ok) (RHa2_eq (strC l) s i []) ?_
   unfold RHa2
   rw [List.drop_eq_nil_of_le (by omega),ok_br,strC_len]
   refine ⟨fun h => ?_,fun _ => ?_⟩
   ·have := of_decide_eq_true h; omega
   ·rw [ok_ret]; simp
  | succ m ih =>
   intro i hm hi
   have h1 : i < l.length := by omega
   have hI := ih (i + 1) (by omega) (by omega)
   refine At.tree (dCtr_ok qnone_ok) (RHa2_eq (strC l) s i l[i]) ?_
   unfold RHa2
   rw [drop_cons h1,ok_br,strC_len]
   refine ⟨fun _ => ?_,fun h => ?_⟩
   ·rw [ok_owe,ok_br,ok_ret,ok_owe,ok_jmp,Int.toNat_natCast]
    refine ⟨⟨by omega,strC_gt h1⟩,fun h => ?_,fun h => ⟨by omega, ?_⟩⟩
    ·have h := of_decide_eq_true h
     rw [decide_eq_true (by rw [h]; exact List.mem_cons_self ..)]
    ·have h := of_decide_eq_false h
     have e : decide (s ∈ l[i] :: l.drop (i + 1)) = decide (s ∈ l.drop (i + 1)) := by
      rw [Bool.eq_iff_iff,decide_eq_true_eq,decide_eq_true_eq,List.mem_cons]
      exact ⟨fun h2 => h2.resolve_left fun e => h e.symm,.inr⟩
     rw [e]
     exact hI
   ·have := of_decide_eq_false h; omega
 refine FnOK.tree hdraw fp62 (dCtr_ok qnone_ok) (RHa_eq (strC l) s) ?_
 unfold RHa
 rw [ok_jmp]
 have := at_ _ 0 rfl (Nat.zero_le _)
 rw [List.drop_zero] at this
 exact this
theorem sd_at (l : List Nm) (hl : l.length <= 1000000000) (hx : ∀ x ∈ l,x.length <= 281474976710656) : ∀ (m i : Nat),l.length - i = m -> i <= l.length →
  At Tryz.prog 0 (cut sc50 0) ⟨[(0,.slice (strC l) []),(3,.ptr 0 0),(4,.int .i64 i)],[(0,.cells [.int .u8 0,.int .i64 0,.str [],.vec 1]),(1,.arr true 4 32 (Tm.cellsL ((l.take i).map varT)))]⟩ (FinQ true 0 rs50 fun r _ => r = .own 1 9 (strC (sortD l))) := by
 have hwf : Tm.wfL 281474976710656 (l.map varT) := wfL_all.2 fun t ht => by
  obtain ⟨n,hn,rfl⟩ := List.mem_map.1 ht
  have := hx n hn
  simp only [varT,Tm.wf,Tm.wfL]
  simp
  omega
 intro m
 induction m with
 | zero =>
  intro i hm hi
  have h := rVars_ok (.mk 0 0 [] (l.map varT)) (by simp only [Tm.wf]; exact ⟨by omega,by omega,by omega,by simp,by rw [List.length_map]; omega,hwf⟩) (by simpa [Tm.vs,Tm.v1,vsL_vars] using hl)
  have e : Tm.W (.mk 0 0 [] (l.map varT)) = sortD l := by simp [Tm.W,Tm.vs,Tm.v1,vsL_vars]
  rw [e] at h
  refine At.tree (dCtr_ok qnone_ok) (RSdA_eq (strC l) (Tm.cellsL ((l.take i).map varT)) (strC (sortD l)) i []) ?_
  unfold RSdA
  rw [List.take_of_length_le (by omega : l.length <= i)]
  simp only [SS,strC_len]
  exact ⟨fun h => by omega,fun _ => h⟩
 | succ m ih =>
  intro i hm hi
  have h1 : i < l.length := by omega
  have hI := ih (i + 1) (by omega) (by omega)
  have e : Tm.cellsL ((l.take (i + 1)).map varT) = Tm.cellsL ((l.take i).map varT) ++ [[.int .u8 3,.int .i64 0,.str l[i],.slice [] []]] := by
   rw [List.take_add_one,List.getElem?_eq_getElem h1,List.map_append,cellsL_app]
   rfl
  rw [e] at hI
  have hz : (Tm.cellsL ((l.take i).map varT)).length <= 1000000000 := by rw [cellsL_length,List.length_map,List.length_take]; omega
  generalize Tm.cellsL ((l.take i).map varT) = R at hI hz ⊢
  refine At.tree (dCtr_ok qnone_ok) (RSdA_eq (strC l) R [] i l[i]) ?_
  unfold RSdA
  simp only [SS,strC_len]
  refine ⟨fun _ => ⟨⟨by omega,strC_gt h1⟩,⟨?_,by omega⟩,by omega,hI⟩,fun h => by omega⟩
  intro q hq
  rw [List.mem_singleton] at hq
  subst hq
  rfl
theorem rsd_ok (l : List Nm) (hl : l.length <= 1000000000) (hx : ∀ x ∈ l,x.length <= 281474976710656) : FnOK Tryz.prog 50 [.slice (strC l) []] (.own 1 9 (strC (sortD l))) := by
 have hA := sd_at l hl hx _ 1 rfl
 refine FnOK.tree hdraw fp50 (dCtr_ok qnone_ok) (RSd_eq (strC l)) ?_
 unfold RSd
 rw [ok_jmp]
 cases l with
 | nil =>
  have h := rVars_ok (.mk 0 0 [] []) (by simp [Tm.wf,Tm.wfL]) (by simp [Tm.vs,Tm.v1,Tm.vsL])
  have e : Tm.W (.mk 0 0 [] []) = sortD [] := by simp [Tm.W,Tm.vs,Tm.v1,Tm.vsL]
  rw [e] at h
  refine At.tree (dCtr_ok qnone_ok) (RSdN_eq (strC []) (strC (sortD [])) 0 []) ?_
  unfold RSdN
  simp only [SS,strC_len]
  exact ⟨fun h => by simp at h,fun _ => h⟩
 | cons a r =>
  have hA := hA (by simp)
  refine At.tree (dCtr_ok qnone_ok) (RSdN_eq (strC (a :: r)) [] 0 a) ?_
  unfold RSdN
  simp only [SS,strC_len]
  refine ⟨fun _ => ?_,fun h => absurd (by simp) h⟩
  refine ⟨strC_gt (l := a :: r) (i := 0) (by simp),⟨?_,by omega⟩,by omega,hA⟩
  intro q hq
  rw [List.mem_singleton] at hq
  subst hq
  rfl
end Go.Proofs.YtiafmjolbacdaaaGreat

/- The reference model: all,outer,binds,missing,Bound: trees. -/
namespace Go.Proofs.YtiafmjolbacdaaaGreat
open Go.Sx Go.RowKit
noncomputable def RAl (es : List (List D)) : Tr := Tr.jmp (cut sc49 0) { tm := [(0,D.slice es []),(3,D.vec 0),(4,D.int .i64 (0 : Int))],ob := [(0,Ob.arr true 1 9 [])] }
theorem RAl_eq (es : List (List D)) : goT Tryz.prog (dCtr []) 0 (finF true 0 rs49) 2000 [Fr.sc sc49] { tm := envOf 0 [D.slice es []],ob := [] } = RAl es := by kernel_rfl
def hdAl (es rw : List (List D)) (i : Int) : St := ⟨[(0,.slice es []),(3,.vec 0),(4,.int .i64 i)],[(0,.arr true 1 9 rw)]⟩
noncomputable def RAl2 (es rw v1 v2 : List (List D)) (i k : Int) (no : Bool) (p : List UInt8) (a : List (List D)) (op kx nx : Int) (sx : List UInt8) (ax : List (List D)) (ky ny : Int) (sy : List UInt8) (ay : List (List D)) : Tr := brT (decide (i < (↑(List.length es) : Int))) (Tr.owe ((0 : Int) <= i /\ es[Int.toNat i]? = some [D.int .u8 k,D.bool no,D.str p,D.slice a [],D.int .u8 op,D.int .u8 kx,D.int .i64 nx,D.str sx,D.slice ax [],D.int .u8 ky,D.int .i64 ny,D.str sy,D.slice ay []]) (Tr.owe (FnOK Tryz.prog 48 [D.slice a []] (D.slice v1 [])) (Tr.owe (allLen 1 v1 /\ List.length rw + List.length v1 <= 1073741824) (Tr.owe ((0 : Int) <= i /\ es[Int.toNat i]? = some [D.int .u8 k,D.bool no,D.str p,D.slice a [],D.int .u8 op,D.int .u8 kx,D.int .i64 nx,D.str sx,D.slice ax [],D.int .u8 ky,D.int .i64 ny,D.str sy,D.slice ay []]) (Tr.owe ((0 : Int) <= i /\ es[Int.toNat i]? = some [D.int .u8 k,D.bool no,D.str p,D.slice a [],D.int .u8 op,D.int .u8 kx,D.int .i64 nx,D.str sx,D.slice ax [],D.int .u8 ky,D.int .i64 ny,D.str sy,D.slice ay []]) (Tr.owe (FnOK Tryz.prog 48 [D.slice [(tC kx nx sx ax),(tC ky ny sy ay)] []] (D.slice v2 [])) (Tr.owe (allLen 1 v2 /\ List.length (rw ++ v1) + List.length v2 <= 1073741824) (Tr.owe ((-9223372036854775808 : Int) <= i + (1 : Int) /\ i + (1 : Int) <= (9223372036854775807 : Int)) (Tr.jmp (cut sc49 0) { tm := [(0,D.slice es []),(3,D.vec 0),(4,D.int .i64 (i + (1 : Int)))],ob := [(0,Ob.arr true 1 9 (rw ++ v1 ++ v2))] }))))))))) (Tr.ret (D.own 1 9 rw) [])
theorem RAl2_eq (es rw v1 v2 : List (List D)) (i k : Int) (no : Bool) (p : List UInt8) (a : List (List D)) (op kx nx : Int) (sx : List UInt8) (ax : List (List D)) (ky ny : Int) (sy : List UInt8) (ay : List (List D)) : goT Tryz.prog (dCtr [(18,D.slice v1 []),(32,D.slice v2 [])] [(14,lC k no p a op kx nx sx ax ky ny sy ay),(23,lC k no p a op kx nx sx ax ky ny sy ay),(28,lC k no p a op kx nx sx ax ky ny sy ay)]) 0 (finF true 0 rs49) 2000 (cut sc49 0) (hdAl es rw i) = RAl2 es rw v1 v2 i k no p a op kx nx sx ax ky ny sy ay := by kernel_rfl
noncomputable def ROu (k n : Int) (s : List UInt8) (a : List (List D)) : Tr := brT (decide (k = (3 : Int))) (Tr.owe (allLen 1 [[D.str s]] /\ 1 <= 1073741824) (Tr.jmp (cut sc79 0) { tm := [(1,D.ptr 0 0),(3,D.vec 1),(4,D.int .i64 (0 : Int))],ob := [(0,Ob.cells (tC k n s a)),(1,Ob.arr true 1 9 [[D.str s]])] })) (Tr.jmp (cut sc79 0) { tm := [(1,D.ptr 0 0),(3,D.vec 1),(4,D.int .i64 (0 : Int))],ob := [(0,Ob.cells (tC k n s a)),(1,Ob.arr true 1 9 [])] })
theorem ROu_eq (k n : Int) (s : List UInt8) (a : List (List D)) : goT Tryz.prog (dCtr []) 0 (finF true 0 rs79) 2000 [Fr.sc sc79] { tm := envOf 0 [D.agg (tC k n s a)],ob := [] } = ROu k n s a := by kernel_rfl
noncomputable def ROu2 (k n : Int) (s : List UInt8) (a rw w : List (List D)) (i kx nx : Int) (sx : List UInt8) (ax : List (List D)) : Tr := brT (decide (i < (↑(List.length a) : Int))) (brT (!decide (k = (5 : Int))) (brT (!decide (k = (6 : Int))) (Tr.owe ((0 : Int) <= i /\ a[Int.toNat i]? = some (tC kx nx sx ax)) (Tr.owe (FnOK Tryz.prog 79 [D.agg (tC kx nx sx ax)] (D.slice w [])) (Tr.owe (allLen 1 w /\ List.length rw + List.length w <= 1073741824) (Tr.owe ((-9223372036854775808 : Int) <= i + (1 : Int) /\ i + (1 : Int) <= (9223372036854775807 : Int)) (Tr.jmp (cut sc79 0) { tm := [(1,D.ptr 0 0),(3,D.vec 1),(4,D.int .i64 (i + (1 : Int)))],ob := [(0,Ob.cells (tC k n s a)),(1,Ob.arr true 1 9 (rw ++ w))] }))))) (Tr.ret (D.own 1 9 rw) [])) (Tr.ret (D.own 1 9 rw) [])) (Tr.ret (D.own 1 9 rw) [])
theorem ROu2_eq (k n : Int) (s : List UInt8) (a rw w : List (List D)) (i kx nx : Int) (sx : List UInt8) (ax : List (List D)) : goT Tryz.prog (dCtr [(36,D.slice w [])] [(34,tC kx nx sx ax)]) 0 (finF true 0 rs79) 2000 (cut sc79 0) (hdN k n s a rw i) = ROu2 k n s a rw w i kx nx sx ax := by kernel_rfl
noncomputable def RBi (k : Int) (no : Bool) (p : List UInt8) (a : List (List D)) (op kx nx : Int) (sx : List UInt8) (ax : List (List D)) (ky ny : Int) (sy : List UInt8) (ay bs : List (List D)) : Tr := brT no (Tr.ret (D.own 1 9 []) []) (brT (decide (k = (1 : Int))) (Tr.jmp (cut sc63 0) { tm := [(1,D.slice bs []),(2,D.ptr 0 0),(5,D.vec 1),(6,D.int .i64 (0 : Int))],ob := [(0,Ob.cells [D.int .u8 k,D.bool no,D.str p,D.slice a [],D.int .u8 op,D.int .u8 kx,D.int .i64 nx,D.str sx,D.slice ax [],D.int .u8 ky,D.int .i64 ny,D.str sy,D.slice ay []]),(1,Ob.arr true 1 9 [])] }) (brT (decide (k = (2 : Int))) (brT (decide (op = (1 : Int))) (Tr.jmp (cut sc63 1) { tm := [(1,D.slice bs []),(5,D.vec 0),(7,D.vec 1),(8,D.int .i64 (0 : Int))],ob := [(0,Ob.arr true 1 9 []),(1,Ob.arr true 4 32 [(tC kx nx sx ax),(tC ky ny sy ay)])] }) (Tr.ret (D.own 1 9 []) [])) (Tr.ret (D.own 1 9 []) [])))
theorem RBi_eq (k : Int) (no : Bool) (p : List UInt8) (a : List (List D)) (op kx nx : Int) (sx : List UInt8) (ax : List (List D)) (ky ny : Int) (sy : List UInt8) (ay bs : List (List D)) : goT Tryz.prog (dCtr []) 0 (finF true 0 rs63) 2000 [Fr.sc sc63] { tm := envOf 0 [D.agg (lC k no p a op kx nx sx ax ky ny sy ay),D.slice bs []],ob := [] } = RBi k no p a op kx nx sx ax ky ny sy ay bs := by kernel_rfl
def hdBi (l : List D) (bs rw : List (List D)) (i : Int) : St := ⟨[(1,.slice bs []),(2,.ptr 0 0),(5,.vec 1),(6,.int .i64 i)],[(0,.cells l),(1,.arr true 1 9 rw)]⟩
noncomputable def RBi0 (k : Int) (no : Bool) (p : List UInt8) (a : List (List D)) (op kx nx : Int) (sx : List UInt8) (ax : List (List D)) (ky ny : Int) (sy : List UInt8) (ay bs rw w : List (List D)) (i ke ne : Int) (se : List UInt8) (ae : List (List D)) : Tr := brT (decide (i < (↑(List.length a) : Int))) (Tr.owe ((0 : Int) <= i /\ a[Int.toNat i]? = some (tC ke ne se ae)) (Tr.owe (FnOK Tryz.prog 79 [D.agg (tC ke ne se ae)] (D.slice w [])) (Tr.owe (allLen 1 w /\ List.length rw + List.length w <= 1073741824) (Tr.owe ((-9223372036854775808 : Int) <= i + (1 : Int) /\ i + (1 : Int) <= (9223372036854775807 : Int)) (Tr.jmp (cut sc63 0) { tm := [(1,D.slice bs []),(2,D.ptr 0 0),(5,D.vec 1),(6,D.int .i64 (i + (1 : Int)))],ob := [(0,Ob.cells [D.int .u8 k,D.bool no,D.str p,D.slice a [],D.int .u8 op,D.int .u8 kx,D.int .i64 nx,D.str sx,D.slice ax [],D.int .u8 ky,D.int .i64 ny,D.str sy,D.slice ay []]),(1,Ob.arr true 1 9 (rw ++ w))] }))))) (brT (decide (k = (2 : Int))) (brT (decide (op = (1 : Int))) (Tr.jmp (cut sc63 1) { tm := [(1,D.slice bs []),(5,D.vec 0),(7,D.vec 1),(8,D.int .i64 (0 : Int))],ob := [(0,Ob.arr true 1 9 rw),(1,Ob.arr true 4 32 [(tC kx nx sx ax),(tC ky ny sy ay)])] }) (Tr.ret (D.own 1 9 rw) [])) (Tr.ret (D.own 1 9 rw) []))
theorem RBi0_eq (k : Int) (no : Bool) (p : List UInt8) (a : List (List D)) (op kx nx : Int) (sx : List UInt8) (ax : List (List D)) (ky ny : Int) (sy : List UInt8) (ay bs rw w : List (List D)) (i ke ne : Int) (se : List UInt8) (ae : List (List D)) : goT Tryz.prog (dCtr [(32,D.slice w [])] [(30,tC ke ne se ae)]) 0 (finF true 0 rs63) 2000 (cut sc63 0) (hdBi (lC k no p a op kx nx sx ax ky ny sy ay) bs rw i) = RBi0 k no p a op kx nx sx ax ky ny sy ay bs rw w i ke ne se ae := by kernel_rfl
def hdBj (bs rw : List (List D)) (x y : List D) (j : Int) : St := ⟨[(1,.slice bs []),(5,.vec 0),(7,.vec 1),(8,.int .i64 j)],[(0,.arr true 1 9 rw),(1,.arr true 4 32 [x,y])]⟩
noncomputable def RBi1A (bs rw v : List (List D)) (kx nx : Int) (sx : List UInt8) (ax : List (List D)) (ky ny : Int) (sy : List UInt8) (ay : List (List D)) : Tr := Tr.owe ((0 : Int) <= (0 : Int) /\ (0 : Int) < (↑(2 : Nat) : Int) /\ 4 = 4) (Tr.owe ((-9223372036854775808 : Int) <= (1 : Int) /\ (1 : Int) <= (9223372036854775807 : Int)) (Tr.owe ((0 : Int) <= (1 : Int) /\ (1 : Int) < (↑(2 : Nat) : Int) /\ 4 = 4) (Tr.owe (FnOK Tryz.prog 64 [D.agg (tC ky ny sy ay)] (D.slice v [])) (Tr.jmp (cut sc63 2) { tm := [(1,D.slice bs []),(5,D.vec 0),(7,D.vec 1),(8,D.int .i64 (0 : Int)),(9,D.bool (decide (kx = (3 : Int)))),(10,D.slice v []),(11,D.int .i64 (0 : Int))],ob := [(0,Ob.arr true 1 9 rw),(1,Ob.arr true 4 32 [(tC kx nx sx ax),(tC ky ny sy ay)])] }))))
theorem RBi1A_eq (bs rw v : List (List D)) (kx nx : Int) (sx : List UInt8) (ax : List (List D)) (ky ny : Int) (sy : List UInt8) (ay : List (List D)) : goT Tryz.prog (dCtr [(62,D.slice v [])]) 0 (finF true 0 rs63) 2000 (cut sc63 1) (hdBj bs rw (tC kx nx sx ax) (tC ky ny sy ay) (0 : Int)) = RBi1A bs rw v kx nx sx ax ky ny sy ay := by kernel_rfl
noncomputable def RBi1B (bs rw v : List (List D)) (kx nx : Int) (sx : List UInt8) (ax : List (List D)) (ky ny : Int) (sy : List UInt8) (ay : List (List D)) : Tr := Tr.owe ((0 : Int) <= (1 : Int) /\ (1 : Int) < (↑(2 : Nat) : Int) /\ 4 = 4) (Tr.owe ((-9223372036854775808 : Int) <= (0 : Int) /\ (0 : Int) <= (9223372036854775807 : Int)) (Tr.owe ((0 : Int) <= (0 : Int) /\ (0 : Int) < (↑(2 : Nat) : Int) /\ 4 = 4) (Tr.owe (FnOK Tryz.prog 64 [D.agg (tC kx nx sx ax)] (D.slice v [])) (Tr.jmp (cut sc63 2) { tm := [(1,D.slice bs []),(5,D.vec 0),(7,D.vec 1),(8,D.int .i64 (1 : Int)),(9,D.bool (decide (ky = (3 : Int)))),(10,D.slice v []),(11,D.int .i64 (0 : Int))],ob := [(0,Ob.arr true 1 9 rw),(1,Ob.arr true 4 32 [(tC kx nx sx ax),(tC ky ny sy ay)])] }))))
theorem RBi1B_eq (bs rw v : List (List D)) (kx nx : Int) (sx : List UInt8) (ax : List (List D)) (ky ny : Int) (sy : List UInt8) (ay : List (List D)) : goT Tryz.prog (dCtr [(62,D.slice v [])]) 0 (finF true 0 rs63) 2000 (cut sc63 1) (hdBj bs rw (tC kx nx sx ax) (tC ky ny sy ay) (1 : Int)) = RBi1B bs rw v kx nx sx ax ky ny sy ay := by kernel_rfl
noncomputable def RBi1C (bs rw : List (List D)) (kx nx : Int) (sx : List UInt8) (ax : List (List D)) (ky ny : Int) (sy : List UInt8) (ay : List (List D)) : Tr := Tr.ret (D.own 1 9 rw) []
theorem RBi1C_eq (bs rw : List (List D)) (kx nx : Int) (sx : List UInt8) (ax : List (List D)) (ky ny : Int) (sy : List UInt8) (ay : List (List D)) : goT Tryz.prog (dCtr []) 0 (finF true 0 rs63) 2000 (cut sc63 1) (hdBj bs rw (tC kx nx sx ax) (tC ky ny sy ay) (2 : Int)) = RBi1C bs rw kx nx sx ax ky ny sy ay := by kernel_rfl
def hdBk (bs rw : List (List D)) (x y : List D) (j : Int) (kn : Bool) (v : List (List D)) (i : Int) : St := ⟨[(1,.slice bs []),(5,.vec 0),(7,.vec 1),(8,.int .i64 j),(9,.bool kn),(10,.slice v []),(11,.int .i64 i)],[(0,.arr true 1 9 rw),(1,.arr true 4 32 [x,y])]⟩
noncomputable def RBi2A (bs rw v : List (List D)) (kn : Bool) (i kx nx : Int) (sx : List UInt8) (ax : List (List D)) (ky ny : Int) (sy : List UInt8) (ay : List (List D)) (s : List UInt8) (h : Bool) : Tr := brT (decide (i < (↑(List.length v) : Int))) (brT kn (Tr.owe ((0 : Int) <= i /\ v[Int.toNat i]? = some [D.str s]) (Tr.owe (FnOK Tryz.prog 62 [D.slice bs [],D.str s] (D.bool h)) (Tr.owe ((-9223372036854775808 : Int) <= i + (1 : Int) /\ i + (1 : Int) <= (9223372036854775807 : Int)) (Tr.jmp (cut sc63 2) { tm := [(1,D.slice bs []),(5,D.vec 0),(7,D.vec 1),(8,D.int .i64 (0 : Int)),(9,D.bool h),(10,D.slice v []),(11,D.int .i64 (i + (1 : Int)))],ob := [(0,Ob.arr true 1 9 rw),(1,Ob.arr true 4 32 [(tC kx nx sx ax),(tC ky ny sy ay)])] })))) (Tr.owe ((-9223372036854775808 : Int) <= i + (1 : Int) /\ i + (1 : Int) <= (9223372036854775807 : Int)) (Tr.jmp (cut sc63 2) { tm := [(1,D.slice bs []),(5,D.vec 0),(7,D.vec 1),(8,D.int .i64 (0 : Int)),(9,D.bool false),(10,D.slice v []),(11,D.int .i64 (i + (1 : Int)))],ob := [(0,Ob.arr true 1 9 rw),(1,Ob.arr true 4 32 [(tC kx nx sx ax),(tC ky ny sy ay)])] }))) (brT kn (Tr.owe ((0 : Int) <= (0 : Int) /\ (0 : Int) < (↑(2 : Nat) : Int) /\ 4 = 4) (Tr.owe (allLen 1 [[D.str sx]] /\ List.length rw + 1 <= 1073741824) (Tr.owe ((-9223372036854775808 : Int) <= (1 : Int) /\ (1 : Int) <= (9223372036854775807 : Int)) (Tr.jmp (cut sc63 1) { tm := [(1,D.slice bs []),(5,D.vec 0),(7,D.vec 1),(8,D.int .i64 (1 : Int))],ob := [(0,Ob.arr true 1 9 (rw ++ [[D.str sx]])),(1,Ob.arr true 4 32 [(tC kx nx sx ax),(tC ky ny sy ay)])] })))) (Tr.owe ((-9223372036854775808 : Int) <= (1 : Int) /\ (1 : Int) <= (9223372036854775807 : Int)) (Tr.jmp (cut sc63 1) { tm := [(1,D.slice bs []),(5,D.vec 0),(7,D.vec 1),(8,D.int .i64 (1 : Int))],ob := [(0,Ob.arr true 1 9 rw),(1,Ob.arr true 4 32 [(tC kx nx sx ax),(tC ky ny sy ay)])] })))
theorem RBi2A_eq (bs rw v : List (List D)) (kn : Bool) (i kx nx : Int) (sx : List UInt8) (ax : List (List D)) (ky ny : Int) (sy : List UInt8) (ay : List (List D)) (s : List UInt8) (h : Bool) : goT Tryz.prog (dCtr [(76,D.bool h)] [(74,[D.str s])]) 0 (finF true 0 rs63) 2000 (cut sc63 2) (hdBk bs rw (tC kx nx sx ax) (tC ky ny sy ay) (0 : Int) kn v i) = RBi2A bs rw v kn i kx nx sx ax ky ny sy ay s h := by kernel_rfl
noncomputable def RBi2B (bs rw v : List (List D)) (kn : Bool) (i kx nx : Int) (sx : List UInt8) (ax : List (List D)) (ky ny : Int) (sy : List UInt8) (ay : List (List D)) (s : List UInt8) (h : Bool) : Tr := brT (decide (i < (↑(List.length v) : Int))) (brT kn (Tr.owe ((0 : Int) <= i /\ v[Int.toNat i]? = some [D.str s]) (Tr.owe (FnOK Tryz.prog 62 [D.slice bs [],D.str s] (D.bool h)) (Tr.owe ((-9223372036854775808 : Int) <= i + (1 : Int) /\ i + (1 : Int) <= (9223372036854775807 : Int)) (Tr.jmp (cut sc63 2) { tm := [(1,D.slice bs []),(5,D.vec 0),(7,D.vec 1),(8,D.int .i64 (1 : Int)),(9,D.bool h),(10,D.slice v []),(11,D.int .i64 (i + (1 : Int)))],ob := [(0,Ob.arr true 1 9 rw),(1,Ob.arr true 4 32 [(tC kx nx sx ax),(tC ky ny sy ay)])] })))) (Tr.owe ((-9223372036854775808 : Int) <= i + (1 : Int) /\ i + (1 : Int) <= (9223372036854775807 : Int)) (Tr.jmp (cut sc63 2) { tm := [(1,D.slice bs []),(5,D.vec 0),(7,D.vec 1),(8,D.int .i64 (1 : Int)),(9,D.bool false),(10,D.slice v []),(11,D.int .i64 (i + (1 : Int)))],ob := [(0,Ob.arr true 1 9 rw),(1,Ob.arr true 4 32 [(tC kx nx sx ax),(tC ky ny sy ay)])] }))) (brT kn (Tr.owe ((0 : Int) <= (1 : Int) /\ (1 : Int) < (↑(2 : Nat) : Int) /\ 4 = 4) (Tr.owe (allLen 1 [[D.str sy]] /\ List.length rw + 1 <= 1073741824) (Tr.owe ((-9223372036854775808 : Int) <= (2 : Int) /\ (2 : Int) <= (9223372036854775807 : Int)) (Tr.jmp (cut sc63 1) { tm := [(1,D.slice bs []),(5,D.vec 0),(7,D.vec 1),(8,D.int .i64 (2 : Int))],ob := [(0,Ob.arr true 1 9 (rw ++ [[D.str sy]])),(1,Ob.arr true 4 32 [(tC kx nx sx ax),(tC ky ny sy ay)])] })))) (Tr.owe ((-9223372036854775808 : Int) <= (2 : Int) /\ (2 : Int) <= (9223372036854775807 : Int)) (Tr.jmp (cut sc63 1) { tm := [(1,D.slice bs []),(5,D.vec 0),(7,D.vec 1),(8,D.int .i64 (2 : Int))],ob := [(0,Ob.arr true 1 9 rw),(1,Ob.arr true 4 32 [(tC kx nx sx ax),(tC ky ny sy ay)])] })))
theorem RBi2B_eq (bs rw v : List (List D)) (kn : Bool) (i kx nx : Int) (sx : List UInt8) (ax : List (List D)) (ky ny : Int) (sy : List UInt8) (ay : List (List D)) (s : List UInt8) (h : Bool) : goT Tryz.prog (dCtr [(76,D.bool h)] [(74,[D.str s])]) 0 (finF true 0 rs63) 2000 (cut sc63 2) (hdBk bs rw (tC kx nx sx ax) (tC ky ny sy ay) (1 : Int) kn v i) = RBi2B bs rw v kn i kx nx sx ax ky ny sy ay s h := by kernel_rfl
noncomputable def RMi (l a b : List (List D)) : Tr := Tr.jmp (cut sc46 0) { tm := [(0,D.slice l []),(1,D.slice a []),(2,D.slice b []),(7,D.vec 0),(8,D.int .i64 (0 : Int))],ob := [(0,Ob.arr true 1 9 [])] }
theorem RMi_eq (l a b : List (List D)) : goT Tryz.prog (dCtr []) 0 (finF true 0 rs46) 2000 [Fr.sc sc46] { tm := envOf 0 [D.slice l [],D.slice a [],D.slice b []],ob := [] } = RMi l a b := by kernel_rfl
def hdMi (l a b rw : List (List D)) (i : Int) : St := ⟨[(0,.slice l []),(1,.slice a []),(2,.slice b []),(7,.vec 0),(8,.int .i64 i)],[(0,.arr true 1 9 rw)]⟩
noncomputable def RMi2 (l a b rw : List (List D)) (i : Int) (s : List UInt8) (h1 h2 : Bool) : Tr := brT (decide (i < (↑(List.length l) : Int))) (Tr.owe ((0 : Int) <= i /\ l[Int.toNat i]? = some [D.str s]) (Tr.owe (FnOK Tryz.prog 62 [D.slice a [],D.str s] (D.bool h1)) (brT (!h1) (Tr.owe ((0 : Int) <= i /\ l[Int.toNat i]? = some [D.str s]) (Tr.owe (FnOK Tryz.prog 62 [D.slice b [],D.str s] (D.bool h2)) (brT (!h2) (Tr.owe ((0 : Int) <= i /\ l[Int.toNat i]? = some [D.str s]) (Tr.owe (allLen 1 [[D.str s]] /\ List.length rw + 1 <= 1073741824) (Tr.owe ((-9223372036854775808 : Int) <= i + (1 : Int) /\ i + (1 : Int) <= (9223372036854775807 : Int)) (Tr.jmp (cut sc46 0) { tm := [(0,D.slice l []),(1,D.slice a []),(2,D.slice b []),(7,D.vec 0),(8,D.int .i64 (i + (1 : Int)))],ob := [(0,Ob.arr true 1 9 (rw ++ [[D.str s]]))] })))) (Tr.owe ((-9223372036854775808 : Int) <= i + (1 : Int) /\ i + (1 : Int) <= (9223372036854775807 : Int)) (Tr.jmp (cut sc46 0) { tm := [(0,D.slice l []),(1,D.slice a []),(2,D.slice b []),(7,D.vec 0),(8,D.int .i64 (i + (1 : Int)))],ob := [(0,Ob.arr true 1 9 rw)] }))))) (Tr.owe ((-9223372036854775808 : Int) <= i + (1 : Int) /\ i + (1 : Int) <= (9223372036854775807 : Int)) (Tr.jmp (cut sc46 0) { tm := [(0,D.slice l []),(1,D.slice a []),(2,D.slice b []),(7,D.vec 0),(8,D.int .i64 (i + (1 : Int)))],ob := [(0,Ob.arr true 1 9 rw)] }))))) (Tr.ret (D.own 1 9 rw) [])
theorem RMi2_eq (l a b rw : List (List D)) (i : Int) (s : List UInt8) (h1 h2 : Bool) : goT Tryz.prog (dCtr [(20,D.bool h1),(28,D.bool h2)] [(18,[D.str s]),(26,[D.str s]),(34,[D.str s])]) 0 (finF true 0 rs46) 2000 (cut sc46 0) (hdMi l a b rw i) = RMi2 l a b rw i s h1 h2 := by kernel_rfl
noncomputable def RBo (l g z : List (List D)) : Tr := Tr.owe (FnOK Tryz.prog 50 [D.slice g []] (D.own 1 9 z)) (Tr.jmp (cut sc47 0) { tm := [(0,D.slice l []),(5,D.vec 0)],ob := [(0,Ob.arr true 1 9 z)] })
theorem RBo_eq (l g z : List (List D)) : goT Tryz.prog (dCtr [(9,D.own 1 9 z)]) 0 (finF true 0 rs47) 2000 [Fr.sc sc47] { tm := envOf 0 [D.slice l [],D.slice g []],ob := [] } = RBo l g z := by kernel_rfl
noncomputable def RBo1 (l rw : List (List D)) : Tr := Tr.jmp (cut sc47 1) { tm := [(0,D.slice l []),(5,D.vec 0),(6,D.int .i64 (↑(List.length rw) : Int)),(7,D.int .i64 (0 : Int))],ob := [(0,Ob.arr true 1 9 rw)] }
theorem RBo1_eq (l rw : List (List D)) : goT Tryz.prog (dCtr []) 0 (finF true 0 rs47) 2000 (cut sc47 0) { tm := [(0,D.slice l []),(5,D.vec 0)],ob := [(0,Ob.arr true 1 9 rw)] } = RBo1 l rw := by kernel_rfl
def hdBo (l rw : List (List D)) (n i : Int) : St := ⟨[(0,.slice l []),(5,.vec 0),(6,.int .i64 n),(7,.int .i64 i)],[(0,.arr true 1 9 rw)]⟩
noncomputable def RBo2 (l rw w z : List (List D)) (n i k : Int) (no : Bool) (p : List UInt8) (a : List (List D)) (op kx nx : Int) (sx : List UInt8) (ax : List (List D)) (ky ny : Int) (sy : List UInt8) (ay : List (List D)) : Tr := brT (decide (i < (↑(List.length l) : Int))) (Tr.owe ((0 : Int) <= i /\ l[Int.toNat i]? = some [D.int .u8 k,D.bool no,D.str p,D.slice a [],D.int .u8 op,D.int .u8 kx,D.int .i64 nx,D.str sx,D.slice ax [],D.int .u8 ky,D.int .i64 ny,D.str sy,D.slice ay []]) (Tr.owe (FnOK Tryz.prog 63 [D.agg [D.int .u8 k,D.bool no,D.str p,D.slice a [],D.int .u8 op,D.int .u8 kx,D.int .i64 nx,D.str sx,D.slice ax [],D.int .u8 ky,D.int .i64 ny,D.str sy,D.slice ay []],D.slice rw []] (D.slice w [])) (Tr.owe (allLen 1 w /\ List.length rw + List.length w <= 1073741824) (Tr.owe ((-9223372036854775808 : Int) <= i + (1 : Int) /\ i + (1 : Int) <= (9223372036854775807 : Int)) (Tr.jmp (cut sc47 1) { tm := [(0,D.slice l []),(5,D.vec 0),(6,D.int .i64 n),(7,D.int .i64 (i + (1 : Int)))],ob := [(0,Ob.arr true 1 9 (rw ++ w))] }))))) (Tr.owe (FnOK Tryz.prog 50 [D.slice rw []] (D.own 1 9 z)) (brT (decide ((↑(List.length z) : Int) = n)) (Tr.ret (D.own 1 9 z) []) (Tr.jmp (cut sc47 0) { tm := [(0,D.slice l []),(5,D.vec 0)],ob := [(0,Ob.arr true 1 9 z)] })))
theorem RBo2_eq (l rw w z : List (List D)) (n i k : Int) (no : Bool) (p : List UInt8) (a : List (List D)) (op kx nx : Int) (sx : List UInt8) (ax : List (List D)) (ky ny : Int) (sy : List UInt8) (ay : List (List D)) : goT Tryz.prog (dCtr [(24,D.slice w []),(27,D.own 1 9 z)] [(21,lC k no p a op kx nx sx ax ky ny sy ay)]) 0 (finF true 0 rs47) 2000 (cut sc47 1) (hdBo l rw n i) = RBo2 l rw w z n i k no p a op kx nx sx ax ky ny sy ay := by kernel_rfl
end Go.Proofs.YtiafmjolbacdaaaGreat

/- The reference model: Global,Unsafe,Safe; SizeProg; SafetyPrograms: trees. -/
namespace Go.Proofs.YtiafmjolbacdaaaGreat
open Go.Sx Go.RowKit
noncomputable def RGl (k : Int) (hs bs ts : List (List D)) (a1 a2 : Int) (a3 : List UInt8) (a4 : List (List D)) (b1 b2 : Int) (b3 : List UInt8) (b4 : List (List D)) (c1 c2 : Int) (c3 : List UInt8) (c4 : List (List D)) (d1 d2 : Int) (d3 : List UInt8) (d4 z : List (List D)) : Tr := Tr.owe (allLen 4 ts /\ 4 + List.length ts <= 1073741824) (Tr.owe (FnOK Tryz.prog 48 [D.slice ((tC a1 a2 a3 a4) :: (tC b1 b2 b3 b4) :: (tC c1 c2 c3 c4) :: (tC d1 d2 d3 d4) :: ts) []] (D.own 1 9 z)) (Tr.jmp (cut sc45 0) { tm := [(1,D.ptr 0 0),(3,D.vec 1),(4,D.int .i64 (0 : Int))],ob := [(0,Ob.cells (rC k hs bs ts a1 a2 a3 a4 b1 b2 b3 b4 c1 c2 c3 c4 d1 d2 d3 d4)),(1,Ob.arr true 1 9 z)] }))
theorem RGl_eq (k : Int) (hs bs ts : List (List D)) (a1 a2 : Int) (a3 : List UInt8) (a4 : List (List D)) (b1 b2 : Int) (b3 : List UInt8) (b4 : List (List D)) (c1 c2 : Int) (c3 : List UInt8) (c4 : List (List D)) (d1 d2 : Int) (d3 : List UInt8) (d4 z : List (List D)) : goT Tryz.prog (dCtr [(18,D.own 1 9 z)]) 0 (finF true 0 rs45) 2000 [Fr.sc sc45] { tm := envOf 0 [D.agg (rC k hs bs ts a1 a2 a3 a4 b1 b2 b3 b4 c1 c2 c3 c4 d1 d2 d3 d4)],ob := [] } = RGl k hs bs ts a1 a2 a3 a4 b1 b2 b3 b4 c1 c2 c3 c4 d1 d2 d3 d4 z := by kernel_rfl
def hdGlM (R : List D) (rw : List (List D)) (t : Nat) (i : Int) : St := ⟨[(1,.ptr 0 0),(3,.vec 1),(t,.int .i64 i)],[(0,.cells R),(1,.arr true 1 9 rw)]⟩
noncomputable def RGl1 (k : Int) (hs bs ts : List (List D)) (a1 a2 : Int) (a3 : List UInt8) (a4 : List (List D)) (b1 b2 : Int) (b3 : List UInt8) (b4 : List (List D)) (c1 c2 : Int) (c3 : List UInt8) (c4 : List (List D)) (d1 d2 : Int) (d3 : List UInt8) (d4 rw z v1 v2 : List (List D)) (i : Int) (p : List UInt8) (ha hc : List (List D)) : Tr := brT (decide (i < (↑(List.length hs) : Int))) (brT (!decide (k = (2 : Int))) (Tr.owe ((0 : Int) <= i /\ hs[Int.toNat i]? = some [D.str p,D.slice ha [],D.slice hc []]) (Tr.owe (FnOK Tryz.prog 48 [D.slice ha []] (D.slice v1 [])) (Tr.owe (allLen 1 v1 /\ List.length rw + List.length v1 <= 1073741824) (Tr.owe ((0 : Int) <= i /\ hs[Int.toNat i]? = some [D.str p,D.slice ha [],D.slice hc []]) (Tr.owe (FnOK Tryz.prog 49 [D.slice hc []] (D.slice v2 [])) (Tr.owe (allLen 1 v2 /\ List.length (rw ++ v1) + List.length v2 <= 1073741824) (Tr.owe ((-9223372036854775808 : Int) <= i + (1 : Int) /\ i + (1 : Int) <= (9223372036854775807 : Int)) (Tr.jmp (cut sc45 0) { tm := [(1,D.ptr 0 0),(3,D.vec 1),(4,D.int .i64 (i + (1 : Int)))],ob := [(0,Ob.cells (rC k hs bs ts a1 a2 a3 a4 b1 b2 b3 b4 c1 c2 c3 c4 d1 d2 d3 d4)),(1,Ob.arr true 1 9 (rw ++ v1 ++ v2))] })))))))) (Tr.jmp (cut sc45 1) { tm := [(1,D.ptr 0 0),(3,D.vec 1),(5,D.int .i64 (0 : Int))],ob := [(0,Ob.cells (rC k hs bs ts a1 a2 a3 a4 b1 b2 b3 b4 c1 c2 c3 c4 d1 d2 d3 d4)),(1,Ob.arr true 1 9 rw)] })) (Tr.jmp (cut sc45 1) { tm := [(1,D.ptr 0 0),(3,D.vec 1),(5,D.int .i64 (0 : Int))],ob := [(0,Ob.cells (rC k hs bs ts a1 a2 a3 a4 b1 b2 b3 b4 c1 c2 c3 c4 d1 d2 d3 d4)),(1,Ob.arr true 1 9 rw)] })
theorem RGl1_eq (k : Int) (hs bs ts : List (List D)) (a1 a2 : Int) (a3 : List UInt8) (a4 : List (List D)) (b1 b2 : Int) (b3 : List UInt8) (b4 : List (List D)) (c1 c2 : Int) (c3 : List UInt8) (c4 : List (List D)) (d1 d2 : Int) (d3 : List UInt8) (d4 rw z v1 v2 : List (List D)) (i : Int) (p : List UInt8) (ha hc : List (List D)) : goT Tryz.prog (dCtr [(39,D.slice v1 []),(48,D.slice v2 [])] [(35,[D.str p,D.slice ha [],D.slice hc []]),(45,[D.str p,D.slice ha [],D.slice hc []])]) 0 (finF true 0 rs45) 2000 (cut sc45 0) (hdGlM (rC k hs bs ts a1 a2 a3 a4 b1 b2 b3 b4 c1 c2 c3 c4 d1 d2 d3 d4) rw 4 i) = RGl1 k hs bs ts a1 a2 a3 a4 b1 b2 b3 b4 c1 c2 c3 c4 d1 d2 d3 d4 rw z v1 v2 i p ha hc := by kernel_rfl
noncomputable def RGl2 (k : Int) (hs bs ts : List (List D)) (a1 a2 : Int) (a3 : List UInt8) (a4 : List (List D)) (b1 b2 : Int) (b3 : List UInt8) (b4 : List (List D)) (c1 c2 : Int) (c3 : List UInt8) (c4 : List (List D)) (d1 d2 : Int) (d3 : List UInt8) (d4 rw z v1 v2 : List (List D)) (i bk l1 : Int) (l2 : Bool) (l3 : List UInt8) (l4 : List (List D)) (l5 l6 l7 : Int) (l8 : List UInt8) (l9 : List (List D)) (l10 l11 : Int) (l12 : List UInt8) (l13 bcn : List (List D)) (bno : Bool) (bf : Int) (be : List (List D)) (bop t1 t2 : Int) (t3 : List UInt8) (t4 : List (List D)) : Tr := brT (decide (i < (↑(List.length bs) : Int))) (Tr.owe ((0 : Int) <= i /\ bs[Int.toNat i]? = some (bC bk l1 l2 l3 l4 l5 l6 l7 l8 l9 l10 l11 l12 l13 bcn bno bf be bop t1 t2 t3 t4)) (brT (decide (bk = (1 : Int))) (Tr.owe ((0 : Int) <= i /\ bs[Int.toNat i]? = some (bC bk l1 l2 l3 l4 l5 l6 l7 l8 l9 l10 l11 l12 l13 bcn bno bf be bop t1 t2 t3 t4)) (Tr.owe (FnOK Tryz.prog 49 [D.slice [[D.int .u8 l1,D.bool l2,D.str l3,D.slice l4 [],D.int .u8 l5,D.int .u8 l6,D.int .i64 l7,D.str l8,D.slice l9 [],D.int .u8 l10,D.int .i64 l11,D.str l12,D.slice l13 []]] []] (D.slice v1 [])) (Tr.owe (allLen 1 v1 /\ List.length rw + List.length v1 <= 1073741824) (Tr.owe ((-9223372036854775808 : Int) <= i + (1 : Int) /\ i + (1 : Int) <= (9223372036854775807 : Int)) (Tr.jmp (cut sc45 1) { tm := [(1,D.ptr 0 0),(3,D.vec 1),(5,D.int .i64 (i + (1 : Int)))],ob := [(0,Ob.cells (rC k hs bs ts a1 a2 a3 a4 b1 b2 b3 b4 c1 c2 c3 c4 d1 d2 d3 d4)),(1,Ob.arr true 1 9 (rw ++ v1))] }))))) (brT (decide (bk = (3 : Int))) (Tr.owe ((0 : Int) <= i /\ bs[Int.toNat i]? = some (bC bk l1 l2 l3 l4 l5 l6 l7 l8 l9 l10 l11 l12 l13 bcn bno bf be bop t1 t2 t3 t4)) (Tr.owe (FnOK Tryz.prog 48 [D.slice [(tC t1 t2 t3 t4)] []] (D.slice v2 [])) (Tr.owe (allLen 1 v2 /\ List.length rw + List.length v2 <= 1073741824) (Tr.owe ((-9223372036854775808 : Int) <= i + (1 : Int) /\ i + (1 : Int) <= (9223372036854775807 : Int)) (Tr.jmp (cut sc45 1) { tm := [(1,D.ptr 0 0),(3,D.vec 1),(5,D.int .i64 (i + (1 : Int)))],ob := [(0,Ob.cells (rC k hs bs ts a1 a2 a3 a4 b1 b2 b3 b4 c1 c2 c3 c4 d1 d2 d3 d4)),(1,Ob.arr true 1 9 (rw ++ v2))] }))))) (Tr.owe ((-9223372036854775808 : Int) <= i + (1 : Int) /\ i + (1 : Int) <= (9223372036854775807 : Int)) (Tr.jmp (cut sc45 1) { tm := [(1,D.ptr 0 0),(3,D.vec 1),(5,D.int .i64 (i + (1 : Int)))],ob := [(0,Ob.cells (rC k hs bs ts a1 a2 a3 a4 b1 b2 b3 b4 c1 c2 c3 c4 d1 d2 d3 d4)),(1,Ob.arr true 1 9 rw)] }))))) (Tr.owe (FnOK Tryz.prog 50 [D.slice rw []] (D.own 1 9 z)) (Tr.ret (D.own 1 9 z) []))
theorem RGl2_eq (k : Int) (hs bs ts : List (List D)) (a1 a2 : Int) (a3 : List UInt8) (a4 : List (List D)) (b1 b2 : Int) (b3 : List UInt8) (b4 : List (List D)) (c1 c2 : Int) (c3 : List UInt8) (c4 : List (List D)) (d1 d2 : Int) (d3 : List UInt8) (d4 rw z v1 v2 : List (List D)) (i bk l1 : Int) (l2 : Bool) (l3 : List UInt8) (l4 : List (List D)) (l5 l6 l7 : Int) (l8 : List UInt8) (l9 : List (List D)) (l10 l11 : Int) (l12 : List UInt8) (l13 bcn : List (List D)) (bno : Bool) (bf : Int) (be : List (List D)) (bop t1 t2 : Int) (t3 : List UInt8) (t4 : List (List D)) : goT Tryz.prog (dCtr [(73,D.slice v1 []),(85,D.slice v2 []),(88,D.own 1 9 z)] [(60,bC bk l1 l2 l3 l4 l5 l6 l7 l8 l9 l10 l11 l12 l13 bcn bno bf be bop t1 t2 t3 t4),(69,bC bk l1 l2 l3 l4 l5 l6 l7 l8 l9 l10 l11 l12 l13 bcn bno bf be bop t1 t2 t3 t4),(81,bC bk l1 l2 l3 l4 l5 l6 l7 l8 l9 l10 l11 l12 l13 bcn bno bf be bop t1 t2 t3 t4)]) 0 (finF true 0 rs45) 2000 (cut sc45 1) (hdGlM (rC k hs bs ts a1 a2 a3 a4 b1 b2 b3 b4 c1 c2 c3 c4 d1 d2 d3 d4) rw 5 i) = RGl2 k hs bs ts a1 a2 a3 a4 b1 b2 b3 b4 c1 c2 c3 c4 d1 d2 d3 d4 rw z v1 v2 i bk l1 l2 l3 l4 l5 l6 l7 l8 l9 l10 l11 l12 l13 bcn bno bf be bop t1 t2 t3 t4 := by kernel_rfl
noncomputable def RUn (k : Int) (hs bs ts : List (List D)) (a1 a2 : Int) (a3 : List UInt8) (a4 : List (List D)) (b1 b2 : Int) (b3 : List UInt8) (b4 : List (List D)) (c1 c2 : Int) (c3 : List UInt8) (c4 : List (List D)) (d1 d2 : Int) (d3 : List UInt8) (d4 g : List (List D)) : Tr := Tr.owe (FnOK Tryz.prog 45 [D.agg (rC k hs bs ts a1 a2 a3 a4 b1 b2 b3 b4 c1 c2 c3 c4 d1 d2 d3 d4)] (D.slice g [])) (Tr.jmp (cut sc33 0) { tm := [(1,D.ptr 0 0),(3,D.slice g []),(4,D.vec 1),(5,D.int .i64 (0 : Int))],ob := [(0,Ob.cells (rC k hs bs ts a1 a2 a3 a4 b1 b2 b3 b4 c1 c2 c3 c4 d1 d2 d3 d4)),(1,Ob.arr true 13 34 [])] })
theorem RUn_eq (k : Int) (hs bs ts : List (List D)) (a1 a2 : Int) (a3 : List UInt8) (a4 : List (List D)) (b1 b2 : Int) (b3 : List UInt8) (b4 : List (List D)) (c1 c2 : Int) (c3 : List UInt8) (c4 : List (List D)) (d1 d2 : Int) (d3 : List UInt8) (d4 g : List (List D)) : goT Tryz.prog (dCtr [(17,D.slice g [])]) 0 (finF true 0 rs33) 2000 [Fr.sc sc33] { tm := envOf 0 [D.agg (rC k hs bs ts a1 a2 a3 a4 b1 b2 b3 b4 c1 c2 c3 c4 d1 d2 d3 d4)],ob := [] } = RUn k hs bs ts a1 a2 a3 a4 b1 b2 b3 b4 c1 c2 c3 c4 d1 d2 d3 d4 g := by kernel_rfl
def hdU0 (R : List D) (g rw : List (List D)) (i : Int) : St := ⟨[(1,.ptr 0 0),(3,.slice g []),(4,.vec 1),(5,.int .i64 i)],[(0,.cells R),(1,.arr true 13 34 rw)]⟩
noncomputable def RUn0 (k : Int) (hs bs ts : List (List D)) (a1 a2 : Int) (a3 : List UInt8) (a4 : List (List D)) (b1 b2 : Int) (b3 : List UInt8) (b4 : List (List D)) (c1 c2 : Int) (c3 : List UInt8) (c4 : List (List D)) (d1 d2 : Int) (d3 : List UInt8) (d4 g rw b z : List (List D)) (i bk l1 : Int) (l2 : Bool) (l3 : List UInt8) (l4 : List (List D)) (l5 l6 l7 : Int) (l8 : List UInt8) (l9 : List (List D)) (l10 l11 : Int) (l12 : List UInt8) (l13 bcn : List (List D)) (bno : Bool) (bf : Int) (be : List (List D)) (bop t1 t2 : Int) (t3 : List UInt8) (t4 : List (List D)) : Tr := brT (decide (i < (↑(List.length bs) : Int))) (Tr.owe ((0 : Int) <= i /\ bs[Int.toNat i]? = some (bC bk l1 l2 l3 l4 l5 l6 l7 l8 l9 l10 l11 l12 l13 bcn bno bf be bop t1 t2 t3 t4)) (brT (decide (bk = (1 : Int))) (Tr.owe ((0 : Int) <= i /\ bs[Int.toNat i]? = some (bC bk l1 l2 l3 l4 l5 l6 l7 l8 l9 l10 l11 l12 l13 bcn bno bf be bop t1 t2 t3 t4)) (Tr.owe (allLen 13 [[D.int .u8 l1,D.bool l2,D.str l3,D.slice l4 [],D.int .u8 l5,D.int .u8 l6,D.int .i64 l7,D.str l8,D.slice l9 [],D.int .u8 l10,D.int .i64 l11,D.str l12,D.slice l13 []]] /\ List.length rw + 1 <= 1073741824) (Tr.owe ((-9223372036854775808 : Int) <= i + (1 : Int) /\ i + (1 : Int) <= (9223372036854775807 : Int)) (Tr.jmp (cut sc33 0) { tm := [(1,D.ptr 0 0),(3,D.slice g []),(4,D.vec 1),(5,D.int .i64 (i + (1 : Int)))],ob := [(0,Ob.cells (rC k hs bs ts a1 a2 a3 a4 b1 b2 b3 b4 c1 c2 c3 c4 d1 d2 d3 d4)),(1,Ob.arr true 13 34 (rw ++ [[D.int .u8 l1,D.bool l2,D.str l3,D.slice l4 [],D.int .u8 l5,D.int .u8 l6,D.int .i64 l7,D.str l8,D.slice l9 [],D.int .u8 l10,D.int .i64 l11,D.str l12,D.slice l13 []]]))] })))) (Tr.owe ((-9223372036854775808 : Int) <= i + (1 : Int) /\ i + (1 : Int) <= (9223372036854775807 : Int)) (Tr.jmp (cut sc33 0) { tm := [(1,D.ptr 0 0),(3,D.slice g []),(4,D.vec 1),(5,D.int .i64 (i + (1 : Int)))],ob := [(0,Ob.cells (rC k hs bs ts a1 a2 a3 a4 b1 b2 b3 b4 c1 c2 c3 c4 d1 d2 d3 d4)),(1,Ob.arr true 13 34 rw)] })))) (Tr.owe (FnOK Tryz.prog 47 [D.slice rw [],D.slice [] []] (D.slice b [])) (Tr.owe (FnOK Tryz.prog 46 [D.slice g [],D.slice b [],D.slice [] []] (D.own 1 9 z)) (Tr.jmp (cut sc33 1) { tm := [(1,D.ptr 0 0),(3,D.slice g []),(6,D.vec 1),(7,D.int .i64 (0 : Int))],ob := [(0,Ob.cells (rC k hs bs ts a1 a2 a3 a4 b1 b2 b3 b4 c1 c2 c3 c4 d1 d2 d3 d4)),(1,Ob.arr true 1 9 z)] })))
theorem RUn0_eq (k : Int) (hs bs ts : List (List D)) (a1 a2 : Int) (a3 : List UInt8) (a4 : List (List D)) (b1 b2 : Int) (b3 : List UInt8) (b4 : List (List D)) (c1 c2 : Int) (c3 : List UInt8) (c4 : List (List D)) (d1 d2 : Int) (d3 : List UInt8) (d4 g rw b z : List (List D)) (i bk l1 : Int) (l2 : Bool) (l3 : List UInt8) (l4 : List (List D)) (l5 l6 l7 : Int) (l8 : List UInt8) (l9 : List (List D)) (l10 l11 : Int) (l12 : List UInt8) (l13 bcn : List (List D)) (bno : Bool) (bf : Int) (be : List (List D)) (bop t1 t2 : Int) (t3 : List UInt8) (t4 : List (List D)) : goT Tryz.prog (dCtr [(43,D.slice b []),(44,D.own 1 9 z)] [(28,bC bk l1 l2 l3 l4 l5 l6 l7 l8 l9 l10 l11 l12 l13 bcn bno bf be bop t1 t2 t3 t4),(36,bC bk l1 l2 l3 l4 l5 l6 l7 l8 l9 l10 l11 l12 l13 bcn bno bf be bop t1 t2 t3 t4)]) 0 (finF true 0 rs33) 2000 (cut sc33 0) (hdU0 (rC k hs bs ts a1 a2 a3 a4 b1 b2 b3 b4 c1 c2 c3 c4 d1 d2 d3 d4) g rw i) = RUn0 k hs bs ts a1 a2 a3 a4 b1 b2 b3 b4 c1 c2 c3 c4 d1 d2 d3 d4 g rw b z i bk l1 l2 l3 l4 l5 l6 l7 l8 l9 l10 l11 l12 l13 bcn bno bf be bop t1 t2 t3 t4 := by kernel_rfl
def hdU1 (R : List D) (g rw : List (List D)) (t : Nat) (i : Int) : St := ⟨[(1,.ptr 0 0),(3,.slice g []),(6,.vec 1),(t,.int .i64 i)],[(0,.cells R),(1,.arr true 1 9 rw)]⟩
noncomputable def RUn1 (k : Int) (hs bs ts : List (List D)) (a1 a2 : Int) (a3 : List UInt8) (a4 : List (List D)) (b1 b2 : Int) (b3 : List UInt8) (b4 : List (List D)) (c1 c2 : Int) (c3 : List UInt8) (c4 : List (List D)) (d1 d2 : Int) (d3 : List UInt8) (d4 g rw v1 v2 b m : List (List D)) (i : Int) (p : List UInt8) (ha hc : List (List D)) : Tr := brT (decide (i < (↑(List.length hs) : Int))) (brT (decide (k = (2 : Int))) (Tr.owe ((0 : Int) <= i /\ hs[Int.toNat i]? = some [D.str p,D.slice ha [],D.slice hc []]) (Tr.owe ((0 : Int) <= i /\ hs[Int.toNat i]? = some [D.str p,D.slice ha [],D.slice hc []]) (Tr.owe (FnOK Tryz.prog 48 [D.slice ha []] (D.own 1 9 v1)) (Tr.owe (FnOK Tryz.prog 49 [D.slice hc []] (D.slice v2 [])) (Tr.owe (allLen 1 v2 /\ List.length v1 + List.length v2 <= 1073741824) (Tr.owe (FnOK Tryz.prog 47 [D.slice hc [],D.slice g []] (D.slice b [])) (Tr.owe (FnOK Tryz.prog 46 [D.slice (v1 ++ v2) [],D.slice g [],D.slice b []] (D.slice m [])) (Tr.owe (allLen 1 m /\ List.length rw + List.length m <= 1073741824) (Tr.owe ((-9223372036854775808 : Int) <= i + (1 : Int) /\ i + (1 : Int) <= (9223372036854775807 : Int)) (Tr.jmp (cut sc33 1) { tm := [(1,D.ptr 0 0),(3,D.slice g []),(6,D.vec 1),(7,D.int .i64 (i + (1 : Int)))],ob := [(0,Ob.cells (rC k hs bs ts a1 a2 a3 a4 b1 b2 b3 b4 c1 c2 c3 c4 d1 d2 d3 d4)),(1,Ob.arr true 1 9 (rw ++ m))] })))))))))) (Tr.jmp (cut sc33 2) { tm := [(1,D.ptr 0 0),(3,D.slice g []),(6,D.vec 1),(10,D.int .i64 (0 : Int))],ob := [(0,Ob.cells (rC k hs bs ts a1 a2 a3 a4 b1 b2 b3 b4 c1 c2 c3 c4 d1 d2 d3 d4)),(1,Ob.arr true 1 9 rw)] })) (Tr.jmp (cut sc33 2) { tm := [(1,D.ptr 0 0),(3,D.slice g []),(6,D.vec 1),(10,D.int .i64 (0 : Int))],ob := [(0,Ob.cells (rC k hs bs ts a1 a2 a3 a4 b1 b2 b3 b4 c1 c2 c3 c4 d1 d2 d3 d4)),(1,Ob.arr true 1 9 rw)] })
theorem RUn1_eq (k : Int) (hs bs ts : List (List D)) (a1 a2 : Int) (a3 : List UInt8) (a4 : List (List D)) (b1 b2 : Int) (b3 : List UInt8) (b4 : List (List D)) (c1 c2 : Int) (c3 : List UInt8) (c4 : List (List D)) (d1 d2 : Int) (d3 : List UInt8) (d4 g rw v1 v2 b m : List (List D)) (i : Int) (p : List UInt8) (ha hc : List (List D)) : goT Tryz.prog (dCtr [(70,D.own 1 9 v1),(72,D.slice v2 []),(79,D.slice b []),(80,D.slice m [])] [(60,[D.str p,D.slice ha [],D.slice hc []]),(66,[D.str p,D.slice ha [],D.slice hc []])]) 0 (finF true 0 rs33) 2000 (cut sc33 1) (hdU1 (rC k hs bs ts a1 a2 a3 a4 b1 b2 b3 b4 c1 c2 c3 c4 d1 d2 d3 d4) g rw 7 i) = RUn1 k hs bs ts a1 a2 a3 a4 b1 b2 b3 b4 c1 c2 c3 c4 d1 d2 d3 d4 g rw v1 v2 b m i p ha hc := by kernel_rfl
noncomputable def RUn2 (k : Int) (hs bs ts : List (List D)) (a1 a2 : Int) (a3 : List UInt8) (a4 : List (List D)) (b1 b2 : Int) (b3 : List UInt8) (b4 : List (List D)) (c1 c2 : Int) (c3 : List UInt8) (c4 : List (List D)) (d1 d2 : Int) (d3 : List UInt8) (d4 g rw v1 v2 b m z : List (List D)) (i bk l1 : Int) (l2 : Bool) (l3 : List UInt8) (l4 : List (List D)) (l5 l6 l7 : Int) (l8 : List UInt8) (l9 : List (List D)) (l10 l11 : Int) (l12 : List UInt8) (l13 bcn : List (List D)) (bno : Bool) (bf : Int) (be : List (List D)) (bop t1 t2 : Int) (t3 : List UInt8) (t4 : List (List D)) : Tr := brT (decide (i < (↑(List.length bs) : Int))) (Tr.owe ((0 : Int) <= i /\ bs[Int.toNat i]? = some (bC bk l1 l2 l3 l4 l5 l6 l7 l8 l9 l10 l11 l12 l13 bcn bno bf be bop t1 t2 t3 t4)) (brT (decide (bk = (2 : Int))) (Tr.owe (FnOK Tryz.prog 49 [D.slice [[D.int .u8 l1,D.bool l2,D.str l3,D.slice l4 [],D.int .u8 l5,D.int .u8 l6,D.int .i64 l7,D.str l8,D.slice l9 [],D.int .u8 l10,D.int .i64 l11,D.str l12,D.slice l13 []]] []] (D.own 1 9 v1)) (Tr.owe (FnOK Tryz.prog 49 [D.slice bcn []] (D.slice v2 [])) (Tr.owe (allLen 1 v2 /\ List.length v1 + List.length v2 <= 1073741824) (Tr.owe (FnOK Tryz.prog 47 [D.slice bcn [],D.slice g []] (D.slice b [])) (Tr.owe (FnOK Tryz.prog 46 [D.slice (v1 ++ v2) [],D.slice g [],D.slice b []] (D.slice m [])) (Tr.owe (allLen 1 m /\ List.length rw + List.length m <= 1073741824) (Tr.jmp (cut sc33 3) { tm := [(1,D.ptr 0 0),(3,D.slice g []),(6,D.vec 1),(10,D.int .i64 i),(11,D.ptr 2 0),(13,D.int .i64 (0 : Int))],ob := [(0,Ob.cells (rC k hs bs ts a1 a2 a3 a4 b1 b2 b3 b4 c1 c2 c3 c4 d1 d2 d3 d4)),(1,Ob.arr true 1 9 (rw ++ m)),(2,Ob.cells (bC bk l1 l2 l3 l4 l5 l6 l7 l8 l9 l10 l11 l12 l13 bcn bno bf be bop t1 t2 t3 t4))] }))))))) (Tr.jmp (cut sc33 3) { tm := [(1,D.ptr 0 0),(3,D.slice g []),(6,D.vec 1),(10,D.int .i64 i),(11,D.ptr 2 0),(13,D.int .i64 (0 : Int))],ob := [(0,Ob.cells (rC k hs bs ts a1 a2 a3 a4 b1 b2 b3 b4 c1 c2 c3 c4 d1 d2 d3 d4)),(1,Ob.arr true 1 9 rw),(2,Ob.cells (bC bk l1 l2 l3 l4 l5 l6 l7 l8 l9 l10 l11 l12 l13 bcn bno bf be bop t1 t2 t3 t4))] }))) (Tr.owe (FnOK Tryz.prog 50 [D.slice rw []] (D.own 1 9 z)) (Tr.ret (D.own 1 9 z) []))
theorem RUn2_eq (k : Int) (hs bs ts : List (List D)) (a1 a2 : Int) (a3 : List UInt8) (a4 : List (List D)) (b1 b2 : Int) (b3 : List UInt8) (b4 : List (List D)) (c1 c2 : Int) (c3 : List UInt8) (c4 : List (List D)) (d1 d2 : Int) (d3 : List UInt8) (d4 g rw v1 v2 b m z : List (List D)) (i bk l1 : Int) (l2 : Bool) (l3 : List UInt8) (l4 : List (List D)) (l5 l6 l7 : Int) (l8 : List UInt8) (l9 : List (List D)) (l10 l11 : Int) (l12 : List UInt8) (l13 bcn : List (List D)) (bno : Bool) (bf : Int) (be : List (List D)) (bop t1 t2 : Int) (t3 : List UInt8) (t4 : List (List D)) : goT Tryz.prog (dCtr [(100,D.own 1 9 v1),(103,D.slice v2 []),(111,D.slice b []),(112,D.slice m []),(151,D.own 1 9 z)] [(92,bC bk l1 l2 l3 l4 l5 l6 l7 l8 l9 l10 l11 l12 l13 bcn bno bf be bop t1 t2 t3 t4)]) 0 (finF true 0 rs33) 2000 (cut sc33 2) (hdU1 (rC k hs bs ts a1 a2 a3 a4 b1 b2 b3 b4 c1 c2 c3 c4 d1 d2 d3 d4) g rw 10 i) = RUn2 k hs bs ts a1 a2 a3 a4 b1 b2 b3 b4 c1 c2 c3 c4 d1 d2 d3 d4 g rw v1 v2 b m z i bk l1 l2 l3 l4 l5 l6 l7 l8 l9 l10 l11 l12 l13 bcn bno bf be bop t1 t2 t3 t4 := by kernel_rfl
def hdU3 (R : List D) (g rw : List (List D)) (i : Int) (B : List D) (j : Int) : St := ⟨[(1,.ptr 0 0),(3,.slice g []),(6,.vec 1),(10,.int .i64 i),(11,.ptr 2 0),(13,.int .i64 j)],[(0,.cells R),(1,.arr true 1 9 rw),(2,.cells B)]⟩
noncomputable def RUn3 (k : Int) (hs bs ts : List (List D)) (a1 a2 : Int) (a3 : List UInt8) (a4 : List (List D)) (b1 b2 : Int) (b3 : List UInt8) (b4 : List (List D)) (c1 c2 : Int) (c3 : List UInt8) (c4 : List (List D)) (d1 d2 : Int) (d3 : List UInt8) (d4 g rw v1 v2 b m : List (List D)) (i j bk l1 : Int) (l2 : Bool) (l3 : List UInt8) (l4 : List (List D)) (l5 l6 l7 : Int) (l8 : List UInt8) (l9 : List (List D)) (l10 l11 : Int) (l12 : List UInt8) (l13 bcn : List (List D)) (bno : Bool) (bf : Int) (be : List (List D)) (bop t1 t2 : Int) (t3 : List UInt8) (t4 et ec : List (List D)) : Tr := brT (decide (j < (↑(List.length be) : Int))) (brT (decide (bk = (3 : Int))) (Tr.owe ((0 : Int) <= j /\ be[Int.toNat j]? = some [D.slice et [],D.slice ec []]) (Tr.owe ((0 : Int) <= j /\ be[Int.toNat j]? = some [D.slice et [],D.slice ec []]) (Tr.owe (FnOK Tryz.prog 48 [D.slice et []] (D.own 1 9 v1)) (Tr.owe (FnOK Tryz.prog 49 [D.slice ec []] (D.slice v2 [])) (Tr.owe (allLen 1 v2 /\ List.length v1 + List.length v2 <= 1073741824) (Tr.owe (FnOK Tryz.prog 47 [D.slice ec [],D.slice g []] (D.slice b [])) (Tr.owe (FnOK Tryz.prog 46 [D.slice (v1 ++ v2) [],D.slice g [],D.slice b []] (D.slice m [])) (Tr.owe (allLen 1 m /\ List.length rw + List.length m <= 1073741824) (Tr.owe ((-9223372036854775808 : Int) <= j + (1 : Int) /\ j + (1 : Int) <= (9223372036854775807 : Int)) (Tr.jmp (cut sc33 3) { tm := [(1,D.ptr 0 0),(3,D.slice g []),(6,D.vec 1),(10,D.int .i64 i),(11,D.ptr 2 0),(13,D.int .i64 (j + (1 : Int)))],ob := [(0,Ob.cells (rC k hs bs ts a1 a2 a3 a4 b1 b2 b3 b4 c1 c2 c3 c4 d1 d2 d3 d4)),(1,Ob.arr true 1 9 (rw ++ m)),(2,Ob.cells (bC bk l1 l2 l3 l4 l5 l6 l7 l8 l9 l10 l11 l12 l13 bcn bno bf be bop t1 t2 t3 t4))] })))))))))) (Tr.owe ((-9223372036854775808 : Int) <= i + (1 : Int) /\ i + (1 : Int) <= (9223372036854775807 : Int)) (Tr.jmp (cut sc33 2) { tm := [(1,D.ptr 0 0),(3,D.slice g []),(6,D.vec 1),(10,D.int .i64 (i + (1 : Int)))],ob := [(0,Ob.cells (rC k hs bs ts a1 a2 a3 a4 b1 b2 b3 b4 c1 c2 c3 c4 d1 d2 d3 d4)),(1,Ob.arr true 1 9 rw)] }))) (Tr.owe ((-9223372036854775808 : Int) <= i + (1 : Int) /\ i + (1 : Int) <= (9223372036854775807 : Int)) (Tr.jmp (cut sc33 2) { tm := [(1,D.ptr 0 0),(3,D.slice g []),(6,D.vec 1),(10,D.int .i64 (i + (1 : Int)))],ob := [(0,Ob.cells (rC k hs bs ts a1 a2 a3 a4 b1 b2 b3 b4 c1 c2 c3 c4 d1 d2 d3 d4)),(1,Ob.arr true 1 9 rw)] }))
theorem RUn3_eq (k : Int) (hs bs ts : List (List D)) (a1 a2 : Int) (a3 : List UInt8) (a4 : List (List D)) (b1 b2 : Int) (b3 : List UInt8) (b4 : List (List D)) (c1 c2 : Int) (c3 : List UInt8) (c4 : List (List D)) (d1 d2 : Int) (d3 : List UInt8) (d4 g rw v1 v2 b m : List (List D)) (i j bk l1 : Int) (l2 : Bool) (l3 : List UInt8) (l4 : List (List D)) (l5 l6 l7 : Int) (l8 : List UInt8) (l9 : List (List D)) (l10 l11 : Int) (l12 : List UInt8) (l13 bcn : List (List D)) (bno : Bool) (bf : Int) (be : List (List D)) (bop t1 t2 : Int) (t3 : List UInt8) (t4 et ec : List (List D)) : goT Tryz.prog (dCtr [(138,D.own 1 9 v1),(140,D.slice v2 []),(147,D.slice b []),(148,D.slice m [])] [(129,[D.slice et [],D.slice ec []]),(135,[D.slice et [],D.slice ec []])]) 0 (finF true 0 rs33) 2000 (cut sc33 3) (hdU3 (rC k hs bs ts a1 a2 a3 a4 b1 b2 b3 b4 c1 c2 c3 c4 d1 d2 d3 d4) g rw i (bC bk l1 l2 l3 l4 l5 l6 l7 l8 l9 l10 l11 l12 l13 bcn bno bf be bop t1 t2 t3 t4) j) = RUn3 k hs bs ts a1 a2 a3 a4 b1 b2 b3 b4 c1 c2 c3 c4 d1 d2 d3 d4 g rw v1 v2 b m i j bk l1 l2 l3 l4 l5 l6 l7 l8 l9 l10 l11 l12 l13 bcn bno bf be bop t1 t2 t3 t4 et ec := by kernel_rfl
noncomputable def RSa (rs co sh : List (List D)) (so : Bool) : Tr := Tr.jmp (cut sc19 0) { tm := [(1,D.ptr 0 0),(3,D.int .i64 (0 : Int))],ob := [(0,Ob.cells [D.slice rs [],D.slice co [],D.slice sh [],D.bool so])] }
theorem RSa_eq (rs co sh : List (List D)) (so : Bool) : goT Tryz.prog (dCtr []) 0 (finF true 0 rs19) 2000 [Fr.sc sc19] { tm := envOf 0 [D.agg [D.slice rs [],D.slice co [],D.slice sh [],D.bool so]],ob := [] } = RSa rs co sh so := by kernel_rfl
def hdSa (rs co sh : List (List D)) (so : Bool) (i : Int) : St := ⟨[(1,.ptr 0 0),(3,.int .i64 i)],[(0,.cells ([.slice rs [],.slice co [],.slice sh [],.bool so]))]⟩
noncomputable def RSa1 (rs co sh : List (List D)) (so : Bool) (i k : Int) (hs bs ts : List (List D)) (a1 a2 : Int) (a3 : List UInt8) (a4 : List (List D)) (b1 b2 : Int) (b3 : List UInt8) (b4 : List (List D)) (c1 c2 : Int) (c3 : List UInt8) (c4 : List (List D)) (d1 d2 : Int) (d3 : List UInt8) (d4 u : List (List D)) : Tr := brT (decide (i < (↑(List.length rs) : Int))) (Tr.owe ((0 : Int) <= i /\ rs[Int.toNat i]? = some (rC k hs bs ts a1 a2 a3 a4 b1 b2 b3 b4 c1 c2 c3 c4 d1 d2 d3 d4)) (Tr.owe (FnOK Tryz.prog 33 [D.agg (rC k hs bs ts a1 a2 a3 a4 b1 b2 b3 b4 c1 c2 c3 c4 d1 d2 d3 d4)] (D.slice u [])) (brT (decide ((0 : Int) < (↑(List.length u) : Int))) (Tr.ret (D.bool false) []) (Tr.owe ((-9223372036854775808 : Int) <= i + (1 : Int) /\ i + (1 : Int) <= (9223372036854775807 : Int)) (Tr.jmp (cut sc19 0) { tm := [(1,D.ptr 0 0),(3,D.int .i64 (i + (1 : Int)))],ob := [(0,Ob.cells [D.slice rs [],D.slice co [],D.slice sh [],D.bool so])] }))))) (Tr.ret (D.bool true) [])
theorem RSa1_eq (rs co sh : List (List D)) (so : Bool) (i k : Int) (hs bs ts : List (List D)) (a1 a2 : Int) (a3 : List UInt8) (a4 : List (List D)) (b1 b2 : Int) (b3 : List UInt8) (b4 : List (List D)) (c1 c2 : Int) (c3 : List UInt8) (c4 : List (List D)) (d1 d2 : Int) (d3 : List UInt8) (d4 u : List (List D)) : goT Tryz.prog (dCtr [(16,D.slice u [])] [(14,rC k hs bs ts a1 a2 a3 a4 b1 b2 b3 b4 c1 c2 c3 c4 d1 d2 d3 d4)]) 0 (finF true 0 rs19) 2000 (cut sc19 0) (hdSa rs co sh so i) = RSa1 rs co sh so i k hs bs ts a1 a2 a3 a4 b1 b2 b3 b4 c1 c2 c3 c4 d1 d2 d3 d4 u := by kernel_rfl
noncomputable def PZp (rs co sh : List (List D)) (so : Bool) (m : Int) : Tr := Tr.jmp (cut sc17 0) { tm := [(1,D.int .i64 m),(2,D.ptr 0 0),(5,D.int .i64 (↑(List.length sh) : Int)),(6,D.int .i64 (0 : Int))],ob := [(0,Ob.cells [D.slice rs [],D.slice co [],D.slice sh [],D.bool so])] }
theorem PZp_eq (rs co sh : List (List D)) (so : Bool) (m : Int) : goT Tryz.prog (dCtr []) 0 (finF true 0 rs17) 2000 [Fr.sc sc17] { tm := envOf 0 [D.agg [D.slice rs [],D.slice co [],D.slice sh [],D.bool so],D.int .i64 m],ob := [] } = PZp rs co sh so m := by kernel_rfl
def hdZp (rs co sh : List (List D)) (so : Bool) (m n : Int) (t : Nat) (i : Int) : St := ⟨[(1,.int .i64 m),(2,.ptr 0 0),(5,.int .i64 n),(t,.int .i64 i)],[(0,.cells ([.slice rs [],.slice co [],.slice sh [],.bool so]))]⟩
noncomputable def PZp1 (rs co sh : List (List D)) (so : Bool) (m n i k : Int) (hs bs ts : List (List D)) (a1 a2 : Int) (a3 : List UInt8) (a4 : List (List D)) (b1 b2 : Int) (b3 : List UInt8) (b4 : List (List D)) (c1 c2 : Int) (c3 : List UInt8) (c4 : List (List D)) (d1 d2 : Int) (d3 : List UInt8) (d4 : List (List D)) (q : Int) : Tr := brT (decide (i < (↑(List.length rs) : Int))) (brT (decide (n <= m)) (Tr.owe ((0 : Int) <= i /\ rs[Int.toNat i]? = some (rC k hs bs ts a1 a2 a3 a4 b1 b2 b3 b4 c1 c2 c3 c4 d1 d2 d3 d4)) (Tr.owe ((-9223372036854775808 : Int) <= m - n /\ m - n <= (9223372036854775807 : Int)) (Tr.owe (FnOK Tryz.prog 12 [D.agg (rC k hs bs ts a1 a2 a3 a4 b1 b2 b3 b4 c1 c2 c3 c4 d1 d2 d3 d4),D.int .i64 (m - n)] (D.int .i64 q)) (Tr.owe ((-9223372036854775808 : Int) <= n + q /\ n + q <= (9223372036854775807 : Int)) (Tr.owe ((-9223372036854775808 : Int) <= i + (1 : Int) /\ i + (1 : Int) <= (9223372036854775807 : Int)) (Tr.jmp (cut sc17 0) { tm := [(1,D.int .i64 m),(2,D.ptr 0 0),(5,D.int .i64 (n + q)),(6,D.int .i64 (i + (1 : Int)))],ob := [(0,Ob.cells [D.slice rs [],D.slice co [],D.slice sh [],D.bool so])] })))))) (Tr.jmp (cut sc17 1) { tm := [(1,D.int .i64 m),(2,D.ptr 0 0),(5,D.int .i64 n),(7,D.int .i64 (0 : Int))],ob := [(0,Ob.cells [D.slice rs [],D.slice co [],D.slice sh [],D.bool so])] })) (Tr.jmp (cut sc17 1) { tm := [(1,D.int .i64 m),(2,D.ptr 0 0),(5,D.int .i64 n),(7,D.int .i64 (0 : Int))],ob := [(0,Ob.cells [D.slice rs [],D.slice co [],D.slice sh [],D.bool so])] })
theorem PZp1_eq (rs co sh : List (List D)) (so : Bool) (m n i k : Int) (hs bs ts : List (List D)) (a1 a2 : Int) (a3 : List UInt8) (a4 : List (List D)) (b1 b2 : Int) (b3 : List UInt8) (b4 : List (List D)) (c1 c2 : Int) (c3 : List UInt8) (c4 : List (List D)) (d1 d2 : Int) (d3 : List UInt8) (d4 : List (List D)) (q : Int) : goT Tryz.prog (dCtr [(32,D.int .i64 q)] [(27,rC k hs bs ts a1 a2 a3 a4 b1 b2 b3 b4 c1 c2 c3 c4 d1 d2 d3 d4)]) 0 (finF true 0 rs17) 2000 (cut sc17 0) (hdZp rs co sh so m n 6 i) = PZp1 rs co sh so m n i k hs bs ts a1 a2 a3 a4 b1 b2 b3 b4 c1 c2 c3 c4 d1 d2 d3 d4 q := by kernel_rfl
noncomputable def PZp2 (rs co sh : List (List D)) (so : Bool) (m n i : Int) (nm : List UInt8) (kx nx : Int) (sx : List UInt8) (ax : List (List D)) (q : Int) : Tr := brT (decide (i < (↑(List.length co) : Int))) (brT (decide (n <= m)) (Tr.owe ((0 : Int) <= i /\ co[Int.toNat i]? = some [D.str nm,D.int .u8 kx,D.int .i64 nx,D.str sx,D.slice ax []]) (Tr.owe ((-9223372036854775808 : Int) <= m - n /\ m - n <= (9223372036854775807 : Int)) (Tr.owe (FnOK Tryz.prog 23 [D.agg (tC kx nx sx ax),D.int .i64 (m - n)] (D.int .i64 q)) (Tr.owe ((-9223372036854775808 : Int) <= (1 : Int) + q /\ (1 : Int) + q <= (9223372036854775807 : Int)) (Tr.owe ((-9223372036854775808 : Int) <= n + ((1 : Int) + q) /\ n + ((1 : Int) + q) <= (9223372036854775807 : Int)) (Tr.owe ((-9223372036854775808 : Int) <= i + (1 : Int) /\ i + (1 : Int) <= (9223372036854775807 : Int)) (Tr.jmp (cut sc17 1) { tm := [(1,D.int .i64 m),(2,D.ptr 0 0),(5,D.int .i64 (n + ((1 : Int) + q))),(7,D.int .i64 (i + (1 : Int)))],ob := [(0,Ob.cells [D.slice rs [],D.slice co [],D.slice sh [],D.bool so])] }))))))) (Tr.ret (D.int .i64 n) [])) (Tr.ret (D.int .i64 n) [])
theorem PZp2_eq (rs co sh : List (List D)) (so : Bool) (m n i : Int) (nm : List UInt8) (kx nx : Int) (sx : List UInt8) (ax : List (List D)) (q : Int) : goT Tryz.prog (dCtr [(56,D.int .i64 q)] [(50,[D.str nm,D.int .u8 kx,D.int .i64 nx,D.str sx,D.slice ax []])]) 0 (finF true 0 rs17) 2000 (cut sc17 1) (hdZp rs co sh so m n 7 i) = PZp2 rs co sh so m n i nm kx nx sx ax q := by kernel_rfl
noncomputable def PPr (rs co sh : List (List D)) (so : Bool) (n : Int) (b c : Bool) : Tr := Tr.owe (FnOK Tryz.prog 17 [D.agg [D.slice rs [],D.slice co [],D.slice sh [],D.bool so],D.int .i64 (400 : Int)] (D.int .i64 n)) (brT (decide ((400 : Int) < n)) (Tr.owe (FnOK Tryz.prog 7 [] (D.bool true)) (Tr.ret (D.bool true) [])) (Tr.owe (FnOK Tryz.prog 18 [D.agg [D.slice rs [],D.slice co [],D.slice sh [],D.bool so]] (D.bool b)) (Tr.owe (FnOK Tryz.prog 19 [D.agg [D.slice rs [],D.slice co [],D.slice sh [],D.bool so]] (D.bool c)) (brT (b == c) (Tr.owe (FnOK Tryz.prog 7 [] (D.bool true)) (Tr.ret (D.bool true) [])) (Tr.ret (D.bool false) [])))))
theorem PPr_eq (rs co sh : List (List D)) (so : Bool) (n : Int) (b c : Bool) : goT Tryz.prog (dCtr [(4,D.int .i64 n),(6,D.bool true),(8,D.bool b),(10,D.bool c),(13,D.bool true)]) 0 (finF true 0 rs5) 2000 [Fr.sc sc5] { tm := envOf 0 [D.agg [D.slice rs [],D.slice co [],D.slice sh [],D.bool so]],ob := [] } = PPr rs co sh so n b c := by kernel_rfl
end Go.Proofs.YtiafmjolbacdaaaGreat
