/- arith.copied,functions,expand,Eval: proved. -/
import Derived.Test.YtfoklncmfoogcaaGreatDoorArEx
set_option linter.unusedSectionVars false
set_option linter.unusedVariables false
set_option linter.unusedSimpArgs false
set_option linter.deprecated false
set_option maxRecDepth 100000
namespace Go.Proofs.YtfoklncmfoogcaaGreatDoor
open Go.Sx
def CopP (x : Tm) : Prop := FnOK Tryz.prog 41 [.agg x.cells] (.agg x.cells)
theorem cop_at (k n : Int) (s : List UInt8) (l : List Tm) (hl : l.length <= 1000) (H : ∀ x ∈ l,CopP x) : ∀ (m i : Nat),l.length - i = m -> i <= l.length →
  At Tryz.prog 0 (cut sc41 0) (hdCoB k n s (Tm.cellsL l) (Tm.cellsL (l.take i)) l.length i) (FinQ true 0 rs41 fun r _ => r = .agg [.int .u8 k,.int .i64 n,.str s,.slice (Tm.cellsL l) []]) := by
 intro m
 induction m with
 | zero =>
  intro i hm hi
  refine At.tree (ctr_ok (asmP_ok _) qnone_ok) (PCoB_eq k n s (Tm.cellsL l) (Tm.cellsL (l.take i)) l.length i 0 0 [] []) ?_
  unfold PCoB
  rw [List.take_of_length_le (show l.length <= i by omega)]
  simp only [SS]
  exact ⟨fun h => by omega,fun _ => trivial⟩
 | succ m ih =>
  intro i hm hi
  have h1 : i < l.length := by omega
  have hx := cellsL_get h1
  have hC := H _ (List.getElem_mem h1)
  have hI := ih (i + 1) (by omega) (by omega)
  have ht : Tm.cellsL (l.take (i + 1)) = Tm.cellsL (l.take i) ++ [l[i].cells] := by
   rw [List.take_add_one,List.getElem?_eq_getElem h1,cellsL_app]; rfl
  rw [ht] at hI
  unfold CopP at hC
  generalize l[i] = x at hx hC hI
  obtain ⟨kx,nx,sx,ax⟩ := x
  refine At.tree (ctr_ok (asmP_ok _) qnone_ok) (PCoB_eq k n s (Tm.cellsL l) (Tm.cellsL (l.take i)) l.length i kx nx sx (Tm.cellsL ax)) ?_
  unfold PCoB
  simp only [SS,cellsL_length,List.length_take]
  exact ⟨fun _ => ⟨⟨by omega,hx⟩,hC,⟨by simp [allLen],by omega⟩,by omega,hI⟩,fun h => by omega⟩
theorem cop_ok : ∀ x : Tm,x.few 1000 -> CopP x
 | .mk k n s l,hx => by
  simp only [Tm.few] at hx
  obtain ⟨hl,hw⟩ := hx
  have H : ∀ x ∈ l,CopP x := fun x hx => cop_ok x (fewL_all.1 hw x hx)
  have hA := cop_at k n s l hl H _ 1 rfl
  unfold CopP
  refine FnOK.tree hdraw fp41 (ctr_ok libT_ok qnone_ok) (PCop_eq k n s (Tm.cellsL l)) ?_
  unfold PCop
  rw [ok_jmp,cellsL_length]
  match l,hl,H,hA with
  | [],_,_,_ =>
   refine At.tree (ctr_ok (asmP_ok _) qnone_ok) (PCoA_eq k n s [] 0 0 0 0 [] []) ?_
   unfold PCoA
   rw [ok_br]
   refine ⟨fun h => ?_,fun _ => rfl⟩
   have := of_decide_eq_true h; omega
  | .mk kx nx sx ax :: r,hl,H,hA =>
   have hC := H _ (List.mem_cons_self ..)
   have hI := hA (by simp)
   unfold CopP at hC
   refine At.tree (ctr_ok (asmP_ok _) qnone_ok) (PCoA_eq k n s (Tm.cellsL (.mk kx nx sx ax :: r)) (r.length + 1 : Nat) 0 kx nx sx (Tm.cellsL ax)) ?_
   unfold PCoA
   simp only [SS]
   exact ⟨fun _ => ⟨⟨by omega,rfl⟩,hC,⟨by simp [allLen],by omega⟩,by omega,hI⟩,fun h => by omega⟩
termination_by x => SizeOf.sizeOf x
decreasing_by
 have := List.sizeOf_lt_of_mem hx
 simp only [Tm.mk.sizeOf_spec]
 omega
def empI : List (List Tm) -> Int -> Int
 | [],_ => -1
 | a :: r,i => if a.isEmpty = true then i else empI r (i + 1)
theorem empI_ge : ∀ (l : List (List Tm)) (i : Int),0 <= i -> decide (0 <= empI l i) = l.any List.isEmpty
 | [],i,_ => by simp [empI]
 | a :: r,i,hi => by
  have ih := empI_ge r (i + 1) (by omega)
  by_cases hf : a.isEmpty = true
  ·simp [empI,hf,hi]
  ·rw [empI,if_neg hf,List.any_cons,ih,Bool.eq_false_iff.2 hf,Bool.false_or]
noncomputable def CFe (es : List (List D)) : Tr := Tr.ret (D.bool (decide ((↑(List.length es) : Int) = (0 : Int)))) []
theorem CFe_eq (es : List (List D)) : goT Tryz.prog (ctr libT) 0 (finF false 0 rs86) 2000 [Fr.sc sc86] { tm := envOf 0 ([] ++ [D.slice es []] ++ []),ob := [] } = CFe es := by kernel_rfl
theorem fe_ok (l : List Tm) : CallL Tryz.prog (.func (.func 86) [] []) [.slice (Tm.cellsL l) []] [] fun r ob => r = .bool l.isEmpty /\ ob = [] := by
 refine CallL.tree hdraw fp86 (ctr_ok libT_ok qnone_ok) (CFe_eq (Tm.cellsL l)) ?_
 unfold CFe
 have e : decide (((Tm.cellsL l).length : Int) = 0) = l.isEmpty := by
  rw [cellsL_length,Bool.eq_iff_iff,decide_eq_true_eq,List.isEmpty_iff]
  rw [<- List.length_eq_zero_iff]; omega
 rw [ok_ret,e]
 exact ⟨rfl,rfl⟩
noncomputable def PIxE (es ext : List (List D)) : Tr := Tr.jmp (cut sc104 0) { tm := [(0,D.slice es ext),(1,D.func (Fn.func 86) [] []),(7,D.int .i64 (↑(List.length es) : Int)),(8,D.int .i64 (0 : Int))],ob := [] }
theorem PIxE_eq (es ext : List (List D)) : goT Tryz.prog (ctr libT) 0 (finF false 0 rs104) 2000 [Fr.sc sc104] { tm := envOf 0 ([] ++ [D.slice es ext,D.func (Fn.func 86) [] []] ++ []),ob := [] } = PIxE es ext := by kernel_rfl
def hdIxE (es ext : List (List D)) (n i : Int) : St := ⟨[(0,.slice es ext),(1,.func (.func 86) [] []),(7,.int .i64 n),(8,.int .i64 i)],[]⟩
noncomputable def PIxE2 (es ext : List (List D)) (m i : Int) (xs : List (List D)) (b : Bool) : Tr := brT (decide (i < m)) (Tr.owe ((0 : Int) <= i /\ es[Int.toNat i]? = some [D.slice xs []]) (Tr.owe (CallL Tryz.prog (D.func (Fn.func 86) [] []) [D.slice xs []] [] fun r0 ob0 => r0 = D.bool b /\ ob0 = []) (brT b (Tr.ret (D.int .i64 i) []) (Tr.owe ((-9223372036854775808 : Int) <= i + (1 : Int) /\ i + (1 : Int) <= (9223372036854775807 : Int)) (Tr.jmp (cut sc104 0) { tm := [(0,D.slice es ext),(1,D.func (Fn.func 86) [] []),(7,D.int .i64 m),(8,D.int .i64 (i + (1 : Int)))],ob := [] }))))) (Tr.ret (D.int .i64 (-1 : Int)) [])
theorem PIxE2_eq (es ext : List (List D)) (m i : Int) (xs : List (List D)) (b : Bool) : goT Tryz.prog (ctr libT (asmQ (D.bool b)) (eOne [D.slice xs []])) 0 (finF false 0 rs104) 2000 (cut sc104 0) (hdIxE es ext m i) = PIxE2 es ext m i xs b := by kernel_rfl
noncomputable def PCtE (es ext : List (List D)) (r : Int) : Tr := Tr.owe (CallL Tryz.prog (D.func (Fn.func 104) [] []) [D.slice es ext,D.func (Fn.func 86) [] []] [] fun r0 ob0 => r0 = D.int .i64 r /\ ob0 = []) (Tr.ret (D.bool (decide ((0 : Int) <= r))) [])
theorem PCtE_eq (es ext : List (List D)) (r : Int) : goT Tryz.prog (ctr libT (asmO (D.int .i64 r) [])) 0 (finF false 0 rs85) 2000 [Fr.sc sc85] { tm := envOf 0 ([] ++ [D.slice es ext,D.func (Fn.func 86) [] []] ++ []),ob := [] } = PCtE es ext r := by kernel_rfl
theorem ixE_at (ext : List (List D)) (L : List (List Tm)) (hl : L.length <= 1000) : ∀ (m i : Nat),L.length - i = m -> i <= L.length →
  At Tryz.prog 0 (cut sc104 0) (hdIxE (partD L) ext L.length i) (FinQ false 0 rs104 fun r ob => r = .int .i64 (empI (L.drop i) i) /\ ob = []) := by
 intro m
 induction m with
 | zero =>
  intro i hm hi
  refine At.tree (ctr_ok libT_ok (asmQ_ok _)) (PIxE2_eq (partD L) ext L.length i [] true) ?_
  unfold PIxE2
  rw [List.drop_eq_nil_of_le (by omega)]
  simp only [SS]
  exact ⟨fun h => by omega,fun _ => rfl⟩
 | succ m ih =>
  intro i hm hi
  have h1 : i < L.length := by omega
  have hI := ih (i + 1) (by omega) (by omega)
  rw [drop_cons h1]
  simp only [empI]
  refine At.tree (ctr_ok libT_ok (asmQ_ok _)) (PIxE2_eq (partD L) ext L.length i (Tm.cellsL L[i]) L[i].isEmpty) ?_
  unfold PIxE2
  simp only [SS]
  refine ⟨fun _ => ⟨⟨by omega,partD_get h1⟩,fe_ok _,fun h => by rw [if_pos h],fun h => ⟨by omega, ?_⟩⟩,fun h => by omega⟩
  rw [if_neg (by simp [h])]
  exact hI
theorem ctE_ok (ext : List (List D)) (L : List (List Tm)) (hl : L.length <= 1000) : CallL Tryz.prog (.func (.func 85) [] []) [.slice (partD L) ext,.func (.func 86) [] []] [] fun r ob => r = .bool (L.any List.isEmpty) /\ ob = [] := by
 have hI : CallL Tryz.prog (.func (.func 104) [] []) [.slice (partD L) ext,.func (.func 86) [] []] [] fun r ob => r = .int .i64 (empI L 0) /\ ob = [] := by
  refine CallL.tree hdraw fp104 (ctr_ok libT_ok qnone_ok) (PIxE_eq (partD L) ext) ?_
  unfold PIxE
  simp only [SS,partD_len]
  exact ixE_at ext L hl _ 0 rfl (Nat.zero_le _)
 refine CallL.tree hdraw fp85 (ctr_ok libT_ok (asmO_ok _ _)) (PCtE_eq (partD L) ext (empI L 0)) ?_
 unfold PCtE
 simp only [SS]
 exact ⟨hI,empI_ge L 0 (by decide)⟩
def prdL (L : List (List Tm)) (i : Nat) : Nat := ((L.take i).map List.length).prod
theorem prdL_succ {L : List (List Tm)} {i : Nat} (h : i < L.length) : prdL L (i + 1) = prdL L i * L[i].length := by
 unfold prdL
 rw [List.take_add_one,List.getElem?_eq_getElem h,Option.toList_some,List.map_append,List.prod_append]
 simp
theorem rwsT_ok (s : List UInt8) (L : List (List Tm)) (hL : L.length <= 1000) (hl : ∀ l ∈ L,l ≠ [] /\ l.length <= 1000) (h0 : L ≠ []) (hz : (prodL L).length <= 1000) :
  CallL Tryz.prog (.func (.func 105) [] [.ptr 0 0]) [.yld 1] (obTA s (partD L)) fun r ob => r = .tuple [] /\ ob = obTB s (partD L) (Tm.cellsL ((prodL L).map (fun r => .mk 4 0 s r))) := by
 have hf := funs_prod s L (List.replicate L.length (.mk 0 0 [] [])) (by simp)
 have hF := (filAB s L (by omega) (fun l hx => ⟨(hl l hx).1,by have := (hl l hx).2; omega⟩) h0 _ 0 rfl (Nat.zero_le _)).1 (List.replicate L.length (.mk 0 0 [] [])) (by simp) (by rw [List.drop_zero,hf]; simpa using hz)
 unfold FilA at hF
 rw [List.drop_zero,hf] at hF
 have e : Tm.cellsL (List.replicate L.length (.mk 0 0 [] [])) = List.replicate L.length [.int .u8 0,.int .i64 0,.str [],.slice [] []] := by
  rw [cellsL_map,List.map_replicate]; rfl
 rw [e] at hF
 refine CallL.tree hdraw fp105 (ctr_ok libT_ok (asmA_ok _ _)) (FR1_eq s (partD L) (Tm.cellsL (fillS (outF s) L 0 (List.replicate L.length (.mk 0 0 [] []),[])).1) (Tm.cellsL ((prodL L).map (fun r => .mk 4 0 s r)))) ?_
 unfold FR1
 simp only [SS,partD_len]
 exact ⟨⟨by omega,by omega,by omega⟩,hF,rfl⟩
theorem fn3_at (s : List UInt8) (L : List (List Tm)) (hL : L.length <= 1000) (hl : ∀ l ∈ L,l ≠ [] /\ l.length <= 1000) (h0 : L ≠ []) (hz : (prodL L).length <= 1000) :
  At Tryz.prog 0 (frg sc63 3) ⟨[(1,.slice (partD L) []),(2,.ptr 0 0),(4,.ptr 1 0)],[(0,.cells [.str s]),(1,.cells [.nils])]⟩ (FinQ true 0 rs63 fun r _ => r = .own 4 33 (Tm.cellsL ((prodL L).map (fun r => .mk 4 0 s r)))) := by
 refine At.tree (ctr_ok libT_ok (QT.or_ok rowsT_ok (asmA_ok _ _))) (PFn3_eq s (partD L) [] (Tm.cellsL ((prodL L).map (fun r => .mk 4 0 s r)))) ?_
 unfold PFn3
 rw [ok_owe,ok_owe,ok_jmp]
 refine ⟨trivial,rwsT_ok s L hL hl h0 hz, ?_⟩
 refine At.tree (ctr_ok libT_ok qnone_ok) (PFn4_eq (Tm.cellsL ((prodL L).map (fun r => .mk 4 0 s r)))) ?_
 unfold PFn4
 exact rfl
theorem fnl_at (s : List UInt8) (L : List (List Tm)) (hL : L.length <= 1000) (hl : ∀ l ∈ L,l ≠ [] /\ l.length <= 1000) (h0 : L ≠ []) (hz : (prodL L).length <= 1000) (hp : ∀ i,i <= L.length -> prdL L i <= 1000) : ∀ (m i : Nat),L.length - i = m -> i <= L.length →
  At Tryz.prog 0 (cut sc63 0) (hdFn s (partD L) [] (prdL L i) L.length i) (FinQ true 0 rs63 fun r _ => r = .own 4 33 (Tm.cellsL ((prodL L).map (fun r => .mk 4 0 s r)))) := by
 intro m
 induction m with
 | zero =>
  intro i hm hi
  refine At.tree (ctr_ok limP_ok qnone_ok) (PFnL_eq s (partD L) [] (prdL L i) L.length i []) ?_
  unfold PFnL
  simp only [SS]
  exact ⟨fun h => by omega,fun _ => fn3_at s L hL hl h0 hz⟩
 | succ m ih =>
  intro i hm hi
  have h1 : i < L.length := by omega
  have hI := ih (i + 1) (by omega) (by omega)
  have h2 := hp (i + 1) (by omega)
  have e : ((prdL L (i + 1) : Nat) : Int) = (prdL L i : Int) * (L[i].length : Int) := by rw [prdL_succ h1]; exact Int.natCast_mul _ _
  refine At.tree (ctr_ok limP_ok qnone_ok) (PFnL_eq s (partD L) [] (prdL L i) L.length i (Tm.cellsL L[i])) ?_
  unfold PFnL
  rw [cellsL_length,<- e]
  simp only [SS]
  exact ⟨fun _ => ⟨⟨by omega,partD_get h1⟩,by omega,by omega,by omega,hI⟩,fun h => by omega⟩
theorem fun_ok (s : List UInt8) (L : List (List Tm)) (hL : L.length <= 1000) (hl : ∀ l ∈ L,l.length <= 1000) (h0 : L ≠ []) (hz : (prodL L).length <= 1000) (hp : ∀ i,i <= L.length -> prdL L i <= 1000) :
  FnOK Tryz.prog 63 [.str s,.slice (partD L) []] (exD (!(L.any List.isEmpty)) (Tm.cellsL ((prodL L).map (fun r => .mk 4 0 s r)))) := by
 refine FnOK.tree hdraw fp63 (ctr_ok libT_ok qnone_ok) (PFn_eq s (partD L) []) ?_
 unfold PFn
 rw [ok_jmp]
 refine At.tree (ctr_ok libT_ok (asmA_ok _ _)) (PFn0_eq s (partD L) [] (L.any List.isEmpty)) ?_
 unfold PFn0
 rw [ok_owe,ok_br,ok_ret,ok_jmp]
 refine ⟨ctE_ok [] L hL,fun h => by rw [h]; rfl,fun h => ?_⟩
 rw [h]
 have hne : ∀ l ∈ L,l ≠ [] /\ l.length <= 1000 := fun l hx => ⟨fun e => by
  have := List.any_eq_false.1 h l hx
  rw [e] at this
  exact this rfl,hl l hx⟩
 refine At.tree (ctr_ok libT_ok qnone_ok) (PFn1_eq s (partD L) []) ?_
 unfold PFn1
 rw [ok_jmp]
 refine At.tree (ctr_ok libT_ok qnone_ok) (PFn2_eq s (partD L) []) ?_
 unfold PFn2
 rw [ok_jmp,partD_len]
 exact fnl_at s L hL hne h0 hz hp _ 0 rfl (Nat.zero_le _)
end Go.Proofs.YtfoklncmfoogcaaGreatDoor
