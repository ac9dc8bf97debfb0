/- Vars: what it answers. -/
import Derived.Test.YtiafmjolbacdaaaGreatVars
set_option linter.unusedSectionVars false
set_option linter.unusedVariables false
set_option linter.unusedSimpArgs false
set_option linter.deprecated false
set_option maxRecDepth 100000
namespace Go.Proofs.YtiafmjolbacdaaaGreat
open Go.Sx
def oN (k n : Int) (s : List UInt8) (a : List (List D)) : List (List UInt8) -> Obs
 | [] => obN k n s a
 | c :: r => obA k n s a 4 (strC (c :: r))
def oA (k n : Int) (s : List UInt8) (a : List (List D)) (o : List (List UInt8)) : List (List UInt8) -> Obs
 | [] => obA k n s a 4 (strC o)
 | c :: r => obA k n s a 5 (strC (o ++ c :: r))
theorem yldN_ok (k n : Int) (s : List UInt8) (a : List (List D)) (x : Tm) : CallL Tryz.prog (.yld 0) [.agg x.cells] (obN k n s a) fun r ob => r = .bool true /\ ob = oN k n s a x.v1 := by
 obtain ⟨kx,nx,sx,ax⟩ := x
 refine CallL.yldT hdraw (ctr_ok libT_ok qnone_ok) rfl (TyN_eq kx nx sx (Tm.cellsL ax) k n s a) ?_
 unfold TyN
 rw [ok_br,ok_owe,ok_ret,ok_ret]
 refine ⟨fun h => ⟨⟨allLen_cons.2 ⟨rfl,allLen_nil _⟩,by decide⟩,rfl, ?_⟩,fun h => ⟨rfl, ?_⟩⟩
 ·have h := of_decide_eq_true h
  have : kx = 3 := by omega
  subst this; rfl
 ·have h := of_decide_eq_false h
  simp only [Tm.v1]
  rw [if_neg (by omega)]; rfl
theorem yldA_ok (k n : Int) (s : List UInt8) (a : List (List D)) (x : Tm) (o : List (List UInt8)) (ho : o.length + x.v1.length <= 1073741824) : CallL Tryz.prog (.yld 0) [.agg x.cells] (obA k n s a 4 (strC o)) fun r ob => r = .bool true /\ ob = oA k n s a o x.v1 := by
 obtain ⟨kx,nx,sx,ax⟩ := x
 refine CallL.yldT hdraw (ctr_ok libT_ok qnone_ok) rfl (TyA_eq kx nx sx (Tm.cellsL ax) k n s a (strC o)) ?_
 unfold TyA
 rw [ok_br,ok_owe,ok_ret,ok_ret]
 refine ⟨fun h => ?_,fun h => ⟨rfl, ?_⟩⟩
 ·have h := of_decide_eq_true h
  have : kx = 3 := by omega
  subst this
  refine ⟨⟨allLen_cons.2 ⟨rfl,allLen_nil _⟩,by simpa [strC_len,Tm.v1] using ho⟩,rfl, ?_⟩
  simp only [Tm.v1,if_true,oA,strC_app]
  rfl
 ·have h := of_decide_eq_false h
  simp only [Tm.v1]
  rw [if_neg (by omega)]; rfl
def VisN (k n : Int) (s : List UInt8) (a : List (List D)) (x : Tm) : Prop := CallL Tryz.prog (.func (.func 112) [] []) [.agg x.cells,.yld 0] (obN k n s a) fun r ob => r = .bool true /\ ob = oN k n s a x.vs
def VisA (k n : Int) (s : List UInt8) (a : List (List D)) (x : Tm) : Prop := ∀ o : List (List UInt8),o.length + x.vs.length <= 1073741824 -> CallL Tryz.prog (.func (.func 112) [] []) [.agg x.cells,.yld 0] (obA k n s a 4 (strC o)) fun r ob => r = .bool true /\ ob = oA k n s a o x.vs
theorem vN_at (k n : Int) (s : List UInt8) (a : List (List D)) (l : List Tm) (hl : l.length <= 281474976710656) (HN : ∀ x ∈ l,VisN k n s a x) (HA : ∀ x ∈ l,VisA k n s a x) : ∀ (m i : Nat) (g : List (List UInt8)),l.length - i = m -> i <= l.length -> g.length + (Tm.vsL (l.drop i)).length <= 1073741824 →
  At Tryz.prog 4 (cut sc112 0) (hdVi (Tm.cellsL l) l.length i (oN k n s a g)) (FinQ false 4 rs112 fun r ob => r = .bool true /\ ob = oN k n s a (g ++ Tm.vsL (l.drop i))) := by
 intro m
 induction m with
 | zero =>
  intro i g hm hi _
  rw [List.drop_eq_nil_of_le (by omega)]
  simp only [Tm.vsL,List.append_nil]
  cases g with
  | nil =>
   refine At.tree (ctr_ok libT_ok (asmY_ok (.bool true) true [])) (HVN_eq (Tm.cellsL l) l.length i 0 0 [] [] k n s a true []) ?_
   unfold HVN
   rw [ok_br]
   refine ⟨fun h => ?_,fun _ => ?_⟩
   ·have := of_decide_eq_true h; omega
   ·rw [ok_ret]; exact ⟨rfl,rfl⟩
  | cons c r =>
   refine At.tree (ctr_ok libT_ok (asmY_ok (.bool true) true [])) (HVM_eq (Tm.cellsL l) l.length i 0 0 [] [] k n s a (strC (c :: r)) true []) ?_
   unfold HVM
   rw [ok_br]
   refine ⟨fun h => ?_,fun _ => ?_⟩
   ·have := of_decide_eq_true h; omega
   ·rw [ok_ret]; exact ⟨rfl,rfl⟩
 | succ m ih =>
  intro i g hm hi hg
  have h1 : i < l.length := by omega
  have hx : (Tm.cellsL l)[i]? = some l[i].cells := by rw [cellsL_map]; simp [h1]
  have hN := HN _ (List.getElem_mem h1)
  have hA := HA _ (List.getElem_mem h1)
  have hd : l.drop i = l[i] :: l.drop (i + 1) := List.drop_eq_getElem_cons h1
  rw [hd] at hg ⊢
  simp only [Tm.vsL,List.length_append] at hg ⊢
  have hI := ih (i + 1) (g ++ Tm.vs l[i]) (by omega) (by omega) (by rw [List.length_append]; omega)
  rw [<- List.append_assoc]
  unfold VisN at hN
  have hA := hA g (by omega)
  generalize Tm.vs l[i] = v at hN hA hI hg ⊢
  generalize l[i] = x at hx hN hA
  obtain ⟨kx,nx,sx,ax⟩ := x
  cases g with
  | nil =>
   rw [List.nil_append] at hI ⊢
   refine At.tree (ctr_ok libT_ok (asmY_ok (.bool true) v.isEmpty (strC v))) (HVN_eq (Tm.cellsL l) l.length i kx nx sx (Tm.cellsL ax) k n s a v.isEmpty (strC v)) ?_
   unfold HVN
   rw [ok_br]
   refine ⟨fun _ => ?_,fun h => ?_⟩
   ·rw [ok_owe,Int.toNat_natCast]
    refine ⟨⟨by omega,hx⟩, ?_⟩
    cases v with
    | nil =>
     rw [show List.isEmpty ([] : List (List UInt8)) = true from rfl,ok_true,ok_owe,ok_owe,ok_jmp]
     exact ⟨hN,by omega,hI⟩
    | cons c r =>
     rw [show List.isEmpty (c :: r) = false from rfl,ok_false,ok_owe,ok_owe,ok_jmp]
     exact ⟨hN,by omega,hI⟩
   ·have := of_decide_eq_false h; omega
  | cons c0 r0 =>
   refine At.tree (ctr_ok libT_ok (asmY_ok (.bool true) v.isEmpty (strC v))) (HVM_eq (Tm.cellsL l) l.length i kx nx sx (Tm.cellsL ax) k n s a (strC (c0 :: r0)) v.isEmpty (strC v)) ?_
   unfold HVM
   rw [ok_br]
   refine ⟨fun _ => ?_,fun h => ?_⟩
   ·rw [ok_owe,Int.toNat_natCast]
    refine ⟨⟨by omega,hx⟩, ?_⟩
    cases v with
    | nil =>
     rw [List.append_nil] at hI ⊢
     rw [show List.isEmpty ([] : List (List UInt8)) = true from rfl,ok_true,ok_owe,ok_owe,ok_jmp]
     exact ⟨hA,by omega,hI⟩
    | cons c r =>
     rw [show List.isEmpty (c :: r) = false from rfl,ok_false,ok_owe,ok_owe,ok_jmp]
     simp only [oA,strC_app] at hA
     have e : oN k n s a (c0 :: r0 ++ c :: r) = obA k n s a 4 (strC (c0 :: r0) ++ strC (c :: r)) := by rw [<- strC_app]; rfl
     rw [e] at hI
     exact ⟨hA,by omega,hI⟩
   ·have := of_decide_eq_false h; omega
theorem vA_at (k n : Int) (s : List UInt8) (a : List (List D)) (l : List Tm) (hl : l.length <= 281474976710656) (o : List (List UInt8)) (HA : ∀ x ∈ l,VisA k n s a x) : ∀ (m i : Nat) (g : List (List UInt8)),l.length - i = m -> i <= l.length -> o.length + (g.length + (Tm.vsL (l.drop i)).length) <= 1073741824 →
  At Tryz.prog 5 (cut sc112 0) (hdVi (Tm.cellsL l) l.length i (oA k n s a o g)) (FinQ false 5 rs112 fun r ob => r = .bool true /\ ob = oA k n s a o (g ++ Tm.vsL (l.drop i))) := by
 intro m
 induction m with
 | zero =>
  intro i g hm hi _
  rw [List.drop_eq_nil_of_le (by omega)]
  simp only [Tm.vsL,List.append_nil]
  cases g with
  | nil =>
   refine At.tree (ctr_ok libT_ok (asmY_ok (.bool true) true [])) (HVA_eq (Tm.cellsL l) l.length i 0 0 [] [] k n s a (strC o) true []) ?_
   unfold HVA
   rw [ok_br]
   refine ⟨fun h => ?_,fun _ => ?_⟩
   ·have := of_decide_eq_true h; omega
   ·rw [ok_ret]; exact ⟨rfl,rfl⟩
  | cons c r =>
   refine At.tree (ctr_ok libT_ok (asmY_ok (.bool true) true [])) (HVB_eq (Tm.cellsL l) l.length i 0 0 [] [] k n s a (strC (o ++ c :: r)) true []) ?_
   unfold HVB
   rw [ok_br]
   refine ⟨fun h => ?_,fun _ => ?_⟩
   ·have := of_decide_eq_true h; omega
   ·rw [ok_ret]; exact ⟨rfl,rfl⟩
 | succ m ih =>
  intro i g hm hi hg
  have h1 : i < l.length := by omega
  have hx : (Tm.cellsL l)[i]? = some l[i].cells := by rw [cellsL_map]; simp [h1]
  have hA := HA _ (List.getElem_mem h1)
  have hd : l.drop i = l[i] :: l.drop (i + 1) := List.drop_eq_getElem_cons h1
  rw [hd] at hg ⊢
  simp only [Tm.vsL,List.length_append] at hg ⊢
  have hI := ih (i + 1) (g ++ Tm.vs l[i]) (by omega) (by omega) (by rw [List.length_append]; omega)
  rw [<- List.append_assoc]
  have hA := hA (o ++ g) (by rw [List.length_append]; omega)
  generalize Tm.vs l[i] = v at hA hI hg ⊢
  generalize l[i] = x at hx hA
  obtain ⟨kx,nx,sx,ax⟩ := x
  cases g with
  | nil =>
   rw [List.append_nil] at hA
   rw [List.nil_append] at hI ⊢
   refine At.tree (ctr_ok libT_ok (asmY_ok (.bool true) v.isEmpty (strC v))) (HVA_eq (Tm.cellsL l) l.length i kx nx sx (Tm.cellsL ax) k n s a (strC o) v.isEmpty (strC v)) ?_
   unfold HVA
   rw [ok_br]
   refine ⟨fun _ => ?_,fun h => ?_⟩
   ·rw [ok_owe,Int.toNat_natCast]
    refine ⟨⟨by omega,hx⟩, ?_⟩
    cases v with
    | nil =>
     rw [show List.isEmpty ([] : List (List UInt8)) = true from rfl,ok_true,ok_owe,ok_owe,ok_jmp]
     exact ⟨hA,by omega,hI⟩
    | cons c r =>
     rw [show List.isEmpty (c :: r) = false from rfl,ok_false,ok_owe,ok_owe,ok_jmp]
     simp only [oA,strC_app] at hA
     have e : oA k n s a o (c :: r) = obA k n s a 5 (strC o ++ strC (c :: r)) := by rw [<- strC_app]; rfl
     rw [e] at hI
     exact ⟨hA,by omega,hI⟩
   ·have := of_decide_eq_false h; omega
  | cons c0 r0 =>
   refine At.tree (ctr_ok libT_ok (asmY_ok (.bool true) v.isEmpty (strC v))) (HVB_eq (Tm.cellsL l) l.length i kx nx sx (Tm.cellsL ax) k n s a (strC (o ++ c0 :: r0)) v.isEmpty (strC v)) ?_
   unfold HVB
   rw [ok_br]
   refine ⟨fun _ => ?_,fun h => ?_⟩
   ·rw [ok_owe,Int.toNat_natCast]
    refine ⟨⟨by omega,hx⟩, ?_⟩
    cases v with
    | nil =>
     rw [List.append_nil] at hI ⊢
     rw [show List.isEmpty ([] : List (List UInt8)) = true from rfl,ok_true,ok_owe,ok_owe,ok_jmp]
     exact ⟨hA,by omega,hI⟩
    | cons c r =>
     rw [show List.isEmpty (c :: r) = false from rfl,ok_false,ok_owe,ok_owe,ok_jmp]
     have e0 : oA k n s a (o ++ c0 :: r0) (c :: r) = obA k n s a 5 (strC (o ++ c0 :: r0) ++ strC (c :: r)) := by rw [<- strC_app]; rfl
     rw [e0] at hA
     have e : oA k n s a o (c0 :: r0 ++ c :: r) = obA k n s a 5 (strC (o ++ c0 :: r0) ++ strC (c :: r)) := by rw [<- strC_app,List.append_assoc]; rfl
     rw [e] at hI
     exact ⟨hA,by omega,hI⟩
   ·have := of_decide_eq_false h; omega
theorem vis_both (k n : Int) (s : List UInt8) (a : List (List D)) : ∀ x : Tm,x.wf 281474976710656 -> x.vs.length <= 1073741824 -> VisN k n s a x /\ VisA k n s a x
 | .mk kx nx sx l,hx,hv => by
  have hy := yldN_ok k n s a (.mk kx nx sx l)
  have hyA := yldA_ok k n s a (.mk kx nx sx l)
  simp only [Tm.wf] at hx
  obtain ⟨hk,hn1,hn2,hs,hl,hw⟩ := hx
  simp only [Tm.vs,List.length_append] at hv
  have IH : ∀ y ∈ l,VisN k n s a y /\ VisA k n s a y := fun y hy => vis_both k n s a y (wfL_all.1 hw y hy) (by have := vsL_mem hy; omega)
  have hN := vN_at k n s a l hl (fun y hy => (IH y hy).1) (fun y hy => (IH y hy).2) _ 0 (Tm.v1 (.mk kx nx sx l)) rfl (Nat.zero_le _) hv
  have hA := fun o => vA_at k n s a l hl o (fun y hy => (IH y hy).2) _ 0 (Tm.v1 (.mk kx nx sx l)) rfl (Nat.zero_le _)
  unfold VisN VisA
  simp only [Tm.vs,List.length_append]
  generalize Tm.v1 (.mk kx nx sx l) = v at *
  constructor
  ·refine CallL.tree hdraw fp112 (ctr_ok libT_ok (asmY_ok (.bool true) v.isEmpty (strC v))) (CVsN_eq kx nx sx (Tm.cellsL l) k n s a v.isEmpty (strC v)) ?_
   unfold CVsN
   rw [cellsL_length]
   cases v with
   | nil =>
    rw [show List.isEmpty ([] : List (List UInt8)) = true from rfl,ok_true,ok_owe,ok_jmp]
    exact ⟨hy,hN⟩
   | cons c r =>
    rw [show List.isEmpty (c :: r) = false from rfl,ok_false,ok_owe,ok_jmp]
    exact ⟨hy,hN⟩
  ·intro o ho
   have hy := hyA o (by omega)
   have hA := hA o ho
   refine CallL.tree hdraw fp112 (ctr_ok libT_ok (asmY_ok (.bool true) v.isEmpty (strC v))) (CVsA_eq kx nx sx (Tm.cellsL l) k n s a (strC o) v.isEmpty (strC v)) ?_
   unfold CVsA
   rw [cellsL_length]
   cases v with
   | nil =>
    rw [show List.isEmpty ([] : List (List UInt8)) = true from rfl,ok_true,ok_owe,ok_jmp]
    exact ⟨hy,hA⟩
   | cons c r =>
    rw [show List.isEmpty (c :: r) = false from rfl,ok_false,ok_owe,ok_jmp]
    have e : oA k n s a o (c :: r) = obA k n s a 5 (strC o ++ strC (c :: r)) := by rw [<- strC_app]; rfl
    rw [e] at hy hA
    exact ⟨hy,hA⟩
termination_by x => SizeOf.sizeOf x
decreasing_by
 have := List.sizeOf_lt_of_mem hy
 simp only [Tm.mk.sizeOf_spec]
 omega
theorem iter_ok (x : Tm) (hx : x.wf 281474976710656) (hv : x.vs.length <= 1073741824) (k n : Int) (s : List UInt8) (a : List (List D)) (e : tC k n s a = x.cells) :
  CallL Tryz.prog (.func (.func 111) [] [.ptr 0 0]) [.yld 1] (obS k n s a) fun r ob => r = .tuple [] /\ ob = match x.vs.isEmpty with
   | true => obS k n s a
   | false => addO (strC x.vs) (obS k n s a) := by
 have hV := (vis_both k n s a x hx hv).1
 unfold VisN at hV
 rw [<- e] at hV
 generalize x.vs = v at hV ⊢
 refine CallL.tree hdraw fp111 (ctr_ok libT_ok (asmY_ok (.bool true) v.isEmpty (strC v))) (CVsS_eq k n s a v.isEmpty (strC v)) ?_
 unfold CVsS
 cases v with
 | nil =>
  rw [show List.isEmpty ([] : List (List UInt8)) = true from rfl,ok_true,ok_owe,ok_ret]
  exact ⟨hV,rfl,rfl⟩
 | cons c r =>
  rw [show List.isEmpty (c :: r) = false from rfl,ok_false,ok_owe,ok_ret]
  exact ⟨hV,rfl,rfl⟩
theorem vars0_ok (x : Tm) (hx : x.wf 281474976710656) (hv : x.vs.length <= 1073741824) : FnOK Tryz.prog 60 [.agg x.cells] (if x.vs.isEmpty = true then .slice [] [] else .own 1 9 (strC (Lib.compact (srt x.vs)))) := by
 obtain ⟨k,n,s,l⟩ := x
 have hI := iter_ok (.mk k n s l) hx hv k n s (Tm.cellsL l) rfl
 generalize Tm.vs (.mk k n s l) = v at hI hv ⊢
 refine FnOK.tree hdraw fpV (ctr_ok libT_ok (QT.or_ok (QT.or_ok subQ_ok (asmY_ok (.tuple []) v.isEmpty (strC v))) (asmS_ok (strC (srt v)) (strC (Lib.compact (srt v)))))) (CVs_eq k n s (Tm.cellsL l) v.isEmpty (strC v) (strC (srt v)) (strC (Lib.compact (srt v)))) ?_
 unfold CVs
 rw [ok_owe]
 refine ⟨trivial, ?_⟩
 cases v with
 | nil =>
  rw [show List.isEmpty ([] : List (List UInt8)) = true from rfl,ok_true,ok_owe,ok_owe,ok_owe,ok_ret]
  exact ⟨hI,CallL.sortN fp57.2 fun p cap w => Tryz.slices_Sort_string_none p cap w,CallL.compactN fp78.2 fun p cap w => Tryz.slices_Compact_string_empty p cap w,rfl⟩
 | cons c r =>
  rw [show List.isEmpty (c :: r) = false from rfl,ok_false,ok_owe,ok_owe,ok_owe,ok_ret]
  have hs : (srt (c :: r)).length = (c :: r).length := by unfold srt; simp
  refine ⟨hI,CallL.sortS fp57.2 (fun blk cap ss w h1 h2 h3 => Tryz.slices_Sort_string blk 0 cap ss w h1 h2 h3) _ _ (by simp) (by omega),CallL.compactS fp78.2 (fun blk cap zs w h1 h2 h3 => Tryz.slices_Compact_string blk 0 cap zs w h1 h2 h3) _ _ (fun e => by rw [e] at hs; simp at hs) (by omega),rfl⟩
theorem vars_ok (x : Tm) (hx : x.wf 281474976710656) (hv : x.vs.length <= 1073741824) : FnOK Tryz.prog 60 [.agg x.cells] (.slice (strC x.W) []) := by
 have h := vars0_ok x hx hv
 rw [<- V_eq]
 cases hq : x.vs with
 | nil =>
  rw [hq] at h
  rw [show x.V = [] from V_nil.2 hq]
  exact h
 | cons c r =>
  rw [show x.vs.isEmpty = false by rw [hq]; rfl,if_neg (by decide)] at h
  exact h.freezeS (fun e => by have := V_nil.1 e; rw [hq] at this; cases this)
end Go.Proofs.YtiafmjolbacdaaaGreat
