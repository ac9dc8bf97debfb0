/- Own work: a layer over the kit: plain data,a walk over it,its soundness. -/
import Derived.Test.YtiafmjolbacdaaaGreatSpA
import Derived.Test.YtiafmjolbacdaaaGreatSbC
import Derived.Test.YtiafmjolbacdaaaGreatSx9
set_option linter.unusedSectionVars false
set_option linter.unusedVariables false
set_option linter.unusedSimpArgs false
set_option linter.deprecated false
set_option maxRecDepth 100000
/- The reference model: all,outer,binds,missing,Bound,proved. -/
namespace Go.Proofs.YtiafmjolbacdaaaGreat
open Go.Sx Go.RowKit
theorem allM_take {l : List Lt} (hf : fewC 400 l) (i : Nat) : (allM (l.take i)).length <= 400 := by
 have e : allM l = allM (l.take i) ++ allM (l.drop i) := by rw [<- allM_app,List.take_append_drop]
 have h1 := allM_len l
 have h2 := hf.2.2.2
 rw [e,List.length_append] at h1
 omega
theorem rall_own (l : List Lt) (hw : ∀ x ∈ l,x.wf 281474976710656) (hf : fewC 400 l) : FnOK Tryz.prog 49 [.slice (ltL l) []] (.own 1 9 (strC (allM l))) := by
 have hl := hf.1
 have at_ : ∀ (m i : Nat),l.length - i = m -> i <= l.length →
   At Tryz.prog 0 (cut sc49 0) (hdAl (ltL l) (strC (allM (l.take i))) i) (FinQ true 0 rs49 fun r _ => r = .own 1 9 (strC (allM l))) := by
  intro m
  induction m with
  | zero =>
   intro i hm hi
   refine At.tree (dCtr_ok qnone_ok) (RAl2_eq (ltL l) (strC (allM (l.take i))) [] [] i 0 true [] [] 0 0 0 [] [] 0 0 [] []) ?_
   unfold RAl2
   rw [List.take_of_length_le (by omega : l.length <= i)]
   simp only [SS,ltL_len]
   exact ⟨fun h => by omega,fun _ => trivial⟩
  | succ m ih =>
   intro i hm hi
   have h1 : i < l.length := by omega
   have hI := ih (i + 1) (by omega) (by omega)
   have hg := ltL_get h1
   have e : allM (l.take (i + 1)) = allM (l.take i) ++ sortD (Tm.vsL l[i].a) ++ sortD (Tm.vsL [l[i].l,l[i].r]) := by
    rw [List.take_add_one,List.getElem?_eq_getElem h1,allM_app]
    simp [allM]
   have hz := allM_take hf (i + 1)
   rw [e,List.length_append,List.length_append] at hz
   rw [e,strC_app',strC_app'] at hI
   obtain ⟨_,_,w1,w2,_,w3,w4⟩ := hw _ (List.getElem_mem h1)
   obtain ⟨f1,f2,f3⟩ := hf.2.1 _ (List.getElem_mem h1)
   have hv1 := FnOK.freezeG (rvars_ok l[i].a w1 w2 (by omega))
   have hv2 := FnOK.freezeG (rvars_ok [l[i].l,l[i].r] (by simp) ⟨w3,w4,trivial⟩ (by simp only [Tm.vsL,List.length_append,List.length_nil]; omega))
   have q1 := alS (sortD (Tm.vsL l[i].a))
   have q2 := alS (sortD (Tm.vsL [l[i].l,l[i].r]))
   generalize sortD (Tm.vsL [l[i].l,l[i].r]) = v2 at hI hz hv2 q2
   generalize sortD (Tm.vsL l[i].a) = v1 at hI hz hv1 q1
   generalize allM (l.take i) = R at hI hz ⊢
   generalize l[i] = x at hg hv1 hv2
   obtain ⟨k,no,p,a,op,⟨kx,nx,sx,ax⟩,⟨ky,ny,sy,ay⟩⟩ := x
   refine At.tree (dCtr_ok qnone_ok) (RAl2_eq (ltL l) (strC R) (strC v1) (strC v2) i k no p (Tm.cellsL a) op kx nx sx (Tm.cellsL ax) ky ny sy (Tm.cellsL ay)) ?_
   unfold RAl2
   simp only [SS,ltL_len,strC_len,List.length_append]
   exact ⟨fun _ => ⟨⟨by omega,hg⟩,hv1,⟨q1,by omega⟩,⟨by omega,hg⟩,⟨by omega,hg⟩,hv2,⟨q2,by omega⟩,by omega,hI⟩,fun h => by omega⟩
 refine FnOK.tree hdraw fp49 (dCtr_ok qnone_ok) (RAl_eq (ltL l)) ?_
 unfold RAl
 rw [ok_jmp]
 exact at_ _ 0 rfl (Nat.zero_le _)
theorem rall_ok (l : List Lt) (hw : ∀ x ∈ l,x.wf 281474976710656) (hf : fewC 400 l) : FnOK Tryz.prog 49 [.slice (ltL l) []] (.slice (strC (allM l)) []) := FnOK.freezeG (rall_own l hw hf)
theorem ro_at (k n : Int) (s : Nm) (l : List Tm) (h5 : ¬ k = 5) (h6 : ¬ k = 6) (P : List Nm) (hl : l.length <= 281474976710656) (hP : (P ++ Tm.ovL l).length <= 1073741824) (H : ∀ x ∈ l,FnOK Tryz.prog 79 [.agg x.cells] (.slice (strC x.ov) [])) : ∀ (m i : Nat),l.length - i = m -> i <= l.length →
  At Tryz.prog 0 (cut sc79 0) (hdN k n s (Tm.cellsL l) (strC (P ++ Tm.ovL (l.take i))) i) (FinQ true 0 rs79 fun r _ => r = .own 1 9 (strC (P ++ Tm.ovL l))) := by
 intro m
 induction m with
 | zero =>
  intro i hm hi
  refine At.tree (dCtr_ok qnone_ok) (ROu2_eq k n s (Tm.cellsL l) (strC (P ++ Tm.ovL (l.take i))) [] i 0 0 [] []) ?_
  unfold ROu2
  rw [List.take_of_length_le (show l.length <= i by omega)]
  simp only [SS,cellsL_length]
  exact ⟨fun h => by omega,fun _ => trivial⟩
 | succ m ih =>
  intro i hm hi
  have h1 : i < l.length := by omega
  have hI := ih (i + 1) (by omega) (by omega)
  have hg := cellsL_get h1
  have hC := H _ (List.getElem_mem h1)
  have e : Tm.ovL (l.take (i + 1)) = Tm.ovL (l.take i) ++ l[i].ov := by
   rw [List.take_add_one,List.getElem?_eq_getElem h1,ovL_app]
   simp [Tm.ovL]
  have hz : (P ++ Tm.ovL (l.take i)).length + l[i].ov.length <= 1073741824 := by
   have e2 : Tm.ovL l = Tm.ovL (l.take (i + 1)) ++ Tm.ovL (l.drop (i + 1)) := by rw [<- ovL_app,List.take_append_drop]
   rw [e2,e] at hP
   simp only [List.length_append] at hP ⊢
   omega
  rw [e,<- List.append_assoc,strC_app'] at hI
  generalize P ++ Tm.ovL (l.take i) = R at hI hz ⊢
  have al := alS l[i].ov
  generalize l[i].ov = v at hI hC hz al
  generalize l[i] = x at hg hC
  obtain ⟨kx,nx,sx,ax⟩ := x
  refine At.tree (dCtr_ok qnone_ok) (ROu2_eq k n s (Tm.cellsL l) (strC R) (strC v) i kx nx sx (Tm.cellsL ax)) ?_
  unfold ROu2
  simp only [SS,cellsL_length,strC_len]
  exact ⟨fun _ => ⟨fun _ => ⟨fun _ => ⟨⟨by omega,hg⟩,hC,⟨al,hz⟩,by omega,hI⟩,fun h => absurd h h6⟩,fun h => absurd h h5⟩,fun h => by omega⟩
theorem router_ok : ∀ (x : Tm),x.wf 281474976710656 -> x.vs.length <= 1073741824 -> FnOK Tryz.prog 79 [.agg x.cells] (.slice (strC x.ov) [])
 | .mk k n s l,hx,hv => by
  have hov := ov_len (.mk k n s l)
  simp only [Tm.wf] at hx
  obtain ⟨hk,hn1,hn2,hs,hl,hw⟩ := hx
  have H : ∀ y ∈ l,FnOK Tryz.prog 79 [.agg y.cells] (.slice (strC y.ov) []) := fun y hy => router_ok y (wf_get hw hy) (by
   have := vsL_mem hy
   simp only [Tm.vs,List.length_append] at hv
   omega)
  refine FnOK.freezeT (ty := 9) (FnOK.tree hdraw fp79 (dCtr_ok qnone_ok) (ROu_eq k n s (Tm.cellsL l)) ?_)
  unfold ROu
  by_cases h56 : k = 5 \/ k = 6
  ·have e : Tm.ov (.mk k n s l) = [] := by simp only [Tm.ov]; rw [if_pos h56]
   rw [e]
   simp only [SS]
   refine ⟨fun h => by omega,fun _ => ?_⟩
   refine At.tree (dCtr_ok qnone_ok) (ROu2_eq k n s (Tm.cellsL l) [] [] 0 0 0 [] []) ?_
   unfold ROu2
   simp only [SS,cellsL_length]
   refine ⟨fun _ => ⟨fun g5 => ⟨fun g6 => ?_,fun _ => rfl⟩,fun _ => rfl⟩,fun _ => rfl⟩
   omega
  ·have h5 : ¬ (k : Int) = 5 := fun h => h56 (.inl (by omega))
   have h6 : ¬ (k : Int) = 6 := fun h => h56 (.inr (by omega))
   have e0 : Tm.ov (.mk k n s l) = if k = 3 then s :: Tm.ovL l else Tm.ovL l := by simp only [Tm.ov]; rw [if_neg h56]
   rw [e0] at hov ⊢
   by_cases h3 : k = 3
   ·rw [if_pos h3] at hov ⊢
    have hA := ro_at k n s l h5 h6 [s] hl (Nat.le_trans hov hv) H _ 0 rfl (Nat.zero_le _)
    simp only [SS]
    refine ⟨fun _ => ⟨⟨alS [s],by omega⟩,hA⟩,fun h => by omega⟩
   ·rw [if_neg h3] at hov ⊢
    have hA := ro_at k n s l h5 h6 [] hl (Nat.le_trans hov hv) H _ 0 rfl (Nat.zero_le _)
    simp only [SS]
    exact ⟨fun h => by omega,fun _ => hA⟩
termination_by x => SizeOf.sizeOf x
decreasing_by
 have := List.sizeOf_lt_of_mem hy
 simp only [Tm.mk.sizeOf_spec]
 omega

theorem rb2A (s : List Nm) (hs : s.length <= 281474976710656) (rw : List (List D)) (hr : rw.length <= 1000) (x1 : Nat) (x2 : Int) (x3 : Nm) (x4 : List Tm) (y1 : Nat) (y2 : Int) (y3 : Nm) (y4 : List Tm) (v : List Nm) (hv : v.length <= 281474976710656) (R : D -> Obs -> Prop) : ∀ (m i : Nat) (kn : Bool),v.length - i = m -> i <= v.length →
  At Tryz.prog 0 (cut sc63 1) (hdBj (strC s) (if (kn && (v.drop i).all fun z => decide (z ∈ s)) = true then rw ++ [[.str x3]] else rw) (tC x1 x2 x3 (Tm.cellsL x4)) (tC y1 y2 y3 (Tm.cellsL y4)) 1) (FinQ true 0 rs63 R) →
  At Tryz.prog 0 (cut sc63 2) (hdBk (strC s) rw (tC x1 x2 x3 (Tm.cellsL x4)) (tC y1 y2 y3 (Tm.cellsL y4)) 0 kn (strC v) i) (FinQ true 0 rs63 R) := by
 intro m
 induction m with
 | zero =>
  intro i kn hm hi K
  rw [List.drop_eq_nil_of_le (by omega : v.length <= i),List.all_nil,Bool.and_true] at K
  refine At.tree (dCtr_ok qnone_ok) (RBi2A_eq (strC s) rw (strC v) kn i x1 x2 x3 (Tm.cellsL x4) y1 y2 y3 (Tm.cellsL y4) [] true) ?_
  unfold RBi2A
  simp only [SS,strC_len]
  refine ⟨fun h => by omega,fun _ => ⟨fun h => ?_,fun h => ?_⟩⟩
  ·rw [if_pos h] at K
   exact ⟨by omega,⟨alS [x3],by omega⟩,by omega,K⟩
  ·rw [if_neg (by rw [h]; exact Bool.false_ne_true)] at K
   exact ⟨by omega,K⟩
 | succ m ih =>
  intro i kn hm hi K
  have h1 : i < v.length := by omega
  have hg := strC_gt h1
  have hh := rhas_ok s v[i] hs
  rw [drop_cons h1,List.all_cons] at K
  refine At.tree (dCtr_ok qnone_ok) (RBi2A_eq (strC s) rw (strC v) kn i x1 x2 x3 (Tm.cellsL x4) y1 y2 y3 (Tm.cellsL y4) v[i] (decide (v[i] ∈ s))) ?_
  unfold RBi2A
  simp only [SS,strC_len]
  refine ⟨fun _ => ⟨fun h => ?_,fun h => ?_⟩,fun h => by omega⟩
  ·subst h
   refine ⟨⟨by omega,hg⟩,hh,by omega,ih (i + 1) _ (by omega) (by omega) ?_⟩
   rw [Bool.true_and] at K
   exact K
  ·subst h
   refine ⟨by omega,ih (i + 1) false (by omega) (by omega) ?_⟩
   rw [Bool.false_and] at K ⊢
   exact K

theorem rb2B (s : List Nm) (hs : s.length <= 281474976710656) (rw : List (List D)) (hr : rw.length <= 1000) (x1 : Nat) (x2 : Int) (x3 : Nm) (x4 : List Tm) (y1 : Nat) (y2 : Int) (y3 : Nm) (y4 : List Tm) (v : List Nm) (hv : v.length <= 281474976710656) (R : D -> Obs -> Prop) : ∀ (m i : Nat) (kn : Bool),v.length - i = m -> i <= v.length →
  At Tryz.prog 0 (cut sc63 1) (hdBj (strC s) (if (kn && (v.drop i).all fun z => decide (z ∈ s)) = true then rw ++ [[.str y3]] else rw) (tC x1 x2 x3 (Tm.cellsL x4)) (tC y1 y2 y3 (Tm.cellsL y4)) 2) (FinQ true 0 rs63 R) →
  At Tryz.prog 0 (cut sc63 2) (hdBk (strC s) rw (tC x1 x2 x3 (Tm.cellsL x4)) (tC y1 y2 y3 (Tm.cellsL y4)) 1 kn (strC v) i) (FinQ true 0 rs63 R) := by
 intro m
 induction m with
 | zero =>
  intro i kn hm hi K
  rw [List.drop_eq_nil_of_le (by omega : v.length <= i),List.all_nil,Bool.and_true] at K
  refine At.tree (dCtr_ok qnone_ok) (RBi2B_eq (strC s) rw (strC v) kn i x1 x2 x3 (Tm.cellsL x4) y1 y2 y3 (Tm.cellsL y4) [] true) ?_
  unfold RBi2B
  simp only [SS,strC_len]
  refine ⟨fun h => by omega,fun _ => ⟨fun h => ?_,fun h => ?_⟩⟩
  ·rw [if_pos h] at K
   exact ⟨by omega,⟨alS [y3],by omega⟩,by omega,K⟩
  ·rw [if_neg (by rw [h]; exact Bool.false_ne_true)] at K
   exact ⟨by omega,K⟩
 | succ m ih =>
  intro i kn hm hi K
  have h1 : i < v.length := by omega
  have hg := strC_gt h1
  have hh := rhas_ok s v[i] hs
  rw [drop_cons h1,List.all_cons] at K
  refine At.tree (dCtr_ok qnone_ok) (RBi2B_eq (strC s) rw (strC v) kn i x1 x2 x3 (Tm.cellsL x4) y1 y2 y3 (Tm.cellsL y4) v[i] (decide (v[i] ∈ s))) ?_
  unfold RBi2B
  simp only [SS,strC_len]
  refine ⟨fun _ => ⟨fun h => ?_,fun h => ?_⟩,fun h => by omega⟩
  ·subst h
   refine ⟨⟨by omega,hg⟩,hh,by omega,ih (i + 1) _ (by omega) (by omega) ?_⟩
   rw [Bool.true_and] at K
   exact K
  ·subst h
   refine ⟨by omega,ih (i + 1) false (by omega) (by omega) ?_⟩
   rw [Bool.false_and] at K ⊢
   exact K

theorem rb1_at (x : Lt) (hx : x.wf 281474976710656) (hf : x.few 400) (h1k : x.k = 1) (s : List Nm) : ∀ (m i : Nat),x.a.length - i = m -> i <= x.a.length →
  At Tryz.prog 0 (cut sc63 0) (hdBi x.c (strC s) (strC (Tm.ovL (x.a.take i))) i) (FinQ true 0 rs63 fun r _ => r = .own 1 9 (strC (Tm.ovL x.a))) := by
 obtain ⟨k,no,p,a,op,⟨kx,nx,sx,ax⟩,⟨ky,ny,sy,ay⟩⟩ := x
 obtain ⟨_,_,w1,w2,_,w3,w4⟩ := hx
 obtain ⟨f1,f2,f3⟩ := hf
 simp only at h1k w1 w2 f1 ⊢
 intro m
 induction m with
 | zero =>
  intro i hm hi
  refine At.tree (dCtr_ok qnone_ok) (RBi0_eq k no p (Tm.cellsL a) op kx nx sx (Tm.cellsL ax) ky ny sy (Tm.cellsL ay) (strC s) (strC (Tm.ovL (a.take i))) [] i 0 0 [] []) ?_
  unfold RBi0
  rw [List.take_of_length_le (show a.length <= i by omega)]
  simp only [SS,cellsL_length]
  refine ⟨fun h => by omega,fun _ => ⟨fun h => by omega,fun _ => trivial⟩⟩
 | succ m ih =>
  intro i hm hi
  have h1 : i < a.length := by omega
  have hI := ih (i + 1) (by omega) (by omega)
  have hg := cellsL_get h1
  have hC := router_ok a[i] (wf_get w2 (List.getElem_mem h1)) (by have := vsL_mem (List.getElem_mem h1); omega)
  have e : Tm.ovL (a.take (i + 1)) = Tm.ovL (a.take i) ++ a[i].ov := by
   rw [List.take_add_one,List.getElem?_eq_getElem h1,ovL_app]
   simp [Tm.ovL]
  have hz : (Tm.ovL (a.take i)).length + a[i].ov.length <= 1073741824 := by
   have e2 : Tm.ovL a = Tm.ovL (a.take (i + 1)) ++ Tm.ovL (a.drop (i + 1)) := by rw [<- ovL_app,List.take_append_drop]
   have h3 := ovL_len a
   rw [e2,e] at h3
   simp only [List.length_append] at h3
   omega
  rw [e,strC_app'] at hI
  generalize Tm.ovL (a.take i) = R at hI hz ⊢
  have al := alS a[i].ov
  generalize a[i].ov = v at hI hC hz al
  generalize a[i] = z at hg hC
  obtain ⟨ke,ne,se,ae⟩ := z
  refine At.tree (dCtr_ok qnone_ok) (RBi0_eq k no p (Tm.cellsL a) op kx nx sx (Tm.cellsL ax) ky ny sy (Tm.cellsL ay) (strC s) (strC R) (strC v) i ke ne se (Tm.cellsL ae)) ?_
  unfold RBi0
  simp only [SS,cellsL_length,strC_len]
  exact ⟨fun _ => ⟨⟨by omega,hg⟩,hC,⟨al,hz⟩,by omega,hI⟩,fun h => by omega⟩
theorem rbinds_ok (s : List Nm) (hs : s.length <= 281474976710656) (x : Lt) (hx : x.wf 281474976710656) (hf : x.few 400) : FnOK Tryz.prog 63 [.agg x.c,.slice (strC s) []] (.slice (strC (bindsM s x)) []) := by
 have hA := rb1_at x hx hf
 obtain ⟨k,no,p,a,op,⟨kx,nx,sx,ax⟩,⟨ky,ny,sy,ay⟩⟩ := x
 obtain ⟨_,_,w1,w2,_,w3,w4⟩ := hx
 obtain ⟨f1,f2,f3⟩ := hf
 simp only at hA f1 f2 f3
 refine FnOK.freezeT (ty := 9) (FnOK.tree hdraw fp63 (dCtr_ok qnone_ok) (RBi_eq k no p (Tm.cellsL a) op kx nx sx (Tm.cellsL ax) ky ny sy (Tm.cellsL ay) (strC s)) ?_)
 unfold RBi
 unfold bindsM
 simp only
 cases no with
 | true =>
  rw [if_pos rfl]
  simp only [SS]
  exact ⟨rfl,fun h => (by cases h)⟩
 | false =>
  rw [if_neg Bool.false_ne_true]
  simp only [SS]
  refine ⟨fun h => (by cases h),fun h => ?_,fun h => ⟨fun h2 => ⟨fun ho => ?_,fun ho => ?_⟩,fun h2 => ?_⟩⟩
  ·have hk : k = 1 := by omega
   rw [if_pos hk]
   exact hA hk s _ 0 rfl (Nat.zero_le _)
  ·have hk : ¬ k = 1 := by omega
   have hk2 : k = 2 /\ op = 1 := ⟨by omega,by omega⟩
   rw [if_neg hk,if_pos hk2]
   have hW1 := W_len (.mk kx nx sx ax)
   have hW2 := W_len (.mk ky ny sy ay)
   have hV1 := FnOK.freezeG (rVars_ok (.mk kx nx sx ax) w3 (by omega))
   have hV2 := FnOK.freezeG (rVars_ok (.mk ky ny sy ay) w4 (by omega))
   have e1 : (strC (sideM s (.mk kx nx sx ax) (.mk ky ny sy ay))) = if (decide ((kx : Int) = 3) && ((Tm.W (.mk ky ny sy ay)).drop 0).all fun z => decide (z ∈ s)) = true then [[.str sx]] else [] := by
    unfold sideM knowsS
    rw [List.drop_zero]
    by_cases h3 : kx = 3
    ·have : decide ((kx : Int) = 3) = true := decide_eq_true (by omega)
     rw [this,Bool.true_and]
     simp only [Tm.kd,h3,true_and,Tm.nm]
     split <;> rfl
    ·have : decide ((kx : Int) = 3) = false := decide_eq_false (by omega)
     rw [this,Bool.false_and]
     simp only [Tm.kd,h3,false_and,if_false]
     rfl
   have e2 : (strC (sideM s (.mk ky ny sy ay) (.mk kx nx sx ax))) = if (decide ((ky : Int) = 3) && ((Tm.W (.mk kx nx sx ax)).drop 0).all fun z => decide (z ∈ s)) = true then [[.str sy]] else [] := by
    unfold sideM knowsS
    rw [List.drop_zero]
    by_cases h3 : ky = 3
    ·have : decide ((ky : Int) = 3) = true := decide_eq_true (by omega)
     rw [this,Bool.true_and]
     simp only [Tm.kd,h3,true_and,Tm.nm]
     split <;> rfl
    ·have : decide ((ky : Int) = 3) = false := decide_eq_false (by omega)
     rw [this,Bool.false_and]
     simp only [Tm.kd,h3,false_and,if_false]
     rfl
   rw [strC_app',e1,e2]
   generalize Tm.W (.mk kx nx sx ax) = V1 at hV1 hW1
   generalize Tm.W (.mk ky ny sy ay) = V2 at hV2 hW2
   -- the end
   have K2 : ∀ rw : List (List D),At Tryz.prog 0 (cut sc63 1) (hdBj (strC s) rw (tC kx nx sx (Tm.cellsL ax)) (tC ky ny sy (Tm.cellsL ay)) 2) (FinQ true 0 rs63 fun r _ => r = .own 1 9 rw) := fun rw => by
    refine At.tree (dCtr_ok qnone_ok) (RBi1C_eq (strC s) rw kx nx sx (Tm.cellsL ax) ky ny sy (Tm.cellsL ay)) ?_
    unfold RBi1C
    rw [ok_ret]
   have K1 : ∀ rw : List (List D),rw.length <= 1000 -> At Tryz.prog 0 (cut sc63 1) (hdBj (strC s) rw (tC kx nx sx (Tm.cellsL ax)) (tC ky ny sy (Tm.cellsL ay)) 1) (FinQ true 0 rs63 fun r _ => r = .own 1 9 (rw ++ if (decide ((ky : Int) = 3) && (V1.drop 0).all fun z => decide (z ∈ s)) = true then [[.str sy]] else [])) := fun rw hr => by
    have h2 := rb2B s hs rw hr kx nx sx ax ky ny sy ay V1 (by omega) (fun r _ => r = .own 1 9 (rw ++ if (decide ((ky : Int) = 3) && (V1.drop 0).all fun z => decide (z ∈ s)) = true then [[.str sy]] else [])) _ 0 (decide ((ky : Int) = 3)) rfl (Nat.zero_le _) (by
     split
     ·exact K2 _
     ·rw [List.append_nil]; exact K2 _)
    refine At.tree (dCtr_ok qnone_ok) (RBi1B_eq (strC s) rw (strC V1) kx nx sx (Tm.cellsL ax) ky ny sy (Tm.cellsL ay)) ?_
    unfold RBi1B
    simp only [SS]
    exact ⟨by omega,by omega,by omega,hV1,h2⟩
   have K0 := rb2A s hs [] (by simp) kx nx sx ax ky ny sy ay V2 (by omega) (fun r _ => r = .own 1 9 ((if (decide ((kx : Int) = 3) && (V2.drop 0).all fun z => decide (z ∈ s)) = true then [[.str sx]] else []) ++ if (decide ((ky : Int) = 3) && (V1.drop 0).all fun z => decide (z ∈ s)) = true then [[.str sy]] else [])) _ 0 (decide ((kx : Int) = 3)) rfl (Nat.zero_le _) (by
    split
    ·exact K1 _ (by simp)
    ·exact K1 [] (by simp))
   refine At.tree (dCtr_ok qnone_ok) (RBi1A_eq (strC s) [] (strC V2) kx nx sx (Tm.cellsL ax) ky ny sy (Tm.cellsL ay)) ?_
   unfold RBi1A
   simp only [SS]
   exact ⟨by omega,by omega,by omega,hV2,K0⟩
  ·rw [if_neg (by omega),if_neg (fun h => ho (by omega))]
   rfl
  ·rw [if_neg (by omega),if_neg (fun h => h2 (by omega))]
   rfl
theorem rmiss_own (l a b : List Nm) (hl : l.length <= 1000000000) (ha : a.length <= 281474976710656) (hb : b.length <= 281474976710656) : FnOK Tryz.prog 46 [.slice (strC l) [],.slice (strC a) [],.slice (strC b) []] (.own 1 9 (strC (missM l a b))) := by
 have at_ : ∀ (m i : Nat),l.length - i = m -> i <= l.length →
   At Tryz.prog 0 (cut sc46 0) (hdMi (strC l) (strC a) (strC b) (strC (missM (l.take i) a b)) i) (FinQ true 0 rs46 fun r _ => r = .own 1 9 (strC (missM l a b))) := by
  intro m
  induction m with
  | zero =>
   intro i hm hi
   refine At.tree (dCtr_ok qnone_ok) (RMi2_eq (strC l) (strC a) (strC b) (strC (missM (l.take i) a b)) i [] true true) ?_
   unfold RMi2
   rw [List.take_of_length_le (show l.length <= i by omega)]
   simp only [SS,strC_len]
   exact ⟨fun h => by omega,fun _ => trivial⟩
  | succ m ih =>
   intro i hm hi
   have h1 : i < l.length := by omega
   have hI := ih (i + 1) (by omega) (by omega)
   have hg := strC_gt h1
   have g1 := rhas_ok a l[i] ha
   have g2 := rhas_ok b l[i] hb
   have e : missM (l.take (i + 1)) a b = missM (l.take i) a b ++ if (!decide (l[i] ∈ a) && !decide (l[i] ∈ b)) = true then [l[i]] else [] := by
    unfold missM
    rw [List.take_add_one,List.getElem?_eq_getElem h1,List.filter_append]
    simp only [Option.toList_some,List.filter_cons,List.filter_nil]
   have hz := missM_len (l.take i) a b
   rw [List.length_take] at hz
   rw [e] at hI
   generalize missM (l.take i) a b = R at hI hz ⊢
   refine At.tree (dCtr_ok qnone_ok) (RMi2_eq (strC l) (strC a) (strC b) (strC R) i l[i] (decide (l[i] ∈ a)) (decide (l[i] ∈ b))) ?_
   unfold RMi2
   simp only [SS,strC_len]
   refine ⟨fun _ => ⟨⟨by omega,hg⟩,g1,fun hn => ⟨⟨by omega,hg⟩,g2,fun hm2 => ?_,fun hm2 => ?_⟩,fun hn => ?_⟩,fun h => by omega⟩
   ·rw [if_pos (by simp [hn,hm2]),strC_app'] at hI
    exact ⟨⟨by omega,hg⟩,⟨alS [l[i]],by omega⟩,by omega,hI⟩
   ·rw [if_neg (by simp [hm2]),List.append_nil] at hI
    exact ⟨by omega,hI⟩
   ·rw [if_neg (by simp [hn]),List.append_nil] at hI
    exact ⟨by omega,hI⟩
 refine FnOK.tree hdraw fp46 (dCtr_ok qnone_ok) (RMi_eq (strC l) (strC a) (strC b)) ?_
 unfold RMi
 rw [ok_jmp]
 exact at_ _ 0 rfl (Nat.zero_le _)
theorem rmiss_ok (l a b : List Nm) (hl : l.length <= 1000000000) (ha : a.length <= 281474976710656) (hb : b.length <= 281474976710656) : FnOK Tryz.prog 46 [.slice (strC l) [],.slice (strC a) [],.slice (strC b) []] (.slice (strC (missM l a b)) []) := FnOK.freezeG (rmiss_own l a b hl ha hb)
section
variable (ls : List Lt) (hl : ls.length <= 400) (hw : ∀ x ∈ ls,x.wf 281474976710656) (hf : ∀ x ∈ ls,x.few 400)
include hl hw hf
theorem rbo2_at (s : List Nm) (hs : s.length <= 1000000) (hsh : shN s) (R : D -> Obs -> Prop) (h0 : (sortD (runM s ls)).length = s.length -> R (.own 1 9 (strC (sortD (runM s ls)))) [])
  (hK : (sortD (runM s ls)).length ≠ s.length -> At Tryz.prog 0 (cut sc47 0) ⟨[(0,.slice (ltL ls) []),(5,.vec 0)],[(0,.arr true 1 9 (strC (sortD (runM s ls))))]⟩ (FinQ true 0 rs47 R)) : ∀ (m i : Nat),ls.length - i = m -> i <= ls.length →
  At Tryz.prog 0 (cut sc47 1) (hdBo (ltL ls) (strC (runM s (ls.take i))) s.length i) (FinQ true 0 rs47 R) := by
 have hp := pools_len hl hf
 rw [<- sum_pool] at hp
 have hr := runM_len ls (s := s)
 intro m
 induction m with
 | zero =>
  intro i hm hi
  rw [List.take_of_length_le (show ls.length <= i by omega)]
  have hS := rsd_ok (runM s ls) (by omega) (runM_sh hw hsh)
  generalize runM s ls = O at h0 hK hS ⊢
  refine At.tree (dCtr_ok qnone_ok) (RBo2_eq (ltL ls) (strC O) [] (strC (sortD O)) s.length i 0 true [] [] 0 0 0 [] [] 0 0 [] []) ?_
  unfold RBo2
  simp only [SS,ltL_len,strC_len]
  refine ⟨fun h => by omega,fun _ => ⟨hS,fun h => h0 (by omega),fun h => hK fun e => h (by omega)⟩⟩
 | succ m ih =>
  intro i hm hi
  have h1 : i < ls.length := by omega
  have hI := ih (i + 1) (by omega) (by omega)
  have hg := ltL_get h1
  have e : runM s (ls.take (i + 1)) = runM s (ls.take i) ++ bindsM (runM s (ls.take i)) ls[i] := by
   unfold runM
   rw [List.take_add_one,List.getElem?_eq_getElem h1,List.foldl_append]
   rfl
  have hz : (runM s (ls.take (i + 1))).length <= 1160800 := by
   have h2 := runM_len (ls.drop (i + 1)) (s := runM s (ls.take (i + 1)))
   have h3 := runM_len (ls.take (i + 1)) (s := s)
   have h4 : ((ls.take (i + 1)).map fun x => x.pool.length).sum <= (ls.map fun x => x.pool.length).sum := by
    conv => rhs; rw [<- List.take_append_drop (i + 1) ls,List.map_append,List.sum_append]
    omega
   omega
  rw [e,List.length_append] at hz
  rw [e] at hI
  generalize runM s (ls.take i) = O at hI hz ⊢
  have hB := rbinds_ok O (by omega) ls[i] (hw _ (List.getElem_mem h1)) (hf _ (List.getElem_mem h1))
  have al := alS (bindsM O ls[i])
  rw [strC_app'] at hI
  generalize bindsM O ls[i] = v at hI hz hB al
  generalize ls[i] = x at hg hB
  obtain ⟨k,no,p,a,op,⟨kx,nx,sx,ax⟩,⟨ky,ny,sy,ay⟩⟩ := x
  refine At.tree (dCtr_ok qnone_ok) (RBo2_eq (ltL ls) (strC O) (strC v) [] s.length i k no p (Tm.cellsL a) op kx nx sx (Tm.cellsL ax) ky ny sy (Tm.cellsL ay)) ?_
  unfold RBo2
  simp only [SS,ltL_len,strC_len]
  exact ⟨fun _ => ⟨⟨by omega,hg⟩,hB,⟨al,by omega⟩,by omega,hI⟩,fun h => by omega⟩
theorem rbo1_at (T : List Nm) (hT : T.length <= 1000000) (hc : Cl ls T) : ∀ (n : Nat) (s : List Nm),s.Pairwise (· < ·) -> gapS s ls < n -> shN s -> (∀ x ∈ s,x ∈ T) →
  At Tryz.prog 0 (cut sc47 0) ⟨[(0,.slice (ltL ls) []),(5,.vec 0)],[(0,.arr true 1 9 (strC s))]⟩ (FinQ true 0 rs47 fun r _ => r = .own 1 9 (strC (closeM n s ls))) := by
 intro n
 induction n with
 | zero => intro s _ h; omega
 | succ n ih =>
  intro s hs hgap hsh hsT
  have hlen : s.length <= 1000000 := Nat.le_trans (List.Nodup.length_le_of_subset (lt_nd hs) hsT) hT
  have hsub : ∀ x ∈ s,x ∈ sortD (runM s ls) := fun x hx => sortD_mem.2 (runM_sub ls x hx)
  have ho := sortD_lt (runM s ls)
  have h2 := rbo2_at ls hl hw hf s hlen hsh (fun r _ => r = .own 1 9 (strC (closeM (n + 1) s ls))) (fun h => by rw [closeM,if_pos h]) (fun h => by
   obtain ⟨e,he,hes⟩ := more_len hs ho hsub h
   have hp : e ∈ ls.flatMap Lt.pool := (runM_pool ls (sortD_mem.1 he)).resolve_left hes
   have hlt := gapS_lt (ls := ls) hsub he hes hp
   have := ih (sortD (runM s ls)) ho (by omega) (shN_sort (runM_sh hw hsh)) (fun x hx => runM_in hc ls (fun _ h => h) hsT x (sortD_mem.1 hx))
   rw [closeM,if_neg h]
   exact this) _ 0 rfl (Nat.zero_le _)
  refine At.tree (dCtr_ok qnone_ok) (RBo1_eq (ltL ls) (strC s)) ?_
  unfold RBo1
  rw [ok_jmp,strC_len]
  exact h2
theorem rbound_ok (g : List Nm) (hg : g.length <= 800000) (hsh : shN g) : FnOK Tryz.prog 47 [.slice (ltL ls) [],.slice (strC g) []] (.slice (strC (sortD (closeS (sortD g) ls))) []) := by
 have hS := rsd_ok g (by omega) hsh
 have hnd := lt_nd (sortD_lt g)
 have hlen := closeS_len ls hnd
 have hp := pools_len hl hf
 have hsl := sortD_len g
 have h1 := rbo1_at ls hl hw hf (closeS (sortD g) ls) (by omega) (closeS_cl ls hnd) (gapS (sortD g) ls + 1) (sortD g) (sortD_lt g) (Nat.lt_succ_self _) (shN_sort hsh) (fun x hx => closeS_sub hx)
 rw [boundM_eq] at h1
 refine FnOK.freezeG (e := 9) (sz := 1) (FnOK.tree hdraw fp47 (dCtr_ok qnone_ok) (RBo_eq (ltL ls) (strC g) (strC (sortD g))) ?_)
 unfold RBo
 simp only [SS]
 exact ⟨hS,h1⟩
end
end Go.Proofs.YtiafmjolbacdaaaGreat

/- The reference model: Global,Unsafe,Safe,proved. -/
namespace Go.Proofs.YtiafmjolbacdaaaGreat
open Go.Sx Go.RowKit
theorem flat_take {α : Type} (f : α -> List Nm) (l : List α) (i : Nat) : ((l.take i).flatMap f).length <= (l.flatMap f).length := by
 have e : l.flatMap f = (l.take i).flatMap f ++ (l.drop i).flatMap f := by rw [<- List.flatMap_append,List.take_append_drop]
 rw [e,List.length_append]; omega
theorem flat_next {α : Type} (f : α -> List Nm) {l : List α} {i : Nat} (h : i < l.length) : (l.take (i + 1)).flatMap f = (l.take i).flatMap f ++ f l[i] := by
 rw [List.take_add_one,List.getElem?_eq_getElem h,List.flatMap_append]
 simp
theorem sort_sort (l : List Nm) : sortD (sortD l) = sortD l := pw_eq (sortD_lt _) (sortD_lt _) fun x => sortD_mem
section
variable (k : Nat) (hs : List He) (a1 : Nat) (a2 : Int) (a3 : Nm) (a4 : List Tm) (b1 : Nat) (b2 : Int) (b3 : Nm) (b4 : List Tm) (bs : List Bo) (c1 : Nat) (c2 : Int) (c3 : Nm) (c4 : List Tm) (d1 : Nat) (d2 : Int) (d3 : Nm) (d4 : List Tm) (ts : List Tm)
variable (hw : Ru.wf 281474976710656 (⟨k,hs,.mk a1 a2 a3 a4,.mk b1 b2 b3 b4,bs,.mk c1 c2 c3 c4,.mk d1 d2 d3 d4,ts⟩ : Ru)) (hf : fewR 400 (⟨k,hs,.mk a1 a2 a3 a4,.mk b1 b2 b3 b4,bs,.mk c1 c2 c3 c4,.mk d1 d2 d3 d4,ts⟩ : Ru))
include hw hf
theorem rg2_at (Z : List Nm) (hZ : Z.length <= 400000) (hsh : shN (Z ++ bs.flatMap gBodyM)) : ∀ (m i : Nat),bs.length - i = m -> i <= bs.length →
  At Tryz.prog 0 (cut sc45 1) (hdGlM (rC k (heL hs) (boL bs) (Tm.cellsL ts) a1 a2 a3 (Tm.cellsL a4) b1 b2 b3 (Tm.cellsL b4) c1 c2 c3 (Tm.cellsL c4) d1 d2 d3 (Tm.cellsL d4)) (strC (Z ++ (bs.take i).flatMap gBodyM)) 5 i) (FinQ true 0 rs45 fun r _ => r = .own 1 9 (strC (sortD (Z ++ bs.flatMap gBodyM)))) := by
 have hbl := bodies_len hf
 have hbl2 := hf.bl
 simp only at hbl hbl2
 intro m
 induction m with
 | zero =>
  intro i hm hi
  rw [List.take_of_length_le (show bs.length <= i by omega)]
  have hS := rsd_ok (Z ++ bs.flatMap gBodyM) (by rw [List.length_append]; omega) hsh
  generalize Z ++ bs.flatMap gBodyM = O at hS ⊢
  refine At.tree (dCtr_ok qnone_ok) (RGl2_eq k (heL hs) (boL bs) (Tm.cellsL ts) a1 a2 a3 (Tm.cellsL a4) b1 b2 b3 (Tm.cellsL b4) c1 c2 c3 (Tm.cellsL c4) d1 d2 d3 (Tm.cellsL d4) (strC O) (strC (sortD O)) [] [] i 0 0 true [] [] 0 0 0 [] [] 0 0 [] [] [] true 0 [] 0 0 0 [] []) ?_
  unfold RGl2
  simp only [SS,boL_len]
  exact ⟨fun h => by omega,fun _ => hS⟩
 | succ m ih =>
  intro i hm hi
  have h1 : i < bs.length := by omega
  have hI := ih (i + 1) (by omega) (by omega)
  have hg := boL_get h1
  have hbw := hw.b _ (List.getElem_mem h1)
  have hbf := hf.b _ (List.getElem_mem h1)
  have hz := flat_take gBodyM bs (i + 1)
  rw [flat_next gBodyM h1,List.length_append] at hz
  rw [flat_next gBodyM h1,<- List.append_assoc,strC_app'] at hI
  have hq : (Z ++ (bs.take i).flatMap gBodyM).length <= 600000 := by rw [List.length_append]; omega
  have hz2 := gBodyM_len hbf
  generalize Z ++ (bs.take i).flatMap gBodyM = O at hI hq ⊢
  have hv1 := rall_ok [bs[i].l] (fun x hx => by rw [List.mem_singleton] at hx; exact hx ▸ hbw.l) hbf.1
  have e5 : (Tm.vsL [bs[i].b]).length = bs[i].b.vs.length := by simp [Tm.vsL]
  have hv2 := FnOK.freezeG (rvars_ok [bs[i].b] (by simp) ⟨hbw.b,trivial⟩ (by have := hbf.2.2.1; omega))
  have al := alS (gBodyM bs[i])
  have he : gBodyM bs[i] = if bs[i].k = 1 then allM [bs[i].l] else if bs[i].k = 3 then sortD (Tm.vsL [bs[i].b]) else [] := rfl
  generalize gBodyM bs[i] = v at hI hz2 al he
  generalize bs[i] = x at hg hv1 hv2 he
  obtain ⟨bk,⟨lk,ln,lp,la,lo,⟨x1,x2,x3,x4⟩,⟨y1,y2,y3,y4⟩⟩,bcn,bno,bf,be,bop,⟨t1,t2,t3,t4⟩⟩ := x
  simp only at hv1 hv2 he
  generalize allM [(⟨lk,ln,lp,la,lo,.mk x1 x2 x3 x4,.mk y1 y2 y3 y4⟩ : Lt)] = v1 at hv1 he
  generalize sortD (Tm.vsL [.mk t1 t2 t3 t4]) = v2 at hv2 he
  refine At.tree (dCtr_ok qnone_ok) (RGl2_eq k (heL hs) (boL bs) (Tm.cellsL ts) a1 a2 a3 (Tm.cellsL a4) b1 b2 b3 (Tm.cellsL b4) c1 c2 c3 (Tm.cellsL c4) d1 d2 d3 (Tm.cellsL d4) (strC O) [] (strC v1) (strC v2) i bk lk ln lp (Tm.cellsL la) lo x1 x2 x3 (Tm.cellsL x4) y1 y2 y3 (Tm.cellsL y4) (ltL bcn) bno bf (elL be) bop t1 t2 t3 (Tm.cellsL t4)) ?_
  unfold RGl2
  simp only [SS,boL_len,strC_len]
  refine ⟨fun _ => ⟨⟨by omega,hg⟩,fun hk => ?_,fun hk => ⟨fun hk3 => ?_,fun hk3 => ?_⟩⟩,fun h => by omega⟩
  ·rw [if_pos (by omega)] at he
   subst he
   exact ⟨⟨by omega,hg⟩,hv1,⟨al,by omega⟩,by omega,hI⟩
  ·rw [if_neg (by omega),if_pos (by omega)] at he
   subst he
   exact ⟨⟨by omega,hg⟩,hv2,⟨al,by omega⟩,by omega,hI⟩
  ·rw [if_neg (by omega),if_neg (by omega)] at he
   subst he
   rw [show strC ([] : List Nm) = [] from rfl,List.append_nil] at hI
   exact ⟨by omega,hI⟩
theorem rg1_at (Z : List Nm) (hZ : Z.length <= 2000) (hk2 : ¬ (k : Int) = 2) (hsh : shN (Z ++ hs.flatMap gHeadM ++ bs.flatMap gBodyM)) : ∀ (m i : Nat),hs.length - i = m -> i <= hs.length →
  At Tryz.prog 0 (cut sc45 0) (hdGlM (rC k (heL hs) (boL bs) (Tm.cellsL ts) a1 a2 a3 (Tm.cellsL a4) b1 b2 b3 (Tm.cellsL b4) c1 c2 c3 (Tm.cellsL c4) d1 d2 d3 (Tm.cellsL d4)) (strC (Z ++ (hs.take i).flatMap gHeadM)) 4 i) (FinQ true 0 rs45 fun r _ => r = .own 1 9 (strC (sortD (Z ++ hs.flatMap gHeadM ++ bs.flatMap gBodyM)))) := by
 have hhl := heads_len hf
 have hhl2 := hf.hl
 simp only at hhl hhl2
 intro m
 induction m with
 | zero =>
  intro i hm hi
  rw [List.take_of_length_le (show hs.length <= i by omega)]
  have hB := rg2_at k hs a1 a2 a3 a4 b1 b2 b3 b4 bs c1 c2 c3 c4 d1 d2 d3 d4 ts hw hf (Z ++ hs.flatMap gHeadM) (by rw [List.length_append]; omega) hsh _ 0 rfl (Nat.zero_le _)
  rw [List.take_zero,List.flatMap_nil,List.append_nil] at hB
  refine At.tree (dCtr_ok qnone_ok) (RGl1_eq k (heL hs) (boL bs) (Tm.cellsL ts) a1 a2 a3 (Tm.cellsL a4) b1 b2 b3 (Tm.cellsL b4) c1 c2 c3 (Tm.cellsL c4) d1 d2 d3 (Tm.cellsL d4) (strC (Z ++ hs.flatMap gHeadM)) [] [] [] i [] [] []) ?_
  unfold RGl1
  simp only [SS,heL_len]
  exact ⟨fun h => by omega,fun _ => hB⟩
 | succ m ih =>
  intro i hm hi
  have h1 : i < hs.length := by omega
  have hI := ih (i + 1) (by omega) (by omega)
  have hg := heL_get h1
  have hxw := hw.h _ (List.getElem_mem h1)
  have hxf := hf.h _ (List.getElem_mem h1)
  have hz := flat_take gHeadM hs (i + 1)
  rw [flat_next gHeadM h1,List.length_append] at hz
  have he : gHeadM hs[i] = sortD (Tm.vsL hs[i].a) ++ allM hs[i].c := rfl
  rw [flat_next gHeadM h1,<- List.append_assoc,he,<- List.append_assoc,strC_app',strC_app'] at hI
  have hz2 := gHeadM_len hxf
  rw [he,List.length_append] at hz2
  have hq : (Z ++ (hs.take i).flatMap gHeadM).length <= 400000 := by rw [List.length_append]; omega
  generalize Z ++ (hs.take i).flatMap gHeadM = O at hI hq ⊢
  have hv1 := FnOK.freezeG (rvars_ok hs[i].a hxw.al hxw.a (by have := hxf.1.2; omega))
  have hv2 := rall_ok hs[i].c hxw.c hxf.2
  have q1 := alS (sortD (Tm.vsL hs[i].a))
  have q2 := alS (allM hs[i].c)
  generalize sortD (Tm.vsL hs[i].a) = v1 at hI hz2 hv1 q1
  generalize allM hs[i].c = v2 at hI hz2 hv2 q2
  generalize hs[i] = x at hg hv1 hv2
  obtain ⟨p,ha,hc⟩ := x
  refine At.tree (dCtr_ok qnone_ok) (RGl1_eq k (heL hs) (boL bs) (Tm.cellsL ts) a1 a2 a3 (Tm.cellsL a4) b1 b2 b3 (Tm.cellsL b4) c1 c2 c3 (Tm.cellsL c4) d1 d2 d3 (Tm.cellsL d4) (strC O) [] (strC v1) (strC v2) i p (Tm.cellsL ha) (ltL hc)) ?_
  unfold RGl1
  simp only [SS,heL_len,strC_len,List.length_append]
  exact ⟨fun _ => ⟨fun _ => ⟨⟨by omega,hg⟩,hv1,⟨q1,by omega⟩,⟨by omega,hg⟩,hv2,⟨q2,by omega⟩,by omega,hI⟩,fun h => absurd h hk2⟩,fun h => by omega⟩
theorem rglobal_ok' : FnOK Tryz.prog 45 [.agg (rC k (heL hs) (boL bs) (Tm.cellsL ts) a1 a2 a3 (Tm.cellsL a4) b1 b2 b3 (Tm.cellsL b4) c1 c2 c3 (Tm.cellsL c4) d1 d2 d3 (Tm.cellsL d4))] (.slice (strC (sortD (globalM (⟨k,hs,.mk a1 a2 a3 a4,.mk b1 b2 b3 b4,bs,.mk c1 c2 c3 c4,.mk d1 d2 d3 d4,ts⟩ : Ru)))) []) := by
 have h0 := first_len hf
 have hsh := globalM_sh hw
 have hv := rvars_ok ([.mk a1 a2 a3 a4,.mk b1 b2 b3 b4,.mk c1 c2 c3 c4,.mk d1 d2 d3 d4] ++ ts) (by have := hw.tl; have := hf.tt.1; simp only [List.length_append,List.length_cons,List.length_nil] at *; omega) (by simp only [List.cons_append,List.nil_append,Tm.wfL]; exact ⟨hw.lo,hw.up,hw.w,hw.lv,hw.t⟩) (by simp only at h0; omega)
 have hsl := sortD_len (Tm.vsL ([.mk a1 a2 a3 a4,.mk b1 b2 b3 b4,.mk c1 c2 c3 c4,.mk d1 d2 d3 d4] ++ ts))
 have htl := hf.tt.1
 simp only at h0 htl
 have e : globalM (⟨k,hs,.mk a1 a2 a3 a4,.mk b1 b2 b3 b4,bs,.mk c1 c2 c3 c4,.mk d1 d2 d3 d4,ts⟩ : Ru) = sortD (Tm.vsL ([.mk a1 a2 a3 a4,.mk b1 b2 b3 b4,.mk c1 c2 c3 c4,.mk d1 d2 d3 d4] ++ ts)) ++ (if k = 2 then [] else hs.flatMap gHeadM) ++ bs.flatMap gBodyM := rfl
 rw [e] at hsh ⊢
 generalize hZ : sortD (Tm.vsL ([.mk a1 a2 a3 a4,.mk b1 b2 b3 b4,.mk c1 c2 c3 c4,.mk d1 d2 d3 d4] ++ ts)) = Z at hsh hv hsl ⊢
 refine FnOK.freezeG (e := 9) (sz := 1) (FnOK.tree hdraw fp45 (dCtr_ok qnone_ok) (RGl_eq k (heL hs) (boL bs) (Tm.cellsL ts) a1 a2 a3 (Tm.cellsL a4) b1 b2 b3 (Tm.cellsL b4) c1 c2 c3 (Tm.cellsL c4) d1 d2 d3 (Tm.cellsL d4) (strC Z)) ?_)
 unfold RGl
 simp only [SS,cellsL_length]
 refine ⟨⟨al4 ts,by omega⟩,hv, ?_⟩
 by_cases hk : k = 2
 ·rw [if_pos hk,List.append_nil] at hsh ⊢
  have hB := rg2_at k hs a1 a2 a3 a4 b1 b2 b3 b4 bs c1 c2 c3 c4 d1 d2 d3 d4 ts hw hf Z (by omega) hsh _ 0 rfl (Nat.zero_le _)
  rw [List.take_zero,List.flatMap_nil,List.append_nil] at hB
  refine At.tree (dCtr_ok qnone_ok) (RGl1_eq k (heL hs) (boL bs) (Tm.cellsL ts) a1 a2 a3 (Tm.cellsL a4) b1 b2 b3 (Tm.cellsL b4) c1 c2 c3 (Tm.cellsL c4) d1 d2 d3 (Tm.cellsL d4) (strC Z) [] [] [] 0 [] [] []) ?_
  unfold RGl1
  simp only [SS,heL_len]
  exact ⟨fun h => ⟨fun h2 => by omega,fun _ => hB⟩,fun _ => hB⟩
 ·rw [if_neg hk] at hsh ⊢
  have hA := rg1_at k hs a1 a2 a3 a4 b1 b2 b3 b4 bs c1 c2 c3 c4 d1 d2 d3 d4 ts hw hf Z (by omega) (by omega) hsh _ 0 rfl (Nat.zero_le _)
  rw [List.take_zero,List.flatMap_nil,List.append_nil] at hA
  exact hA
/- Unsafe. -/
variable (G : List Nm) (hG : G.length <= 500000) (hGs : sortD G = G) (hGh : shN G)
include hG hGs hGh
omit hw hf in
theorem rel_ok (names : List Nm) (c : List Lt) (hn : names.length <= 1000) (hcw : ∀ x ∈ c,x.wf 281474976710656) (hcf : fewC 400 c) : FnOK Tryz.prog 47 [.slice (ltL c) [],.slice (strC G) []] (.slice (strC (sortD (closeS G c))) []) /\ FnOK Tryz.prog 46 [.slice (strC (names ++ allM c)) [],.slice (strC G) [],.slice (strC (sortD (closeS G c))) []] (.slice (strC (elM G names c)) []) /\ (allM c).length <= 400 := by
 have hl := hcf.1
 have h1 := rbound_ok c (by omega) hcw hcf.2.1 G (by omega) hGh
 rw [hGs] at h1
 have h2 := allM_len c
 have h3 := hcf.2.2.2
 have hnd : G.Nodup := by rw [<- hGs]; exact lt_nd (sortD_lt G)
 have h4 := closeS_len c hnd
 have h5 := pools_len (l := c) (by omega) hcf.2.1
 have h6 := sortD_len (closeS G c)
 exact ⟨h1,rmiss_ok (names ++ allM c) G (sortD (closeS G c)) (by rw [List.length_append]; omega) (by omega) (by omega),by omega⟩
abbrev QUn (T : List Nm) : Exit -> St -> Prop := FinQ true 0 rs33 fun r _ => r = .own 1 9 (strC (sortD T))
omit hw hf in
theorem ru3_at (i : Nat) (x : Bo) (hk3 : x.k = 3) (hxw : x.wf 281474976710656) (hxf : fewB 400 x) (Y : List Nm) (hY : Y.length <= 200000000) (T : List Nm) (hi : i <= 1000)
  (K : At Tryz.prog 0 (cut sc33 2) (hdU1 (rC k (heL hs) (boL bs) (Tm.cellsL ts) a1 a2 a3 (Tm.cellsL a4) b1 b2 b3 (Tm.cellsL b4) c1 c2 c3 (Tm.cellsL c4) d1 d2 d3 (Tm.cellsL d4)) (strC G) (strC (Y ++ x.e.flatMap (uElemM G))) 10 (i + 1)) (QUn T)) : ∀ (m j : Nat),x.e.length - j = m -> j <= x.e.length →
  At Tryz.prog 0 (cut sc33 3) (hdU3 (rC k (heL hs) (boL bs) (Tm.cellsL ts) a1 a2 a3 (Tm.cellsL a4) b1 b2 b3 (Tm.cellsL b4) c1 c2 c3 (Tm.cellsL c4) d1 d2 d3 (Tm.cellsL d4)) (strC G) (strC (Y ++ (x.e.take j).flatMap (uElemM G))) i x.cs j) (QUn T) := by
 have hel := uElems_len (g := G) hxf
 obtain ⟨bk,⟨lk,ln,lp,la,lo,⟨x1,x2,x3,x4⟩,⟨y1,y2,y3,y4⟩⟩,bcn,bno,bf,be,bop,⟨t1,t2,t3,t4⟩⟩ := x
 have hbl := hxf.2.2.2.1
 simp only at hk3 hel hbl K ⊢
 intro m
 induction m with
 | zero =>
  intro j hm hj
  refine At.tree (dCtr_ok qnone_ok) (RUn3_eq k (heL hs) (boL bs) (Tm.cellsL ts) a1 a2 a3 (Tm.cellsL a4) b1 b2 b3 (Tm.cellsL b4) c1 c2 c3 (Tm.cellsL c4) d1 d2 d3 (Tm.cellsL d4) (strC G) (strC (Y ++ (be.take j).flatMap (uElemM G))) [] [] [] [] i j bk lk ln lp (Tm.cellsL la) lo x1 x2 x3 (Tm.cellsL x4) y1 y2 y3 (Tm.cellsL y4) (ltL bcn) bno bf (elL be) bop t1 t2 t3 (Tm.cellsL t4) [] []) ?_
  unfold RUn3
  rw [List.take_of_length_le (show be.length <= j by omega)]
  simp only [SS,elL_len]
  exact ⟨fun h => by omega,fun _ => ⟨by omega,K⟩⟩
 | succ m ih =>
  intro j hm hj
  have h1 : j < be.length := by omega
  have hI := ih (j + 1) (by omega) (by omega)
  have hg := elL_get h1
  have hew := hxw.e _ (List.getElem_mem h1)
  have hef := hxf.2.2.2.2 _ (List.getElem_mem h1)
  have hz := flat_take (uElemM G) be (j + 1)
  rw [flat_next (uElemM G) h1,List.length_append] at hz
  rw [flat_next (uElemM G) h1,<- List.append_assoc,strC_app'] at hI
  have hq : (Y ++ (be.take j).flatMap (uElemM G)).length <= 201000000 := by rw [List.length_append]; omega
  have hz2 := uElemM_len (g := G) hef
  generalize Y ++ (be.take j).flatMap (uElemM G) = O at hI hq ⊢
  have hv1 := rvars_ok be[j].t hew.tl hew.t (by have := hef.1.2; omega)
  have hv2 := rall_ok be[j].c hew.c hef.2
  have hsl := sortD_len (Tm.vsL be[j].t)
  have hel := rel_ok G hG hGs hGh (sortD (Tm.vsL be[j].t)) be[j].c (by have := hef.1.2; omega) hew.c hef.2
  have q2 := alS (allM be[j].c)
  have hvl := hef.1.2
  have he : uElemM G be[j] = elM G (sortD (Tm.vsL be[j].t)) be[j].c := rfl
  rw [he] at hI hz2
  have al := alS (elM G (sortD (Tm.vsL be[j].t)) be[j].c)
  generalize elM G (sortD (Tm.vsL be[j].t)) be[j].c = M at hI hz2 hel al
  generalize hSd : sortD (closeS G be[j].c) = Bd at hel
  rw [strC_app'] at hel
  generalize sortD (Tm.vsL be[j].t) = v1 at hv1 hel hsl
  generalize allM be[j].c = v2 at hv2 q2 hel
  obtain ⟨g1,g2,g3⟩ := hel
  clear hSd
  generalize be[j] = y at hg hv1 hv2 g1 hsl hvl
  obtain ⟨et,ec⟩ := y
  simp only at hsl hvl
  refine At.tree (dCtr_ok qnone_ok) (RUn3_eq k (heL hs) (boL bs) (Tm.cellsL ts) a1 a2 a3 (Tm.cellsL a4) b1 b2 b3 (Tm.cellsL b4) c1 c2 c3 (Tm.cellsL c4) d1 d2 d3 (Tm.cellsL d4) (strC G) (strC O) (strC v1) (strC v2) (strC Bd) (strC M) i j bk lk ln lp (Tm.cellsL la) lo x1 x2 x3 (Tm.cellsL x4) y1 y2 y3 (Tm.cellsL y4) (ltL bcn) bno bf (elL be) bop t1 t2 t3 (Tm.cellsL t4) (Tm.cellsL et) (ltL ec)) ?_
  unfold RUn3
  simp only [SS,elL_len,strC_len]
  exact ⟨fun _ => ⟨fun _ => ⟨⟨by omega,hg⟩,⟨by omega,hg⟩,hv1,hv2,⟨q2,by omega⟩,g1,g2,⟨al,by omega⟩,by omega,hI⟩,fun h => by omega⟩,fun h => by omega⟩
theorem ru2_at (Z : List Nm) (hZ : Z.length <= 1000000) (hsh : shN (Z ++ bs.flatMap (uBodyM G))) : ∀ (m i : Nat),bs.length - i = m -> i <= bs.length →
  At Tryz.prog 0 (cut sc33 2) (hdU1 (rC k (heL hs) (boL bs) (Tm.cellsL ts) a1 a2 a3 (Tm.cellsL a4) b1 b2 b3 (Tm.cellsL b4) c1 c2 c3 (Tm.cellsL c4) d1 d2 d3 (Tm.cellsL d4)) (strC G) (strC (Z ++ (bs.take i).flatMap (uBodyM G))) 10 i) (QUn (Z ++ bs.flatMap (uBodyM G))) := by
 have hbl := uBodies_len (g := G) hf
 have hbl2 := hf.bl
 simp only at hbl hbl2
 intro m
 induction m with
 | zero =>
  intro i hm hi
  rw [List.take_of_length_le (show bs.length <= i by omega)]
  have hS := rsd_ok (Z ++ bs.flatMap (uBodyM G)) (by rw [List.length_append]; omega) hsh
  generalize Z ++ bs.flatMap (uBodyM G) = O at hS ⊢
  refine At.tree (dCtr_ok qnone_ok) (RUn2_eq k (heL hs) (boL bs) (Tm.cellsL ts) a1 a2 a3 (Tm.cellsL a4) b1 b2 b3 (Tm.cellsL b4) c1 c2 c3 (Tm.cellsL c4) d1 d2 d3 (Tm.cellsL d4) (strC G) (strC O) [] [] [] [] (strC (sortD O)) i 0 0 true [] [] 0 0 0 [] [] 0 0 [] [] [] true 0 [] 0 0 0 [] []) ?_
  unfold RUn2
  simp only [SS,boL_len]
  exact ⟨fun h => by omega,fun _ => hS⟩
 | succ m ih =>
  intro i hm hi
  have h1 : i < bs.length := by omega
  have hI := ih (i + 1) (by omega) (by omega)
  have hg := boL_get h1
  have hbw := hw.b _ (List.getElem_mem h1)
  have hbf := hf.b _ (List.getElem_mem h1)
  have hz := flat_take (uBodyM G) bs (i + 1)
  rw [flat_next (uBodyM G) h1,List.length_append] at hz
  have hz2 := uBodyM_len (g := G) hbf
  rw [flat_next (uBodyM G) h1,<- List.append_assoc] at hI
  have hq : (Z ++ (bs.take i).flatMap (uBodyM G)).length <= 140000000 := by rw [List.length_append]; omega
  generalize Z ++ bs.flatMap (uBodyM G) = T at hI ⊢
  generalize Z ++ (bs.take i).flatMap (uBodyM G) = O at hI hq ⊢
  have he : uBodyM G bs[i] = (if bs[i].k = 2 then elM G (allM [bs[i].l]) bs[i].c else []) ++ (if bs[i].k = 3 then bs[i].e.flatMap (uElemM G) else []) := rfl
  have h3 := fun (hk : bs[i].k = 3) => ru3_at k hs a1 a2 a3 a4 b1 b2 b3 b4 bs c1 c2 c3 c4 d1 d2 d3 d4 ts G hG hGs hGh i bs[i] hk hbw hbf O (by omega) T (by omega)
  have hw1 : ∀ x ∈ [bs[i].l],x.wf 281474976710656 := fun x hx => by rw [List.mem_singleton] at hx; exact hx ▸ hbw.l
  have hv1 := rall_own [bs[i].l] hw1 hbf.1
  have hv2 := rall_ok bs[i].c hbw.c hbf.2.1
  have hl1 := allM_len [bs[i].l]
  have hl2 := hbf.1.2.2.2
  have hel := rel_ok G hG hGs hGh (allM [bs[i].l]) bs[i].c (by omega) hbw.c hbf.2.1
  have q2 := alS (allM bs[i].c)
  have hu := uCond_len (g := G) hbf
  have al := alS (elM G (allM [bs[i].l]) bs[i].c)
  generalize uBodyM G bs[i] = V at hI he
  generalize bs[i] = x at hg he h3 hv1 hv2 hl1 hl2 hel q2 hu al
  obtain ⟨bk,⟨lk,ln,lp,la,lo,⟨x1,x2,x3,x4⟩,⟨y1,y2,y3,y4⟩⟩,bcn,bno,bf,be,bop,⟨t1,t2,t3,t4⟩⟩ := x
  simp only at he h3 hv1 hv2 hl1 hl2 hel q2 hu al
  generalize elM G (allM [(⟨lk,ln,lp,la,lo,.mk x1 x2 x3 x4,.mk y1 y2 y3 y4⟩ : Lt)]) bcn = M at hel he hu al
  rw [strC_app'] at hel
  generalize hA : allM [(⟨lk,ln,lp,la,lo,.mk x1 x2 x3 x4,.mk y1 y2 y3 y4⟩ : Lt)] = v1 at hv1 hel hl1
  generalize sortD (closeS G bcn) = Bd at hel
  generalize allM bcn = v2 at hv2 q2 hel
  obtain ⟨g1,g2,g3⟩ := hel
  refine At.tree (dCtr_ok qnone_ok) (RUn2_eq k (heL hs) (boL bs) (Tm.cellsL ts) a1 a2 a3 (Tm.cellsL a4) b1 b2 b3 (Tm.cellsL b4) c1 c2 c3 (Tm.cellsL c4) d1 d2 d3 (Tm.cellsL d4) (strC G) (strC O) (strC v1) (strC v2) (strC Bd) (strC M) [] i bk lk ln lp (Tm.cellsL la) lo x1 x2 x3 (Tm.cellsL x4) y1 y2 y3 (Tm.cellsL y4) (ltL bcn) bno bf (elL be) bop t1 t2 t3 (Tm.cellsL t4)) ?_
  unfold RUn2
  simp only [SS,boL_len,strC_len]
  refine ⟨fun _ => ⟨⟨by omega,hg⟩,fun hk => ⟨hv1,hv2,⟨q2,by omega⟩,g1,g2,⟨al,by omega⟩, ?_⟩,fun hk => ?_⟩,fun h => by omega⟩
  ·rw [if_pos (by omega),if_neg (by omega),List.append_nil] at he
   subst he
   rw [strC_app'] at hI
   refine At.tree (dCtr_ok qnone_ok) (RUn3_eq k (heL hs) (boL bs) (Tm.cellsL ts) a1 a2 a3 (Tm.cellsL a4) b1 b2 b3 (Tm.cellsL b4) c1 c2 c3 (Tm.cellsL c4) d1 d2 d3 (Tm.cellsL d4) (strC G) (strC O ++ strC V) [] [] [] [] i 0 bk lk ln lp (Tm.cellsL la) lo x1 x2 x3 (Tm.cellsL x4) y1 y2 y3 (Tm.cellsL y4) (ltL bcn) bno bf (elL be) bop t1 t2 t3 (Tm.cellsL t4) [] []) ?_
   unfold RUn3
   simp only [SS]
   exact ⟨fun _ => ⟨fun h => by omega,fun _ => ⟨by omega,hI⟩⟩,fun _ => ⟨by omega,hI⟩⟩
  ·rw [if_neg (by omega),List.nil_append] at he
   by_cases hk3 : bk = 3
   ·rw [if_pos hk3] at he
    subst he
    have := h3 hk3 hI _ 0 rfl (Nat.zero_le _)
    rw [List.take_zero,List.flatMap_nil,List.append_nil] at this
    exact this
   ·rw [if_neg hk3] at he
    subst he
    rw [List.append_nil] at hI
    refine At.tree (dCtr_ok qnone_ok) (RUn3_eq k (heL hs) (boL bs) (Tm.cellsL ts) a1 a2 a3 (Tm.cellsL a4) b1 b2 b3 (Tm.cellsL b4) c1 c2 c3 (Tm.cellsL c4) d1 d2 d3 (Tm.cellsL d4) (strC G) (strC O) [] [] [] [] i 0 bk lk ln lp (Tm.cellsL la) lo x1 x2 x3 (Tm.cellsL x4) y1 y2 y3 (Tm.cellsL y4) (ltL bcn) bno bf (elL be) bop t1 t2 t3 (Tm.cellsL t4) [] []) ?_
    unfold RUn3
    simp only [SS]
    exact ⟨fun _ => ⟨fun h => by omega,fun _ => ⟨by omega,hI⟩⟩,fun _ => ⟨by omega,hI⟩⟩
theorem ru1_at (hk2 : (k : Int) = 2) (Z : List Nm) (hZ : Z.length <= 500000) (hsh : shN (Z ++ hs.flatMap (uHeadM G) ++ bs.flatMap (uBodyM G))) : ∀ (m i : Nat),hs.length - i = m -> i <= hs.length →
  At Tryz.prog 0 (cut sc33 1) (hdU1 (rC k (heL hs) (boL bs) (Tm.cellsL ts) a1 a2 a3 (Tm.cellsL a4) b1 b2 b3 (Tm.cellsL b4) c1 c2 c3 (Tm.cellsL c4) d1 d2 d3 (Tm.cellsL d4)) (strC G) (strC (Z ++ (hs.take i).flatMap (uHeadM G))) 7 i) (QUn (Z ++ hs.flatMap (uHeadM G) ++ bs.flatMap (uBodyM G))) := by
 have hhl := uHeads_len (g := G) hf
 have hhl2 := hf.hl
 simp only at hhl hhl2
 intro m
 induction m with
 | zero =>
  intro i hm hi
  rw [List.take_of_length_le (show hs.length <= i by omega)]
  have hB := ru2_at k hs a1 a2 a3 a4 b1 b2 b3 b4 bs c1 c2 c3 c4 d1 d2 d3 d4 ts hw hf G hG hGs hGh (Z ++ hs.flatMap (uHeadM G)) (by rw [List.length_append]; omega) hsh _ 0 rfl (Nat.zero_le _)
  rw [List.take_zero,List.flatMap_nil,List.append_nil] at hB
  refine At.tree (dCtr_ok qnone_ok) (RUn1_eq k (heL hs) (boL bs) (Tm.cellsL ts) a1 a2 a3 (Tm.cellsL a4) b1 b2 b3 (Tm.cellsL b4) c1 c2 c3 (Tm.cellsL c4) d1 d2 d3 (Tm.cellsL d4) (strC G) (strC (Z ++ hs.flatMap (uHeadM G))) [] [] [] [] i [] [] []) ?_
  unfold RUn1
  simp only [SS,heL_len]
  exact ⟨fun h => by omega,fun _ => hB⟩
 | succ m ih =>
  intro i hm hi
  have h1 : i < hs.length := by omega
  have hI := ih (i + 1) (by omega) (by omega)
  have hg := heL_get h1
  have hew := hw.h _ (List.getElem_mem h1)
  have hef := hf.h _ (List.getElem_mem h1)
  have hz := flat_take (uHeadM G) hs (i + 1)
  rw [flat_next (uHeadM G) h1,List.length_append] at hz
  rw [flat_next (uHeadM G) h1,<- List.append_assoc,strC_app'] at hI
  have hq : (Z ++ (hs.take i).flatMap (uHeadM G)).length <= 1000000 := by rw [List.length_append]; omega
  have hz2 := uHeadM_len (g := G) hef
  generalize Z ++ (hs.take i).flatMap (uHeadM G) = O at hI hq ⊢
  have hv1 := rvars_ok hs[i].a hew.al hew.a (by have := hef.1.2; omega)
  have hv2 := rall_ok hs[i].c hew.c hef.2
  have hsl := sortD_len (Tm.vsL hs[i].a)
  have hel := rel_ok G hG hGs hGh (sortD (Tm.vsL hs[i].a)) hs[i].c (by have := hef.1.2; omega) hew.c hef.2
  have q2 := alS (allM hs[i].c)
  have hvl := hef.1.2
  have he : uHeadM G hs[i] = elM G (sortD (Tm.vsL hs[i].a)) hs[i].c := rfl
  rw [he] at hI hz2
  have al := alS (elM G (sortD (Tm.vsL hs[i].a)) hs[i].c)
  generalize elM G (sortD (Tm.vsL hs[i].a)) hs[i].c = M at hI hz2 hel al
  generalize hSd : sortD (closeS G hs[i].c) = Bd at hel
  rw [strC_app'] at hel
  generalize sortD (Tm.vsL hs[i].a) = v1 at hv1 hel hsl
  generalize allM hs[i].c = v2 at hv2 q2 hel
  obtain ⟨g1,g2,g3⟩ := hel
  clear hSd
  generalize hs[i] = y at hg hv1 hv2 g1 hsl hvl
  obtain ⟨p,et,ec⟩ := y
  simp only at hsl hvl
  refine At.tree (dCtr_ok qnone_ok) (RUn1_eq k (heL hs) (boL bs) (Tm.cellsL ts) a1 a2 a3 (Tm.cellsL a4) b1 b2 b3 (Tm.cellsL b4) c1 c2 c3 (Tm.cellsL c4) d1 d2 d3 (Tm.cellsL d4) (strC G) (strC O) (strC v1) (strC v2) (strC Bd) (strC M) i p (Tm.cellsL et) (ltL ec)) ?_
  unfold RUn1
  simp only [SS,heL_len,strC_len]
  exact ⟨fun _ => ⟨fun _ => ⟨⟨by omega,hg⟩,⟨by omega,hg⟩,hv1,hv2,⟨q2,by omega⟩,g1,g2,⟨al,by omega⟩,by omega,hI⟩,fun h => absurd hk2 h⟩,fun h => by omega⟩
theorem ru0_at (T : List Nm) (K : At Tryz.prog 0 (cut sc33 1) (hdU1 (rC k (heL hs) (boL bs) (Tm.cellsL ts) a1 a2 a3 (Tm.cellsL a4) b1 b2 b3 (Tm.cellsL b4) c1 c2 c3 (Tm.cellsL c4) d1 d2 d3 (Tm.cellsL d4)) (strC G) (strC (missM G (sortD (closeS [] (litsB bs))) [])) 7 0) (QUn T)) : ∀ (m i : Nat),bs.length - i = m -> i <= bs.length →
  At Tryz.prog 0 (cut sc33 0) (hdU0 (rC k (heL hs) (boL bs) (Tm.cellsL ts) a1 a2 a3 (Tm.cellsL a4) b1 b2 b3 (Tm.cellsL b4) c1 c2 c3 (Tm.cellsL c4) d1 d2 d3 (Tm.cellsL d4)) (strC G) (ltL (litsB (bs.take i))) i) (QUn T) := by
 have hbl2 := hf.bl
 simp only at hbl2
 have hlen : ∀ l : List Bo,(litsB l).length <= l.length := fun l => List.length_filterMap_le _ _
 intro m
 induction m with
 | zero =>
  intro i hm hi
  rw [List.take_of_length_le (show bs.length <= i by omega)]
  have h1 := hlen bs
  have hw1 : ∀ x ∈ litsB bs,x.wf 281474976710656 := fun x hx => by
   obtain ⟨b,hb,_,rfl⟩ := litsB_mem.1 hx
   exact (hw.b b hb).l
  have hf1 : ∀ x ∈ litsB bs,x.few 400 := fun x hx => by
   obtain ⟨b,hb,_,rfl⟩ := litsB_mem.1 hx
   exact (hf.b b hb).1.2.1 _ (List.mem_singleton.2 rfl)
  have hB := rbound_ok (litsB bs) (by omega) hw1 hf1 [] (by simp) (fun x hx => by cases hx)
  have h4 := closeS_len (s := []) (litsB bs) List.nodup_nil
  have h5 := pools_len (l := litsB bs) (by omega) hf1
  have h6 := sortD_len (closeS [] (litsB bs))
  have hB : FnOK Tryz.prog 47 [.slice (ltL (litsB bs)) [],.slice [] []] (.slice (strC (sortD (closeS [] (litsB bs)))) []) := hB
  simp only [List.length_nil] at h4
  generalize sortD (closeS [] (litsB bs)) = Bd at K hB h6
  have hM := rmiss_own G Bd [] (by omega) (by omega) (by simp)
  refine At.tree (dCtr_ok qnone_ok) (RUn0_eq k (heL hs) (boL bs) (Tm.cellsL ts) a1 a2 a3 (Tm.cellsL a4) b1 b2 b3 (Tm.cellsL b4) c1 c2 c3 (Tm.cellsL c4) d1 d2 d3 (Tm.cellsL d4) (strC G) (ltL (litsB bs)) (strC Bd) (strC (missM G Bd [])) i 0 0 true [] [] 0 0 0 [] [] 0 0 [] [] [] true 0 [] 0 0 0 [] []) ?_
  unfold RUn0
  simp only [SS,boL_len]
  exact ⟨fun h => by omega,fun _ => ⟨hB,hM,K⟩⟩
 | succ m ih =>
  intro i hm hi
  have h1 : i < bs.length := by omega
  have hI := ih (i + 1) (by omega) (by omega)
  have hg := boL_get h1
  have e : litsB (bs.take (i + 1)) = litsB (bs.take i) ++ if bs[i].k = 1 then [bs[i].l] else [] := by
   unfold litsB
   rw [List.take_add_one,List.getElem?_eq_getElem h1,List.filterMap_append]
   by_cases hk : bs[i].k = 1 <;> simp [hk]
  have hz := hlen (bs.take i)
  rw [List.length_take] at hz
  rw [e] at hI
  generalize litsB (bs.take i) = L at hI hz ⊢
  generalize bs[i] = x at hg hI
  obtain ⟨bk,⟨lk,ln,lp,la,lo,⟨x1,x2,x3,x4⟩,⟨y1,y2,y3,y4⟩⟩,bcn,bno,bf,be,bop,⟨t1,t2,t3,t4⟩⟩ := x
  simp only at hI
  refine At.tree (dCtr_ok qnone_ok) (RUn0_eq k (heL hs) (boL bs) (Tm.cellsL ts) a1 a2 a3 (Tm.cellsL a4) b1 b2 b3 (Tm.cellsL b4) c1 c2 c3 (Tm.cellsL c4) d1 d2 d3 (Tm.cellsL d4) (strC G) (ltL L) [] [] i bk lk ln lp (Tm.cellsL la) lo x1 x2 x3 (Tm.cellsL x4) y1 y2 y3 (Tm.cellsL y4) (ltL bcn) bno bf (elL be) bop t1 t2 t3 (Tm.cellsL t4)) ?_
  unfold RUn0
  simp only [SS,boL_len,ltL_len]
  refine ⟨fun _ => ⟨⟨by omega,hg⟩,fun hk => ?_,fun hk => ?_⟩,fun h => by omega⟩
  ·rw [if_pos (by omega)] at hI
   have e2 : ∀ a b : List Lt,ltL (a ++ b) = ltL a ++ ltL b := fun a b => by simp [ltL]
   rw [e2] at hI
   refine ⟨⟨by omega,hg⟩,⟨?_,by omega⟩,by omega,hI⟩
   intro q hq
   rw [List.mem_singleton] at hq
   subst hq
   rfl
  ·rw [if_neg (by omega),List.append_nil] at hI
   exact ⟨by omega,hI⟩
end
section
variable (k : Nat) (hs : List He) (a1 : Nat) (a2 : Int) (a3 : Nm) (a4 : List Tm) (b1 : Nat) (b2 : Int) (b3 : Nm) (b4 : List Tm) (bs : List Bo) (c1 : Nat) (c2 : Int) (c3 : Nm) (c4 : List Tm) (d1 : Nat) (d2 : Int) (d3 : Nm) (d4 : List Tm) (ts : List Tm)
theorem runsafe_ok' (hw : Ru.wf 281474976710656 (⟨k,hs,.mk a1 a2 a3 a4,.mk b1 b2 b3 b4,bs,.mk c1 c2 c3 c4,.mk d1 d2 d3 d4,ts⟩ : Ru)) (hf : fewR 400 (⟨k,hs,.mk a1 a2 a3 a4,.mk b1 b2 b3 b4,bs,.mk c1 c2 c3 c4,.mk d1 d2 d3 d4,ts⟩ : Ru)) : FnOK Tryz.prog 33 [.agg (rC k (heL hs) (boL bs) (Tm.cellsL ts) a1 a2 a3 (Tm.cellsL a4) b1 b2 b3 (Tm.cellsL b4) c1 c2 c3 (Tm.cellsL c4) d1 d2 d3 (Tm.cellsL d4))] (.slice (strC (sortD (unsafeM (⟨k,hs,.mk a1 a2 a3 a4,.mk b1 b2 b3 b4,bs,.mk c1 c2 c3 c4,.mk d1 d2 d3 d4,ts⟩ : Ru)))) []) := by
 have hg := rglobal_ok' k hs a1 a2 a3 a4 b1 b2 b3 b4 bs c1 c2 c3 c4 d1 d2 d3 d4 ts hw hf
 have hsh := unsafeM_sh hw
 have hGh := shN_sort (globalM_sh hw)
 have hGl := globalM_len hf
 have hGl2 := sortD_len (globalM (⟨k,hs,.mk a1 a2 a3 a4,.mk b1 b2 b3 b4,bs,.mk c1 c2 c3 c4,.mk d1 d2 d3 d4,ts⟩ : Ru))
 have hGs := sort_sort (globalM (⟨k,hs,.mk a1 a2 a3 a4,.mk b1 b2 b3 b4,bs,.mk c1 c2 c3 c4,.mk d1 d2 d3 d4,ts⟩ : Ru))
 have e : unsafeM (⟨k,hs,.mk a1 a2 a3 a4,.mk b1 b2 b3 b4,bs,.mk c1 c2 c3 c4,.mk d1 d2 d3 d4,ts⟩ : Ru) = missM (sortD (globalM (⟨k,hs,.mk a1 a2 a3 a4,.mk b1 b2 b3 b4,bs,.mk c1 c2 c3 c4,.mk d1 d2 d3 d4,ts⟩ : Ru))) (sortD (closeS [] (litsB bs))) [] ++ (if k = 2 then hs.flatMap (uHeadM (sortD (globalM (⟨k,hs,.mk a1 a2 a3 a4,.mk b1 b2 b3 b4,bs,.mk c1 c2 c3 c4,.mk d1 d2 d3 d4,ts⟩ : Ru)))) else []) ++ bs.flatMap (uBodyM (sortD (globalM (⟨k,hs,.mk a1 a2 a3 a4,.mk b1 b2 b3 b4,bs,.mk c1 c2 c3 c4,.mk d1 d2 d3 d4,ts⟩ : Ru)))) := rfl
 rw [e] at hsh ⊢
 generalize sortD (globalM (⟨k,hs,.mk a1 a2 a3 a4,.mk b1 b2 b3 b4,bs,.mk c1 c2 c3 c4,.mk d1 d2 d3 d4,ts⟩ : Ru)) = G at hg hsh hGh hGl2 hGs ⊢
 have hml := missM_len G (sortD (closeS [] (litsB bs))) []
 have K : At Tryz.prog 0 (cut sc33 1) (hdU1 (rC k (heL hs) (boL bs) (Tm.cellsL ts) a1 a2 a3 (Tm.cellsL a4) b1 b2 b3 (Tm.cellsL b4) c1 c2 c3 (Tm.cellsL c4) d1 d2 d3 (Tm.cellsL d4)) (strC G) (strC (missM G (sortD (closeS [] (litsB bs))) [])) 7 0) (QUn (missM G (sortD (closeS [] (litsB bs))) [] ++ (if k = 2 then hs.flatMap (uHeadM G) else []) ++ bs.flatMap (uBodyM G))) := by
  generalize missM G (sortD (closeS [] (litsB bs))) [] = Z at hml hsh ⊢
  by_cases hk : k = 2
  ·rw [if_pos hk] at hsh ⊢
   have hA := ru1_at k hs a1 a2 a3 a4 b1 b2 b3 b4 bs c1 c2 c3 c4 d1 d2 d3 d4 ts hw hf G (by omega) hGs hGh (by omega) Z (by omega) hsh _ 0 rfl (Nat.zero_le _)
   rw [List.take_zero,List.flatMap_nil,List.append_nil] at hA
   exact hA
  ·rw [if_neg hk,List.append_nil] at hsh ⊢
   have hB := ru2_at k hs a1 a2 a3 a4 b1 b2 b3 b4 bs c1 c2 c3 c4 d1 d2 d3 d4 ts hw hf G (by omega) hGs hGh Z (by omega) hsh _ 0 rfl (Nat.zero_le _)
   rw [List.take_zero,List.flatMap_nil,List.append_nil] at hB
   refine At.tree (dCtr_ok qnone_ok) (RUn1_eq k (heL hs) (boL bs) (Tm.cellsL ts) a1 a2 a3 (Tm.cellsL a4) b1 b2 b3 (Tm.cellsL b4) c1 c2 c3 (Tm.cellsL c4) d1 d2 d3 (Tm.cellsL d4) (strC G) (strC Z) [] [] [] [] 0 [] [] []) ?_
   unfold RUn1
   simp only [SS,heL_len]
   exact ⟨fun h => ⟨fun h2 => by omega,fun _ => hB⟩,fun _ => hB⟩
 have h0 := ru0_at k hs a1 a2 a3 a4 b1 b2 b3 b4 bs c1 c2 c3 c4 d1 d2 d3 d4 ts hw hf G (by omega) hGs hGh _ K _ 0 rfl (Nat.zero_le _)
 refine FnOK.freezeG (e := 9) (sz := 1) (FnOK.tree hdraw fp33 (dCtr_ok qnone_ok) (RUn_eq k (heL hs) (boL bs) (Tm.cellsL ts) a1 a2 a3 (Tm.cellsL a4) b1 b2 b3 (Tm.cellsL b4) c1 c2 c3 (Tm.cellsL c4) d1 d2 d3 (Tm.cellsL d4) (strC G)) ?_)
 unfold RUn
 rw [ok_owe,ok_jmp]
 exact ⟨hg,h0⟩
end
theorem runsafe_ok (r : Ru) (hw : r.wf 281474976710656) (hf : fewR 400 r) : FnOK Tryz.prog 33 [.agg r.cs] (.slice (strC (srt (unsafeS r))) []) := by
 rw [<- unsafeM_eq]
 obtain ⟨k,hs,⟨a1,a2,a3,a4⟩,⟨b1,b2,b3,b4⟩,bs,⟨c1,c2,c3,c4⟩,⟨d1,d2,d3,d4⟩,ts⟩ := r
 exact runsafe_ok' k hs a1 a2 a3 a4 b1 b2 b3 b4 bs c1 c2 c3 c4 d1 d2 d3 d4 ts hw hf
end Go.Proofs.YtiafmjolbacdaaaGreat

/- SafetyPrograms RETURNS true,awake given. -/
namespace Go.Proofs.YtiafmjolbacdaaaGreat
open Go.Sx Go.RowKit
theorem rsafe_ok (p : Pg) (hl : p.r.length <= 400) (hw : ∀ r ∈ p.r,r.wf 281474976710656) (hf : ∀ r ∈ p.r,fewR 400 r) : FnOK Tryz.prog 19 [.agg p.cs] (.bool (!p.r.any badR)) := by
 obtain ⟨l,co,sh,so⟩ := p
 simp only at hl hw hf ⊢
 have at_ : ∀ (m i : Nat),l.length - i = m -> i <= l.length →
   At Tryz.prog 0 (cut sc19 0) (hdSa (ruL l) (coL co) sh so i) (FinQ true 0 rs19 fun r _ => r = .bool (!(l.drop i).any badR)) := by
  intro m
  induction m with
  | zero =>
   intro i hm hi
   refine At.tree (dCtr_ok qnone_ok) (RSa1_eq (ruL l) (coL co) sh so i 0 [] [] [] 0 0 [] [] 0 0 [] [] 0 0 [] [] 0 0 [] [] []) ?_
   unfold RSa1
   rw [List.drop_eq_nil_of_le (by omega : l.length <= i)]
   simp only [SS,ruL_len]
   exact ⟨fun h => by omega,fun _ => rfl⟩
  | succ m ih =>
   intro i hm hi
   have h1 : i < l.length := by omega
   have hg := ruL_get h1
   have hI := ih (i + 1) (by omega) (by omega)
   have hu := runsafe_ok _ (hw _ (List.getElem_mem h1)) (hf _ (List.getElem_mem h1))
   rw [drop_cons h1,List.any_cons]
   have hb : badR l[i] = !(srt (unsafeS l[i])).isEmpty := by
    unfold badR
    have := (srt_perm (unsafeS l[i])).length_eq
    rw [Bool.eq_iff_iff]
    simp only [Bool.not_eq_true',List.isEmpty_eq_false_iff,ne_eq,<- List.length_eq_zero_iff,this]
   generalize srt (unsafeS l[i]) = u at hu hb
   generalize badR l[i] = b at hb ⊢
   generalize l[i] = r at hg hu
   obtain ⟨k,hs,⟨a1,a2,a3,a4⟩,⟨b1,b2,b3,b4⟩,bs,⟨c1,c2,c3,c4⟩,⟨d1,d2,d3,d4⟩,ts⟩ := r
   refine At.tree (dCtr_ok qnone_ok) (RSa1_eq (ruL l) (coL co) sh so i k (heL hs) (boL bs) (Tm.cellsL ts) a1 a2 a3 (Tm.cellsL a4) b1 b2 b3 (Tm.cellsL b4) c1 c2 c3 (Tm.cellsL c4) d1 d2 d3 (Tm.cellsL d4) (strC u)) ?_
   unfold RSa1
   simp only [SS,ruL_len,strC_len]
   refine ⟨fun _ => ⟨⟨by omega,hg⟩,hu,fun h => ?_,fun h => ?_⟩,fun h => by omega⟩
   ·have : b = true := by
     rw [hb]
     cases u with
     | nil => simp at h
     | cons a r => rfl
    rw [this]
    rfl
   ·have : b = false := by
     rw [hb]
     cases u with
     | nil => rfl
     | cons a r => simp at h
    rw [this,Bool.false_or]
    exact ⟨by omega,hI⟩
 refine FnOK.tree hdraw fp19 (dCtr_ok qnone_ok) (RSa_eq (ruL l) (coL co) sh so) ?_
 unfold RSa
 rw [ok_jmp]
 have := at_ _ 0 rfl (Nat.zero_le _)
 rw [List.drop_zero] at this
 exact this
section
variable (l : List Ru) (co : List Co) (sh : List (List D)) (so : Bool) (hw : Pg.wf 281474976710656 ⟨l,co,sh,so⟩)
include hw
theorem szp2_at : ∀ (m i : Nat) (n : Int),co.length - i = m -> i <= co.length -> 0 <= n -> n <= 281474976711656 →
  At Tryz.prog 0 (cut sc17 1) (hdZp (ruL l) (coL co) sh so 400 n 7 i) (FinQ true 0 rs17 fun r _ => r = .int .i64 (szCs (co.drop i) 400 n)) := by
 have hcl := hw.cl
 simp only at hcl
 intro m
 induction m with
 | zero =>
  intro i n hm hi h0 hn
  refine At.tree (dCtr_ok qnone_ok) (PZp2_eq (ruL l) (coL co) sh so 400 n i [] 0 0 [] [] 0) ?_
  unfold PZp2
  rw [List.drop_eq_nil_of_le (by omega : co.length <= i)]
  simp only [SS,coL_len]
  exact ⟨fun h => by omega,fun _ => rfl⟩
 | succ m ih =>
  intro i n hm hi h0 hn
  have h1 : i < co.length := by omega
  have hg := coL_get h1
  have hcw := hw.c _ (List.getElem_mem h1)
  rw [drop_cons h1,szCs]
  by_cases hc : n <= 400
  ·rw [if_pos hc]
   have hz := sz_ok _ hcw (400 - n) (by omega) (by omega)
   have g1 := sz_ge co[i].v (400 - n)
   have g2 := sz_le co[i].v (400 - n) (by omega)
   have hI := ih (i + 1) (n + szCo co[i] (400 - n)) (by omega) (by omega) (by unfold szCo; omega) (by unfold szCo; omega)
   unfold szCo at hI ⊢
   generalize co[i].v.sz (400 - n) = q at hz g1 g2 hI ⊢
   generalize co[i] = x at hg hz
   obtain ⟨nm,⟨kx,nx,sx,ax⟩⟩ := x
   refine At.tree (dCtr_ok qnone_ok) (PZp2_eq (ruL l) (coL co) sh so 400 n i nm kx nx sx (Tm.cellsL ax) q) ?_
   unfold PZp2
   simp only [SS,coL_len]
   exact ⟨fun _ => ⟨fun _ => ⟨⟨by omega,hg⟩,by omega,hz,by omega,by omega,by omega,hI⟩,fun h => by omega⟩,fun h => by omega⟩
  ·rw [if_neg hc]
   refine At.tree (dCtr_ok qnone_ok) (PZp2_eq (ruL l) (coL co) sh so 400 n i [] 0 0 [] [] 0) ?_
   unfold PZp2
   simp only [SS,coL_len]
   exact ⟨fun _ => ⟨fun h => by omega,fun _ => trivial⟩,fun _ => trivial⟩
theorem szp1_at : ∀ (m i : Nat) (n : Int),l.length - i = m -> i <= l.length -> 0 <= n -> n <= 281474976711656 →
  At Tryz.prog 0 (cut sc17 0) (hdZp (ruL l) (coL co) sh so 400 n 6 i) (FinQ true 0 rs17 fun r _ => r = .int .i64 (szCs co 400 (szRs (l.drop i) 400 n))) := by
 have hrl := hw.rl
 simp only at hrl
 intro m
 induction m with
 | zero =>
  intro i n hm hi h0 hn
  have hB := szp2_at l co sh so hw _ 0 n rfl (Nat.zero_le _) h0 hn
  rw [List.drop_zero] at hB
  refine At.tree (dCtr_ok qnone_ok) (PZp1_eq (ruL l) (coL co) sh so 400 n i 0 [] [] [] 0 0 [] [] 0 0 [] [] 0 0 [] [] 0 0 [] [] 0) ?_
  unfold PZp1
  rw [List.drop_eq_nil_of_le (by omega : l.length <= i)]
  simp only [SS,ruL_len]
  exact ⟨fun h => by omega,fun _ => hB⟩
 | succ m ih =>
  intro i n hm hi h0 hn
  have h1 : i < l.length := by omega
  have hg := ruL_get h1
  have hrw := hw.r _ (List.getElem_mem h1)
  rw [drop_cons h1,szRs]
  by_cases hc : n <= 400
  ·rw [if_pos hc]
   have hz := szr_ok _ hrw (400 - n) (by omega)
   have g1 := szRu_ge l[i] (400 - n)
   have g2 := szRu_le l[i] (400 - n) (by omega)
   have hI := ih (i + 1) (n + szRu l[i] (400 - n)) (by omega) (by omega) (by omega) (by omega)
   generalize szRu l[i] (400 - n) = q at hz g1 g2 hI ⊢
   generalize l[i] = x at hg hz
   obtain ⟨k,hs,⟨a1,a2,a3,a4⟩,⟨b1,b2,b3,b4⟩,bs,⟨c1,c2,c3,c4⟩,⟨d1,d2,d3,d4⟩,ts⟩ := x
   refine At.tree (dCtr_ok qnone_ok) (PZp1_eq (ruL l) (coL co) sh so 400 n i k (heL hs) (boL bs) (Tm.cellsL ts) a1 a2 a3 (Tm.cellsL a4) b1 b2 b3 (Tm.cellsL b4) c1 c2 c3 (Tm.cellsL c4) d1 d2 d3 (Tm.cellsL d4) q) ?_
   unfold PZp1
   simp only [SS,ruL_len]
   exact ⟨fun _ => ⟨fun _ => ⟨⟨by omega,hg⟩,by omega,hz,by omega,by omega,hI⟩,fun h => by omega⟩,fun h => by omega⟩
  ·rw [if_neg hc]
   have hB := szp2_at l co sh so hw _ 0 n rfl (Nat.zero_le _) h0 hn
   rw [List.drop_zero] at hB
   refine At.tree (dCtr_ok qnone_ok) (PZp1_eq (ruL l) (coL co) sh so 400 n i 0 [] [] [] 0 0 [] [] 0 0 [] [] 0 0 [] [] 0 0 [] [] 0) ?_
   unfold PZp1
   simp only [SS,ruL_len]
   exact ⟨fun _ => ⟨fun h => by omega,fun _ => hB⟩,fun _ => hB⟩
theorem szp_ok : FnOK Tryz.prog 17 [.agg (Pg.cs ⟨l,co,sh,so⟩),.int .i64 400] (.int .i64 (szPg ⟨l,co,sh,so⟩ 400)) := by
 have hsl := hw.sl
 simp only at hsl
 have h1 := szp1_at l co sh so hw _ 0 sh.length rfl (Nat.zero_le _) (by omega) (by omega)
 rw [List.drop_zero] at h1
 refine FnOK.tree hdraw fp17 (dCtr_ok qnone_ok) (PZp_eq (ruL l) (coL co) sh so 400) ?_
 unfold PZp
 rw [ok_jmp]
 exact h1
end
theorem programs_of (haw : FnOK Tryz.prog 7 [] (.bool true)) (p : Pg) (hw : p.wf 281474976710656) : FnOK Tryz.prog 5 [.agg p.cs] (.bool true) := by
 obtain ⟨l,co,sh,so⟩ := p
 have hz := szp_ok l co sh so hw
 have hfew := szPg_few (p := ⟨l,co,sh,so⟩) (m := 400)
 generalize szPg ⟨l,co,sh,so⟩ 400 = n at hz hfew
 refine FnOK.tree hdraw fp5 (dCtr_ok qnone_ok) (PPr_eq (ruL l) (coL co) sh so n (!l.any badR) (!l.any badR)) ?_
 unfold PPr
 simp only [SS]
 refine ⟨hz,fun h => haw,fun h => ?_⟩
 obtain ⟨f1,f2⟩ := hfew (by omega)
 simp only at f1 f2
 have h1 := safe_ok l (by omega) (fun r hr => okR_of (hw.r r hr) (f2 r hr)) (coL co) sh so
 have h2 := rsafe_ok ⟨l,co,sh,so⟩ (by simp only; omega) hw.r f2
 refine ⟨h1,h2,fun _ => haw,fun h => ?_⟩
 simp at h
end Go.Proofs.YtiafmjolbacdaaaGreat
