/- Own work: a layer over the kit: plain data,a walk over it,its soundness. -/
import Derived.Test.YtiafmjolbacdaaaGreatSafE
import Derived.Test.YtiafmjolbacdaaaGreatSx9
set_option linter.unusedSectionVars false
set_option linter.unusedVariables false
set_option linter.unusedSimpArgs false
set_option linter.deprecated false
set_option maxRecDepth 100000
/- AppendSeq,Collect,Sorted over the keys of a set: trees. -/
namespace Go.Proofs.YtiafmjolbacdaaaGreat
open Go.Sx Go.RowKit
def stAp (ks cs : List D) : St := ⟨[(6,.func (.func fY) [] [.ptr 0 0]),(4,.vec 6),(2,.ptr 4 0),(0,.nils),(1,.func (.func fY) [] [.ptr 0 0])],[(6,.arr true 1 9 []),(4,.cells [.nils]),(0,.cells [.map 1]),(1,.gen (.mapC ks cs) [])]⟩
def frAp : List Fr := [.blk 0,.sc (.seq (.reg [so 12 (.load false 1) [xt 2],so 4 .mv [xt 12]]) .ret)]
def recAp (ks cs : List D) : Ob := recd Tryz.prog .ready none 13 #[7] (sc74.rngA 0) (sc74.rngB 0) (stAp ks cs).tm
def bkAp (ks cs : List D) (ob' : Obs) : St := ⟨(stAp ks cs).tm,eraseId 7 (St.back ⟨(stAp ks cs).tm,(7,recAp ks cs) :: (stAp ks cs).ob⟩ 8 [0,7,1,6,4] ob').ob⟩
noncomputable def CApN (ks cs : List D) : Tr := Tr.ret D.nils [(0,Ob.cells [D.map 1]),(1,Ob.gen (Gen.mapC ks cs) [])]
theorem CApN_eq (ks cs : List D) : goT Tryz.prog (ctr libT) 2 (finF false 2 rs74) 2000 frAp (bkAp ks cs (obPN (Ob.gen (Gen.mapC ks cs) []))) = CApN ks cs := by kernel_rfl
noncomputable def CApA (ks cs : List D) (o : List (List D)) : Tr := Tr.ret (D.vec 2) [(0,Ob.cells [D.map 1]),(1,Ob.gen (Gen.mapC ks cs) []),(2,Ob.arr false 1 9 o)]
theorem CApA_eq (ks cs : List D) (o : List (List D)) : goT Tryz.prog (ctr libT) 2 (finF false 2 rs74) 2000 frAp (bkAp ks cs (obPA (Ob.gen (Gen.mapC ks cs) []) 5 o)) = CApA ks cs o := by kernel_rfl
def obC (ks cs : List D) : Obs := [(0,.cells [.map 1]),(1,.gen (.mapC ks cs) [])]
def obCA (ks cs : List D) (o : List (List D)) : Obs := [(0,.cells [.map 1]),(1,.gen (.mapC ks cs) []),(2,.arr false 1 9 o)]
noncomputable def CC0 (ks cs : List D) : Tr := Tr.jmp (frg sc56 0) { tm := [(0,D.func (Fn.func 58) [] [D.ptr 0 0])],ob := [(0,Ob.cells [D.map 1]),(1,Ob.gen (Gen.mapC ks cs) [])] }
theorem CC0_eq (ks cs : List D) : goT Tryz.prog (ctr libT) 2 (finF false 2 rs56) 2000 [Fr.sc sc56] { tm := envOf 0 ([] ++ [D.func (Fn.func fY) [] [D.ptr 0 0]] ++ []),ob := obC ks cs } = CC0 ks cs := by kernel_rfl
def stC (ks cs : List D) : St := ⟨[(3,.func (.func fY) [] [.ptr 0 0]),(0,.func (.func fY) [] [.ptr 0 0])],obC ks cs⟩
noncomputable def CCN (ks cs : List D) : Tr := Tr.ret D.nils [(0,Ob.cells [D.map 1]),(1,Ob.gen (Gen.mapC ks cs) [])]
theorem CCN_eq (ks cs : List D) : goT Tryz.prog (ctr libT) 2 (finF false 2 rs56) 2000 [Fr.sc SC.ret] (St.put (St.put (St.back (stC ks cs) 4098 [0,1] (obC ks cs)) (some 4) D.nils) (some 2) D.nils) = CCN ks cs := by kernel_rfl
noncomputable def CCA (ks cs : List D) (o : List (List D)) : Tr := Tr.ret (D.vec 2) [(0,Ob.cells [D.map 1]),(1,Ob.gen (Gen.mapC ks cs) []),(2,Ob.arr false 1 9 o)]
theorem CCA_eq (ks cs : List D) (o : List (List D)) : goT Tryz.prog (ctr libT) 2 (finF false 2 rs56) 2000 [Fr.sc SC.ret] (St.put (St.put (St.back (stC ks cs) 4098 [0,1] (obCA ks cs o)) (some 4) (D.vec 4100)) (some 2) (D.vec 4100)) = CCA ks cs o := by kernel_rfl
noncomputable def CS0 (ks cs : List D) : Tr := Tr.jmp (frg sc38 0) { tm := [(0,D.func (Fn.func 58) [] [D.ptr 0 0])],ob := [(0,Ob.cells [D.map 1]),(1,Ob.gen (Gen.mapC ks cs) [])] }
theorem CS0_eq (ks cs : List D) : goT Tryz.prog (ctr libT) 2 (finF false 2 rs38) 2000 [Fr.sc sc38] { tm := envOf 0 ([] ++ [D.func (Fn.func fY) [] [D.ptr 0 0]] ++ []),ob := obC ks cs } = CS0 ks cs := by kernel_rfl
def stS (ks cs : List D) : St := ⟨[(4,.func (.func fY) [] [.ptr 0 0]),(0,.func (.func fY) [] [.ptr 0 0])],obC ks cs⟩
def frS : List Fr := [.sc (.seq (.spec (.frg [3])) (.seq (.reg [so 6 .mv [xt 3],.cd (some 7) none (xc (.func (.func 57) [] [])) [xt 6]]) (.seq (.spec (.frg [3])) (.seq (.reg [so 8 .mv [xt 3],so 2 .mv [xt 8]]) .ret))))]
noncomputable def CSN (ks cs : List D) : Tr := Tr.jmp (frg sc38 1) { tm := [(3,D.nils)],ob := [(0,Ob.cells [D.map 1]),(1,Ob.gen (Gen.mapC ks cs) [])] }
theorem CSN_eq (ks cs : List D) : goT Tryz.prog (ctr libT) 2 (finF false 2 rs38) 2000 frS (St.put (St.put (St.back (stS ks cs) 4098 [0,1] (obC ks cs)) (some 5) D.nils) (some 3) D.nils) = CSN ks cs := by kernel_rfl
noncomputable def CSA (ks cs : List D) (o : List (List D)) : Tr := Tr.jmp (frg sc38 1) { tm := [(3,D.vec 2)],ob := [(0,Ob.cells [D.map 1]),(1,Ob.gen (Gen.mapC ks cs) []),(2,Ob.arr false 1 9 o)] }
theorem CSA_eq (ks cs : List D) (o : List (List D)) : goT Tryz.prog (ctr libT) 2 (finF false 2 rs38) 2000 frS (St.put (St.put (St.back (stS ks cs) 4098 [0,1] (obCA ks cs o)) (some 5) (D.vec 4100)) (some 3) (D.vec 4100)) = CSA ks cs o := by kernel_rfl
noncomputable def CSN1 (ks cs : List D) : Tr := Tr.owe (CallL Tryz.prog (D.func (Fn.func 57) [] []) [D.slice [] []] [] fun r0 ob0 => r0 = D.tuple [] /\ ob0 = []) (Tr.jmp (frg sc38 2) { tm := [(3,D.nils)],ob := [(0,Ob.cells [D.map 1]),(1,Ob.gen (Gen.mapC ks cs) [])] })
theorem CSN1_eq (ks cs : List D) : goT Tryz.prog (ctr libT (asmO (D.tuple []) [])) 2 (finF false 2 rs38) 2000 (frg sc38 1) { tm := [(3,D.nils)],ob := obC ks cs } = CSN1 ks cs := by kernel_rfl
noncomputable def CSA1 (ks cs : List D) (o o2 : List (List D)) : Tr := Tr.owe (CallL Tryz.prog (D.func (Fn.func 57) [] []) [D.vec 0] [(0,Ob.arr false 1 9 o)] fun r0 ob0 => r0 = D.tuple [] /\ ob0 = [(0,Ob.arr false 1 9 o2)]) (Tr.jmp (frg sc38 2) { tm := [(3,D.vec 2)],ob := [(0,Ob.cells [D.map 1]),(1,Ob.gen (Gen.mapC ks cs) []),(2,Ob.arr false 1 9 o2)] })
theorem CSA1_eq (ks cs : List D) (o o2 : List (List D)) : goT Tryz.prog (ctr libT (asmO (D.tuple []) [(0,Ob.arr false 1 9 o2)])) 2 (finF false 2 rs38) 2000 (frg sc38 1) { tm := [(3,D.vec 2)],ob := obCA ks cs o } = CSA1 ks cs o o2 := by kernel_rfl
noncomputable def CSN2 (ks cs : List D) : Tr := Tr.ret D.nils [(0,Ob.cells [D.map 1]),(1,Ob.gen (Gen.mapC ks cs) [])]
theorem CSN2_eq (ks cs : List D) : goT Tryz.prog (ctr libT) 2 (finF false 2 rs38) 2000 (frg sc38 2) { tm := [(3,D.nils)],ob := obC ks cs } = CSN2 ks cs := by kernel_rfl
noncomputable def CSA2 (ks cs : List D) (o : List (List D)) : Tr := Tr.ret (D.vec 2) [(0,Ob.cells [D.map 1]),(1,Ob.gen (Gen.mapC ks cs) []),(2,Ob.arr false 1 9 o)]
theorem CSA2_eq (ks cs : List D) (o : List (List D)) : goT Tryz.prog (ctr libT) 2 (finF false 2 rs38) 2000 (frg sc38 2) { tm := [(3,D.vec 2)],ob := obCA ks cs o } = CSA2 ks cs o := by kernel_rfl
end Go.Proofs.YtiafmjolbacdaaaGreat

/- AppendSeq,Collect,Sorted,set.sorted; Bound's trees. -/
namespace Go.Proofs.YtiafmjolbacdaaaGreat
open Go.Sx Go.RowKit
theorem swF_seq {P : Program} {n bs : Nat} {a b : SC} {K : List Fr} {s : St} {Q : Exit -> St -> Prop} (h : swF P n bs (.sc a :: .sc b :: K) s Q) : swF P (n + 1) bs (.sc (.seq a b) :: K) s Q := h
theorem stps_nil {P : Program} {bs : Nat} {s : St} {K : St -> Prop} (h : K s) : stps P bs [] s K := h
def outC (S : List Nm) : List Nm -> D × Obs
 | [] => (.nils,obC (kS S) (uS S))
 | c :: r => (.vec 2,obCA (kS S) (uS S) (strC (c :: r)))
def RC (S : List Nm) : D -> Obs -> Prop := fun r ob => ∃ q : List Nm,q.Perm S /\ r = (outC S q).1 /\ ob = (outC S q).2
theorem ap_ok (S : List Nm) (hS : S.length <= 1073741823) : CallL Tryz.prog (.func (.func 74) [] []) [.nils,.func (.func fY) [] [.ptr 0 0]] (obC (kS S) (uS S)) (RC S) := by
 refine CallL.tree hdraw fp74 (ctr_ok libT_ok qnone_ok) (CAq_eq (kS S) (uS S)) ?_
 unfold CAq
 rw [ok_jmp]
 refine ⟨2001,swF_rngF (n := 2000) [0,7,1,6,4] (RP S) (by decide) ?_ ⟨fY,[],[.ptr 0 0],rfl,fp58.2⟩ (keys_ok S hS) ?_⟩
 ·intro i hi
  simp only [List.mem_cons,List.not_mem_nil,or_false] at hi
  rcases hi with rfl | rfl | rfl | rfl | rfl <;> rfl
 ·rintro r ob' ⟨rfl,q,hq,rfl⟩
  refine ⟨rfl, ?_, ?_⟩
  ·cases q with
   | nil => exact ⟨_,_,_,_,_,_,rfl⟩
   | cons c r => exact ⟨_,_,_,_,_,_,rfl⟩
  ·cases q with
   | nil =>
    show swF _ 2000 2 frAp (bkAp (kS S) (uS S) (obPN (setO S))) _
    refine swF.tree (n0 := 0) (n := 2000) (ctr_ok libT_ok qnone_ok) (CApN_eq (kS S) (uS S)) ?_
    unfold CApN
    rw [ok_ret]
    exact ⟨[],hq,rfl,rfl⟩
   | cons c r =>
    show swF _ 2000 2 frAp (bkAp (kS S) (uS S) (obPA (setO S) 5 (strC (c :: r)))) _
    refine swF.tree (n0 := 0) (n := 2000) (ctr_ok libT_ok qnone_ok) (CApA_eq (kS S) (uS S) (strC (c :: r))) ?_
    unfold CApA
    rw [ok_ret]
    exact ⟨c :: r,hq,rfl,rfl⟩
theorem fr56 : frg sc56 0 = [.sc (.seq (.reg [so 3 .mv [xt 0],.cd (some 4) none (xc (.func (.func 74) [] [])) [xc .nils,xt 3],so 2 .mv [xt 4]]) .ret)] := rfl
theorem collect_ok (S : List Nm) (hS : S.length <= 1073741823) : CallL Tryz.prog (.func (.func 56) [] []) [.func (.func fY) [] [.ptr 0 0]] (obC (kS S) (uS S)) (RC S) := by
 refine CallL.tree hdraw fp56 (ctr_ok libT_ok qnone_ok) (CC0_eq (kS S) (uS S)) ?_
 unfold CC0
 rw [ok_jmp,fr56]
 refine ⟨2002,swF_seq (swF_reg (stps_mv (stps_cd [0,1] (RC S) (by decide) ?_ (ap_ok S hS) ?_)))⟩
 ·intro i hi
  simp only [List.mem_cons,List.not_mem_nil,or_false] at hi
  rcases hi with rfl | rfl <;> rfl
 ·rintro r ob' ⟨q,hq,rfl,rfl⟩
  cases q with
  | nil =>
   refine ⟨rfl,stps_mv (stps_nil ?_)⟩
   show swF _ 2000 2 [.sc .ret] (((St.back (stC (kS S) (uS S)) 4098 [0,1] (obC (kS S) (uS S))).put (some 4) .nils).put (some 2) .nils) _
   refine swF.tree (n0 := 0) (n := 2000) (ctr_ok libT_ok qnone_ok) (CCN_eq (kS S) (uS S)) ?_
   unfold CCN
   rw [ok_ret]
   exact ⟨[],hq,rfl,rfl⟩
  | cons c r =>
   refine ⟨rfl,stps_mv (stps_nil ?_)⟩
   show swF _ 2000 2 [.sc .ret] (((St.back (stC (kS S) (uS S)) 4098 [0,1] (obCA (kS S) (uS S) (strC (c :: r)))).put (some 4) (.vec 4100)).put (some 2) (.vec 4100)) _
   refine swF.tree (n0 := 0) (n := 2000) (ctr_ok libT_ok qnone_ok) (CCA_eq (kS S) (uS S) (strC (c :: r))) ?_
   unfold CCA
   rw [ok_ret]
   exact ⟨c :: r,hq,rfl,rfl⟩
theorem fr38 : frg sc38 0 = .sc (.seq (.reg [so 4 .mv [xt 0],.cd (some 5) none (xc (.func (.func 56) [] [])) [xt 4],so 3 .mv [xt 5]]) (.seq (.spec (.frg [3])) (.seq (.reg [so 6 .mv [xt 3],.cd (some 7) none (xc (.func (.func 57) [] [])) [xt 6]]) (.seq (.spec (.frg [3])) (.seq (.reg [so 8 .mv [xt 3],so 2 .mv [xt 8]]) .ret))))) :: [] := rfl
theorem srt_ne {q : List Nm} (h : q ≠ []) : srt q ≠ [] := fun e => h (by
 have := (srt_perm q).length_eq
 rw [e] at this
 exact List.length_eq_zero_iff.1 this.symm)
theorem sortedF_ok (S : List Nm) (hS : S.length <= 1073741823) (hnd : S.Nodup) : CallL Tryz.prog (.func (.func 38) [] []) [.func (.func fY) [] [.ptr 0 0]] (obC (kS S) (uS S)) fun r ob => r = (outC S (srt S)).1 /\ ob = (outC S (srt S)).2 := by
 refine CallL.tree hdraw fp38 (ctr_ok libT_ok qnone_ok) (CS0_eq (kS S) (uS S)) ?_
 unfold CS0
 rw [ok_jmp,fr38]
 refine ⟨6002,swF_seq (swF_reg (stps_mv (stps_cd [0,1] (RC S) (by decide) ?_ (collect_ok S hS) ?_)))⟩
 ·intro i hi
  simp only [List.mem_cons,List.not_mem_nil,or_false] at hi
  rcases hi with rfl | rfl <;> rfl
 ·rintro r ob' ⟨q,hq,rfl,rfl⟩
  have hsq : srt q = srt S := srt_same (hq.nodup_iff.2 hnd) hnd fun x => hq.mem_iff
  have hql := hq.length_eq
  rw [<- hsq]
  cases q with
  | nil =>
   refine ⟨rfl,stps_mv (stps_nil ?_)⟩
   show swF _ 6000 2 frS (((St.back (stS (kS S) (uS S)) 4098 [0,1] (obC (kS S) (uS S))).put (some 5) .nils).put (some 3) .nils) _
   refine swF.tree (n0 := 4000) (n := 2000) (ctr_ok libT_ok qnone_ok) (CSN_eq (kS S) (uS S)) ?_
   unfold CSN
   rw [ok_jmp]
   refine swF.tree (n0 := 2000) (n := 2000) (ctr_ok libT_ok (asmO_ok _ _)) (CSN1_eq (kS S) (uS S)) ?_
   unfold CSN1
   rw [ok_owe,ok_jmp]
   refine ⟨CallL.sortN fp57.2 fun p cap w => Tryz.slices_Sort_string_none p cap w, ?_⟩
   refine swF.tree (n0 := 0) (n := 2000) (ctr_ok libT_ok qnone_ok) (CSN2_eq (kS S) (uS S)) ?_
   unfold CSN2
   rw [ok_ret]
   have e : srt ([] : List Nm) = [] := by simp [srt]
   rw [e]
   exact ⟨rfl,rfl⟩
  | cons c r =>
   refine ⟨rfl,stps_mv (stps_nil ?_)⟩
   show swF _ 6000 2 frS (((St.back (stS (kS S) (uS S)) 4098 [0,1] (obCA (kS S) (uS S) (strC (c :: r)))).put (some 5) (.vec 4100)).put (some 3) (.vec 4100)) _
   refine swF.tree (n0 := 4000) (n := 2000) (ctr_ok libT_ok qnone_ok) (CSA_eq (kS S) (uS S) (strC (c :: r))) ?_
   unfold CSA
   rw [ok_jmp]
   refine swF.tree (n0 := 2000) (n := 2000) (ctr_ok libT_ok (asmO_ok _ _)) (CSA1_eq (kS S) (uS S) (strC (c :: r)) (strC (srt (c :: r)))) ?_
   unfold CSA1
   rw [ok_owe,ok_jmp]
   refine ⟨CallL.sortS fp57.2 (fun blk cap ss w h1 h2 h3 => Tryz.slices_Sort_string blk 0 cap ss w h1 h2 h3) _ _ (by simp) (by omega), ?_⟩
   refine swF.tree (n0 := 0) (n := 2000) (ctr_ok libT_ok qnone_ok) (CSA2_eq (kS S) (uS S) (strC (srt (c :: r)))) ?_
   unfold CSA2
   rw [ok_ret]
   have hne := srt_ne (q := c :: r) (by simp)
   generalize srt (c :: r) = z at hne ⊢
   cases z with
   | nil => exact absurd rfl hne
   | cons a b => exact ⟨rfl,rfl⟩
def outO (S : List Nm) : List Nm -> D × Obs
 | [] => (.nils,[(0,setO S)])
 | c :: r => (.vec 1,[(0,setO S),(1,.arr false 1 9 (strC (c :: r)))])
theorem sorted_ok (S : List Nm) (hS : S.length <= 1073741823) (hnd : S.Nodup) : CallL Tryz.prog (.func (.func 27) [] []) [.map 0] [(0,setO S)] fun r ob => r = (outO S (srt S)).1 /\ ob = (outO S (srt S)).2 := by
 have h := sortedF_ok S hS hnd
 generalize srt S = z at h ⊢
 cases z with
 | nil =>
  refine CallL.tree hdraw fp27 (ctr_ok libT_ok (QT.or_ok keyQ_ok (asmO_ok _ _))) (CSoN_eq (kS S) (uS S)) ?_
  unfold CSoN
  rw [ok_owe,ok_owe,ok_ret]
  exact ⟨trivial,h,rfl,rfl⟩
 | cons c r =>
  refine CallL.tree hdraw fp27 (ctr_ok libT_ok (QT.or_ok keyQ_ok (asmO_ok _ _))) (CSo_eq (kS S) (uS S) (strC (c :: r))) ?_
  unfold CSo
  rw [ok_owe,ok_owe,ok_ret]
  exact ⟨trivial,h,rfl,rfl⟩
def bdQ (ks1 cs1 ks2 cs2 : List D) (q : QT) : QT := ((valQ.or (onF 24 (asmA (.tuple []) (updM ks1 cs1)))).or (onF 26 (asmO (.map 1) [(0,.gen (.mapC ks1 cs1) []),(1,.gen (.mapC ks2 cs2) [])]))).or q
theorem bdQ_ok {ks1 cs1 ks2 cs2 : List D} {q : QT} (hq : q.OK) : (bdQ ks1 cs1 ks2 cs2 q).OK := QT.or_ok (QT.or_ok (QT.or_ok valQ_ok (onF_ok (asmA_ok _ _))) (onF_ok (asmO_ok _ _))) hq
noncomputable def PBoN (es gs : List (List D)) (ks1 cs1 ks2 cs2 : List D) : Tr := Tr.owe True (Tr.owe (CallL Tryz.prog (D.func (Fn.func 24) [] []) [D.map 0,D.func (Fn.func 35) [] [D.ptr 1 0]] [(0,Ob.gen (Gen.mapC [] []) []),(1,Ob.cells [D.slice gs []])] fun r0 ob0 => r0 = D.tuple [] /\ ob0 = [(0,Ob.gen (Gen.mapC ks1 cs1) []),(1,Ob.cells [D.slice gs []])]) (Tr.owe (CallL Tryz.prog (D.func (Fn.func 26) [] []) [D.map 0,D.slice es []] [(0,Ob.gen (Gen.mapC ks1 cs1) [])] fun r0 ob0 => r0 = D.map 1 /\ ob0 = [(0,Ob.gen (Gen.mapC ks1 cs1) []),(1,Ob.gen (Gen.mapC ks2 cs2) [])]) (Tr.owe (CallL Tryz.prog (D.func (Fn.func 27) [] []) [D.map 0] [(0,Ob.gen (Gen.mapC ks2 cs2) [])] fun r0 ob0 => r0 = D.nils /\ ob0 = [(0,Ob.gen (Gen.mapC ks2 cs2) [])]) (Tr.ret (D.slice [] []) []))))
theorem PBoN_eq (es gs : List (List D)) (ks1 cs1 ks2 cs2 : List D) : goT Tryz.prog (ctr libT (bdQ ks1 cs1 ks2 cs2 (asmO D.nils [(0,Ob.gen (Gen.mapC ks2 cs2) [])]))) 0 (finF true 0 rs9) 2000 [Fr.sc sc9] { tm := envOf 0 [D.slice es [],D.slice gs []],ob := [] } = PBoN es gs ks1 cs1 ks2 cs2 := by kernel_rfl
noncomputable def PBoA (es gs r : List (List D)) (ks1 cs1 ks2 cs2 : List D) : Tr := Tr.owe True (Tr.owe (CallL Tryz.prog (D.func (Fn.func 24) [] []) [D.map 0,D.func (Fn.func 35) [] [D.ptr 1 0]] [(0,Ob.gen (Gen.mapC [] []) []),(1,Ob.cells [D.slice gs []])] fun r0 ob0 => r0 = D.tuple [] /\ ob0 = [(0,Ob.gen (Gen.mapC ks1 cs1) []),(1,Ob.cells [D.slice gs []])]) (Tr.owe (CallL Tryz.prog (D.func (Fn.func 26) [] []) [D.map 0,D.slice es []] [(0,Ob.gen (Gen.mapC ks1 cs1) [])] fun r0 ob0 => r0 = D.map 1 /\ ob0 = [(0,Ob.gen (Gen.mapC ks1 cs1) []),(1,Ob.gen (Gen.mapC ks2 cs2) [])]) (Tr.owe (CallL Tryz.prog (D.func (Fn.func 27) [] []) [D.map 0] [(0,Ob.gen (Gen.mapC ks2 cs2) [])] fun r0 ob0 => r0 = D.vec 1 /\ ob0 = [(0,Ob.gen (Gen.mapC ks2 cs2) []),(1,Ob.arr false 1 9 r)]) (Tr.ret (D.own 1 9 r) []))))
theorem PBoA_eq (es gs r : List (List D)) (ks1 cs1 ks2 cs2 : List D) : goT Tryz.prog (ctr libT (bdQ ks1 cs1 ks2 cs2 (asmO (D.vec 1) [(0,Ob.gen (Gen.mapC ks2 cs2) []),(1,Ob.arr false 1 9 r)]))) 0 (finF true 0 rs9) 2000 [Fr.sc sc9] { tm := envOf 0 [D.slice es [],D.slice gs []],ob := [] } = PBoA es gs r ks1 cs1 ks2 cs2 := by kernel_rfl
end Go.Proofs.YtiafmjolbacdaaaGreat

/- Bound; sizes,has,SameTexts. -/
namespace Go.Proofs.YtiafmjolbacdaaaGreat
open Go.Sx Go.RowKit
theorem Bound_ok (ls : List Lt) (hl : ls.length <= 281474976710656) (hok : ∀ x ∈ ls,okL x) (g : List Nm) (hg : g.length <= 1000000) (hp : (ls.flatMap Lt.pool).length <= 1000000) :
  FnOK Tryz.prog 9 [.slice (ltL ls) [],.slice (strC g) []] (.slice (strC (boundS ls g)) []) := by
 have hn0 : (addS [] g).Nodup := addS_nd List.nodup_nil
 have hl0 := (addS_len g []).2
 have hcl := closeS_len ls hn0
 have ha := addV_ok g (by omega) []
 have hb := bound_ok ls hl hok (addS [] g) hn0
 have hs := sorted_ok (closeS (addS [] g) ls) (by simp only [List.length_nil] at hl0; omega) (closeS_nd ls hn0)
 unfold boundS
 generalize closeS (addS [] g) ls = T at hb hs ⊢
 generalize srt T = z at hs ⊢
 cases z with
 | nil =>
  refine FnOK.tree hdraw fp9 (ctr_ok libT_ok (bdQ_ok (asmO_ok _ _))) (PBoN_eq (ltL ls) (strC g) (kS (addS [] g)) (uS (addS [] g)) (kS T) (uS T)) ?_
  unfold PBoN
  rw [ok_owe,ok_owe,ok_owe,ok_owe,ok_ret]
  exact ⟨trivial,ha,hb,hs,rfl⟩
 | cons c r =>
  refine FnOK.freezeT (ty := 9) (FnOK.tree hdraw fp9 (ctr_ok libT_ok (bdQ_ok (asmO_ok _ _))) (PBoA_eq (ltL ls) (strC g) (strC (c :: r)) (kS (addS [] g)) (uS (addS [] g)) (kS T) (uS T)) ?_)
  unfold PBoA
  rw [ok_owe,ok_owe,ok_owe,ok_owe,ok_ret]
  exact ⟨trivial,ha,hb,hs,rfl⟩
def dCtr (l : List (Nat × D)) (e : List (Nat × List D) := []) (q : QT := qnone) : Ctr := ⟨fun t f az => match lk l t with | some r => some (.ok (FnOK Tryz.prog f az r) r []) | none => none,fun _ => q,fun t _ => (lk e t).getD []⟩
theorem dCtr_ok {l : List (Nat × D)} {e : List (Nat × List D)} {q : QT} (hq : q.OK) : (dCtr l e q).OK Tryz.prog := by
 refine ⟨fun t f az rt h => ?_,fun _ => hq⟩
 simp only [dCtr] at h
 split at h
 ·cases h; exact fun hp => hp
 ·cases h
noncomputable def PSz (k n : Int) (s : List UInt8) (a : List (List D)) (m c : Int) : Tr := Tr.owe ((-9223372036854775808 : Int) <= m - (1 : Int) /\ m - (1 : Int) <= (9223372036854775807 : Int)) (Tr.owe (FnOK Tryz.prog 28 [D.slice a [],D.int .i64 (m - (1 : Int))] (D.int .i64 c)) (Tr.owe ((-9223372036854775808 : Int) <= (1 : Int) + c /\ (1 : Int) + c <= (9223372036854775807 : Int)) (Tr.ret (D.int .i64 ((1 : Int) + c)) [])))
theorem PSz_eq (k n : Int) (s : List UInt8) (a : List (List D)) (m c : Int) : goT Tryz.prog (ctr (asmP (D.int .i64 c))) 0 (finF true 0 rs23) 2000 [Fr.sc sc23] { tm := envOf 0 [D.agg (tC k n s a),D.int .i64 m],ob := [] } = PSz k n s a m c := by kernel_rfl
noncomputable def PSzs (a : List (List D)) (m : Int) : Tr := Tr.jmp (cut sc28 0) { tm := [(0,D.slice a []),(1,D.int .i64 m),(5,D.int .i64 (0 : Int)),(6,D.int .i64 (0 : Int))],ob := [] }
theorem PSzs_eq (a : List (List D)) (m : Int) : goT Tryz.prog (ctr libT) 0 (finF true 0 rs28) 2000 [Fr.sc sc28] { tm := envOf 0 [D.slice a [],D.int .i64 m],ob := [] } = PSzs a m := by kernel_rfl
def hdSz (a : List (List D)) (m n i : Int) : St := ⟨[(0,.slice a []),(1,.int .i64 m),(5,.int .i64 n),(6,.int .i64 i)],[]⟩
noncomputable def PSzs2 (a : List (List D)) (m n i kx nx : Int) (sx : List UInt8) (ax : List (List D)) (c : Int) : Tr := brT (decide (i < (↑(List.length a) : Int))) (brT (decide (n <= m)) (Tr.owe ((0 : Int) <= i /\ a[Int.toNat i]? = some (tC kx nx sx ax)) (Tr.owe ((-9223372036854775808 : Int) <= m - n /\ m - n <= (9223372036854775807 : Int)) (Tr.owe (FnOK Tryz.prog 23 [D.agg (tC kx nx sx ax),D.int .i64 (m - n)] (D.int .i64 c)) (Tr.owe ((-9223372036854775808 : Int) <= n + c /\ n + c <= (9223372036854775807 : Int)) (Tr.owe ((-9223372036854775808 : Int) <= i + (1 : Int) /\ i + (1 : Int) <= (9223372036854775807 : Int)) (Tr.jmp (cut sc28 0) { tm := [(0,D.slice a []),(1,D.int .i64 m),(5,D.int .i64 (n + c)),(6,D.int .i64 (i + (1 : Int)))],ob := [] })))))) (Tr.ret (D.int .i64 n) [])) (Tr.ret (D.int .i64 n) [])
theorem PSzs2_eq (a : List (List D)) (m n i kx nx : Int) (sx : List UInt8) (ax : List (List D)) (c : Int) : goT Tryz.prog (ctr (asmP (D.int .i64 c)) qnone (eOne (tC kx nx sx ax))) 0 (finF true 0 rs28) 2000 (cut sc28 0) (hdSz a m n i) = PSzs2 a m n i kx nx sx ax c := by kernel_rfl
noncomputable def PSa (p : List UInt8) (a : List (List D)) (m c : Int) : Tr := Tr.owe ((-9223372036854775808 : Int) <= m - (1 : Int) /\ m - (1 : Int) <= (9223372036854775807 : Int)) (Tr.owe (FnOK Tryz.prog 28 [D.slice a [],D.int .i64 (m - (1 : Int))] (D.int .i64 c)) (Tr.owe ((-9223372036854775808 : Int) <= (1 : Int) + c /\ (1 : Int) + c <= (9223372036854775807 : Int)) (Tr.ret (D.int .i64 ((1 : Int) + c)) [])))
theorem PSa_eq (p : List UInt8) (a : List (List D)) (m c : Int) : goT Tryz.prog (ctr (asmP (D.int .i64 c))) 0 (finF true 0 rs22) 2000 [Fr.sc sc22] { tm := envOf 0 [D.agg [D.str p,D.slice a []],D.int .i64 m],ob := [] } = PSa p a m c := by kernel_rfl
noncomputable def PSl (a ext : List (List D)) (m : Int) : Tr := Tr.jmp (cut sc8 0) { tm := [(0,D.slice a ext),(1,D.int .i64 m),(5,D.int .i64 (0 : Int)),(6,D.int .i64 (0 : Int))],ob := [] }
theorem PSl_eq (a ext : List (List D)) (m : Int) : goT Tryz.prog (ctr libT) 0 (finF true 0 rs8) 2000 [Fr.sc sc8] { tm := envOf 0 [D.slice a ext,D.int .i64 m],ob := [] } = PSl a ext m := by kernel_rfl
def hdSl (a ext : List (List D)) (m n i : Int) : St := ⟨[(0,.slice a ext),(1,.int .i64 m),(5,.int .i64 n),(6,.int .i64 i)],[]⟩
noncomputable def PSl2 (es ext : List (List D)) (m n i k : Int) (no : Bool) (p : List UInt8) (a : List (List D)) (op kx nx : Int) (sx : List UInt8) (ax : List (List D)) (ky ny : Int) (sy : List UInt8) (ay : List (List D)) (c1 c2 c3 : Int) : Tr := brT (decide (i < (↑(List.length es) : Int))) (brT (decide (n <= m)) (Tr.owe ((0 : Int) <= i /\ es[Int.toNat i]? = some [D.int .u8 k,D.bool no,D.str p,D.slice a [],D.int .u8 op,D.int .u8 kx,D.int .i64 nx,D.str sx,D.slice ax [],D.int .u8 ky,D.int .i64 ny,D.str sy,D.slice ay []]) (Tr.owe ((-9223372036854775808 : Int) <= m - n /\ m - n <= (9223372036854775807 : Int)) (Tr.owe (FnOK Tryz.prog 22 [D.agg [D.str p,D.slice a []],D.int .i64 (m - n)] (D.int .i64 c1)) (Tr.owe ((-9223372036854775808 : Int) <= (1 : Int) + c1 /\ (1 : Int) + c1 <= (9223372036854775807 : Int)) (Tr.owe ((0 : Int) <= i /\ es[Int.toNat i]? = some [D.int .u8 k,D.bool no,D.str p,D.slice a [],D.int .u8 op,D.int .u8 kx,D.int .i64 nx,D.str sx,D.slice ax [],D.int .u8 ky,D.int .i64 ny,D.str sy,D.slice ay []]) (Tr.owe ((-9223372036854775808 : Int) <= m - n /\ m - n <= (9223372036854775807 : Int)) (Tr.owe (FnOK Tryz.prog 23 [D.agg (tC kx nx sx ax),D.int .i64 (m - n)] (D.int .i64 c2)) (Tr.owe ((-9223372036854775808 : Int) <= (1 : Int) + c1 + c2 /\ (1 : Int) + c1 + c2 <= (9223372036854775807 : Int)) (Tr.owe ((0 : Int) <= i /\ es[Int.toNat i]? = some [D.int .u8 k,D.bool no,D.str p,D.slice a [],D.int .u8 op,D.int .u8 kx,D.int .i64 nx,D.str sx,D.slice ax [],D.int .u8 ky,D.int .i64 ny,D.str sy,D.slice ay []]) (Tr.owe ((-9223372036854775808 : Int) <= m - n /\ m - n <= (9223372036854775807 : Int)) (Tr.owe (FnOK Tryz.prog 23 [D.agg (tC ky ny sy ay),D.int .i64 (m - n)] (D.int .i64 c3)) (Tr.owe ((-9223372036854775808 : Int) <= (1 : Int) + c1 + c2 + c3 /\ (1 : Int) + c1 + c2 + c3 <= (9223372036854775807 : Int)) (Tr.owe ((-9223372036854775808 : Int) <= n + ((1 : Int) + c1 + c2 + c3) /\ n + ((1 : Int) + c1 + c2 + c3) <= (9223372036854775807 : Int)) (Tr.owe ((-9223372036854775808 : Int) <= i + (1 : Int) /\ i + (1 : Int) <= (9223372036854775807 : Int)) (Tr.jmp (cut sc8 0) { tm := [(0,D.slice es ext),(1,D.int .i64 m),(5,D.int .i64 (n + ((1 : Int) + c1 + c2 + c3))),(6,D.int .i64 (i + (1 : Int)))],ob := [] }))))))))))))))) (Tr.ret (D.int .i64 n) [])) (Tr.ret (D.int .i64 n) [])
theorem PSl2_eq (es ext : List (List D)) (m n i k : Int) (no : Bool) (p : List UInt8) (a : List (List D)) (op kx nx : Int) (sx : List UInt8) (ax : List (List D)) (ky ny : Int) (sy : List UInt8) (ay : List (List D)) (c1 c2 c3 : Int) : goT Tryz.prog (dCtr [(27,D.int .i64 c1),(37,D.int .i64 c2),(47,D.int .i64 c3)] [(21,lC k no p a op kx nx sx ax ky ny sy ay),(31,lC k no p a op kx nx sx ax ky ny sy ay),(41,lC k no p a op kx nx sx ax ky ny sy ay)]) 0 (finF true 0 rs8) 2000 (cut sc8 0) (hdSl es ext m n i) = PSl2 es ext m n i k no p a op kx nx sx ax ky ny sy ay c1 c2 c3 := by kernel_rfl
def hdHas (es : List (List D)) (s : List UInt8) (i : Int) : St := ⟨[(0,.slice es []),(1,.str s),(5,.int .i64 i)],[]⟩
noncomputable def PSt (es fs : List (List D)) : Tr := brT (!decide ((↑(List.length es) : Int) = (↑(List.length fs) : Int))) (Tr.ret (D.bool false) []) (Tr.jmp (cut sc11 0) { tm := [(0,D.slice es []),(1,D.slice fs []),(5,D.int .i64 (0 : Int))],ob := [] })
theorem PSt_eq (es fs : List (List D)) : goT Tryz.prog (dCtr []) 0 (finF true 0 rs11) 2000 [Fr.sc sc11] { tm := envOf 0 [D.slice es [],D.slice fs []],ob := [] } = PSt es fs := by kernel_rfl
def hdSt (es fs : List (List D)) (i : Int) : St := ⟨[(0,.slice es []),(1,.slice fs []),(5,.int .i64 i)],[]⟩
noncomputable def PSt2 (es fs : List (List D)) (i : Int) (s t : List UInt8) : Tr := brT (decide (i < (↑(List.length es) : Int))) (Tr.owe ((0 : Int) <= i /\ es[Int.toNat i]? = some [D.str s]) (Tr.owe ((0 : Int) <= i /\ fs[Int.toNat i]? = some [D.str t]) (brT (!decide (s = t)) (Tr.ret (D.bool false) []) (Tr.owe ((-9223372036854775808 : Int) <= i + (1 : Int) /\ i + (1 : Int) <= (9223372036854775807 : Int)) (Tr.jmp (cut sc11 0) { tm := [(0,D.slice es []),(1,D.slice fs []),(5,D.int .i64 (i + (1 : Int)))],ob := [] }))))) (Tr.ret (D.bool true) [])
theorem PSt2_eq (es fs : List (List D)) (i : Int) (s t : List UInt8) : goT Tryz.prog (dCtr [] [(19,[D.str s]),(23,[D.str t])]) 0 (finF true 0 rs11) 2000 (cut sc11 0) (hdSt es fs i) = PSt2 es fs i s t := by kernel_rfl
end Go.Proofs.YtiafmjolbacdaaaGreat

/- Sizes,has,SameTexts,proved. -/
namespace Go.Proofs.YtiafmjolbacdaaaGreat
open Go.Sx Go.RowKit
theorem cellsL_get {l : List Tm} {i : Nat} (h : i < l.length) : (Tm.cellsL l)[i]? = some l[i].cells := by rw [cellsL_map]; simp [h]
theorem wf_get {B : Nat} {l : List Tm} (h : Tm.wfL B l) {t : Tm} (ht : t ∈ l) : t.wf B := wfL_all.1 h t ht
def SzP (x : Tm) : Prop := ∀ m : Int,0 <= m -> m <= 1000000 -> FnOK Tryz.prog 23 [.agg x.cells,.int .i64 m] (.int .i64 (x.sz m))
theorem szs_at (l : List Tm) (hl : l.length <= 281474976710656) (H : ∀ x ∈ l,SzP x) (M : Int) (hM : -1 <= M /\ M <= 1000000) : ∀ (m i : Nat) (n : Int),l.length - i = m -> i <= l.length -> 0 <= n -> n <= M + 1 →
  At Tryz.prog 0 (cut sc28 0) (hdSz (Tm.cellsL l) M n i) (FinQ true 0 rs28 fun r _ => r = .int .i64 (Tm.szL (l.drop i) M n)) := by
 intro m
 induction m with
 | zero =>
  intro i n hm hi hn hn2
  refine At.tree (ctr_ok (asmP_ok (.int .i64 0)) qnone_ok) (PSzs2_eq (Tm.cellsL l) M n i 0 0 [] [] 0) ?_
  unfold PSzs2
  rw [List.drop_eq_nil_of_le (show l.length <= i by omega)]
  simp only [SS,cellsL_length]
  exact ⟨fun h => by omega,fun _ => rfl⟩
 | succ m ih =>
  intro i n hm hi hn hn2
  have h1 : i < l.length := by omega
  have hx := cellsL_get h1
  have hC := H _ (List.getElem_mem h1)
  rw [drop_cons h1]
  simp only [Tm.szL]
  by_cases hnm : n <= M
  ·rw [if_pos hnm]
   have hC2 := hC (M - n) (by omega) (by omega)
   have hge := sz_ge l[i] (M - n)
   have hle := sz_le l[i] (M - n) (by omega)
   have hI := ih (i + 1) (n + Tm.sz l[i] (M - n)) (by omega) (by omega) (by omega) (by omega)
   generalize Tm.sz l[i] (M - n) = c at hC2 hI hge hle ⊢
   generalize l[i] = x at hx hC2
   obtain ⟨kx,nx,sx,ax⟩ := x
   refine At.tree (ctr_ok (asmP_ok (.int .i64 c)) qnone_ok) (PSzs2_eq (Tm.cellsL l) M n i kx nx sx (Tm.cellsL ax) c) ?_
   unfold PSzs2
   simp only [SS,cellsL_length]
   exact ⟨fun _ => ⟨fun _ => ⟨⟨by omega,hx⟩,by omega,hC2,by omega,by omega,hI⟩,fun h => by omega⟩,fun h => by omega⟩
  ·rw [if_neg hnm]
   refine At.tree (ctr_ok (asmP_ok (.int .i64 0)) qnone_ok) (PSzs2_eq (Tm.cellsL l) M n i 0 0 [] [] 0) ?_
   unfold PSzs2
   simp only [SS,cellsL_length]
   exact ⟨fun _ => ⟨fun h => by omega,fun _ => trivial⟩,fun h => by omega⟩
theorem szs_ok (l : List Tm) (hl : l.length <= 281474976710656) (H : ∀ x ∈ l,SzP x) (M : Int) (hM : -1 <= M /\ M <= 1000000) : FnOK Tryz.prog 28 [.slice (Tm.cellsL l) [],.int .i64 M] (.int .i64 (Tm.szL l M 0)) :=
 FnOK.tree hdraw fp28 (ctr_ok libT_ok qnone_ok) (PSzs_eq (Tm.cellsL l) M) (szs_at l hl H M hM _ 0 0 rfl (Nat.zero_le _) (by omega) (by omega))
theorem sz_ok : ∀ (x : Tm),x.wf 281474976710656 -> SzP x
 | .mk k n s l,hx => by
  simp only [Tm.wf] at hx
  obtain ⟨hk,hn1,hn2,hs,hl,hw⟩ := hx
  intro m h0 h1
  have hC := szs_ok l hl (fun x hx => sz_ok x (wf_get hw hx)) (m - 1) (by omega)
  have hge := szL_ge l (m - 1) 0
  have hle := szL_le l (m - 1) 0 (by omega)
  refine FnOK.tree hdraw fp23 (ctr_ok (asmP_ok (.int .i64 (Tm.szL l (m - 1) 0))) qnone_ok) (PSz_eq k n s (Tm.cellsL l) m (Tm.szL l (m - 1) 0)) ?_
  unfold PSz
  simp only [SS]
  exact ⟨by omega,hC,by omega,rfl⟩
termination_by x => SizeOf.sizeOf x
decreasing_by
 have := List.sizeOf_lt_of_mem hx
 simp only [Tm.mk.sizeOf_spec]
 omega
theorem sza_ok (p : Nm) (l : List Tm) (hl : l.length <= 281474976710656) (hw : Tm.wfL 281474976710656 l) (m : Int) (h0 : 0 <= m) (h1 : m <= 1000000) : FnOK Tryz.prog 22 [.agg [.str p,.slice (Tm.cellsL l) []],.int .i64 m] (.int .i64 (1 + Tm.szL l (m - 1) 0)) := by
 have hC := szs_ok l hl (fun x hx => sz_ok x (wf_get hw hx)) (m - 1) (by omega)
 have hge := szL_ge l (m - 1) 0
 have hle := szL_le l (m - 1) 0 (by omega)
 refine FnOK.tree hdraw fp22 (ctr_ok (asmP_ok (.int .i64 (Tm.szL l (m - 1) 0))) qnone_ok) (PSa_eq p (Tm.cellsL l) m (Tm.szL l (m - 1) 0)) ?_
 unfold PSa
 simp only [SS]
 exact ⟨by omega,hC,by omega⟩
theorem szl_at (l : List Lt) (ext : List (List D)) (hl : l.length <= 281474976710656) (H : ∀ x ∈ l,x.wf 281474976710656) (M : Int) (hM : 0 <= M /\ M <= 1000000) : ∀ (m i : Nat) (n : Int),l.length - i = m -> i <= l.length -> 0 <= n -> n <= 4 * M + 100 →
  At Tryz.prog 0 (cut sc8 0) (hdSl (ltL l) ext M n i) (FinQ true 0 rs8 fun r _ => r = .int .i64 (szLts (l.drop i) M n)) := by
 intro m
 induction m with
 | zero =>
  intro i n hm hi hn hn2
  refine At.tree (dCtr_ok qnone_ok) (PSl2_eq (ltL l) ext M n i 0 true [] [] 0 0 0 [] [] 0 0 [] [] 0 0 0) ?_
  unfold PSl2
  rw [List.drop_eq_nil_of_le (show l.length <= i by omega)]
  simp only [SS,ltL_len]
  exact ⟨fun h => by omega,fun _ => rfl⟩
 | succ m ih =>
  intro i n hm hi hn hn2
  have h1 : i < l.length := by omega
  have hx := ltL_get h1
  have hC := H _ (List.getElem_mem h1)
  rw [drop_cons h1]
  simp only [szLts]
  by_cases hnm : n <= M
  ·rw [if_pos hnm]
   obtain ⟨_,_,wl,wa,_,w1,w2⟩ := hC
   have hA := sza_ok l[i].p l[i].a wl wa (M - n) (by omega) (by omega)
   have hB := sz_ok l[i].l w1 (M - n) (by omega) (by omega)
   have hD := sz_ok l[i].r w2 (M - n) (by omega) (by omega)
   have a1 := szL_ge l[i].a (M - n - 1) 0
   have a2 := szL_le l[i].a (M - n - 1) 0 (by omega)
   have b1 := sz_ge l[i].l (M - n)
   have b2 := sz_le l[i].l (M - n) (by omega)
   have d1 := sz_ge l[i].r (M - n)
   have d2 := sz_le l[i].r (M - n) (by omega)
   have e : szLt l[i] (M - n) = 1 + (1 + Tm.szL l[i].a (M - n - 1) 0) + l[i].l.sz (M - n) + l[i].r.sz (M - n) := rfl
   have hI := ih (i + 1) (n + szLt l[i] (M - n)) (by omega) (by omega) (by omega) (by omega)
   rw [e] at hI ⊢
   generalize Tm.szL l[i].a (M - n - 1) 0 = c1 at hA hI a1 a2 ⊢
   generalize Tm.sz l[i].l (M - n) = c2 at hB hI b1 b2 ⊢
   generalize Tm.sz l[i].r (M - n) = c3 at hD hI d1 d2 ⊢
   generalize l[i] = x at hx hA hB hD
   obtain ⟨k,no,p,a,op,⟨kx,nx,sx,ax⟩,⟨ky,ny,sy,ay⟩⟩ := x
   refine At.tree (dCtr_ok qnone_ok) (PSl2_eq (ltL l) ext M n i k no p (Tm.cellsL a) op kx nx sx (Tm.cellsL ax) ky ny sy (Tm.cellsL ay) (1 + c1) c2 c3) ?_
   unfold PSl2
   simp only [SS,ltL_len]
   exact ⟨fun _ => ⟨fun _ => ⟨⟨by omega,hx⟩,by omega,hA,by omega,⟨by omega,hx⟩,by omega,hB,by omega,⟨by omega,hx⟩,by omega,hD,by omega,by omega,by omega,hI⟩,fun h => by omega⟩,fun h => by omega⟩
  ·rw [if_neg hnm]
   refine At.tree (dCtr_ok qnone_ok) (PSl2_eq (ltL l) ext M n i 0 true [] [] 0 0 0 [] [] 0 0 [] [] 0 0 0) ?_
   unfold PSl2
   simp only [SS,ltL_len]
   exact ⟨fun _ => ⟨fun h => by omega,fun _ => trivial⟩,fun h => by omega⟩
theorem szl_ok (l : List Lt) (ext : List (List D)) (hl : l.length <= 281474976710656) (H : ∀ x ∈ l,x.wf 281474976710656) (M : Int) (hM : 0 <= M /\ M <= 1000000) : FnOK Tryz.prog 8 [.slice (ltL l) ext,.int .i64 M] (.int .i64 (szLts l M 0)) :=
 FnOK.tree hdraw fp8 (ctr_ok libT_ok qnone_ok) (PSl_eq (ltL l) ext M) (szl_at l ext hl H M hM _ 0 0 rfl (Nat.zero_le _) (by omega) (by omega))
theorem same_ok (l : List Nm) (hl : l.length <= 281474976710656) : FnOK Tryz.prog 11 [.slice (strC l) [],.slice (strC l) []] (.bool true) := by
 have at_ : ∀ (m i : Nat),l.length - i = m -> i <= l.length -> At Tryz.prog 0 (cut sc11 0) (hdSt (strC l) (strC l) i) (FinQ true 0 rs11 fun r _ => r = .bool true) := by
  intro m
  induction m with
  | zero =>
   intro i hm hi
   refine At.tree (dCtr_ok qnone_ok) (PSt2_eq (strC l) (strC l) i [] []) ?_
   unfold PSt2
   rw [ok_br,strC_len]
   refine ⟨fun h => ?_,fun _ => rfl⟩
   have := of_decide_eq_true h; omega
  | succ m ih =>
   intro i hm hi
   have h1 : i < l.length := by omega
   have hI := ih (i + 1) (by omega) (by omega)
   refine At.tree (dCtr_ok qnone_ok) (PSt2_eq (strC l) (strC l) i l[i] l[i]) ?_
   unfold PSt2
   rw [ok_br,strC_len]
   refine ⟨fun _ => ?_,fun h => ?_⟩
   ·rw [ok_owe,ok_owe,ok_br,ok_owe,ok_jmp,Int.toNat_natCast]
    exact ⟨⟨by omega,strC_gt h1⟩,⟨by omega,strC_gt h1⟩,fun h => by simp at h,fun _ => ⟨by omega,hI⟩⟩
   ·have := of_decide_eq_false h; omega
 refine FnOK.tree hdraw fp11 (dCtr_ok qnone_ok) (PSt_eq (strC l) (strC l)) ?_
 unfold PSt
 rw [ok_br,ok_jmp]
 exact ⟨fun h => by simp at h,fun _ => at_ _ 0 rfl (Nat.zero_le _)⟩
end Go.Proofs.YtiafmjolbacdaaaGreat
