/- Own work: a layer over the kit: plain data,a walk over it,its soundness. -/
import Derived.Test.YtobgkdlghljdlaaGreatDoorRows
import Derived.Test.YtobgkdlghljdlaaGreatDoorMtWa
import Derived.Test.YtobgkdlghljdlaaGreatDoorMtWb
import Derived.Test.YtobgkdlghljdlaaGreatDoorMtWc
import Derived.Test.YtobgkdlghljdlaaGreatDoorArXpE
import Derived.Test.YtobgkdlghljdlaaGreatDoorRun
set_option linter.unusedSectionVars false
set_option linter.unusedVariables false
set_option linter.unusedSimpArgs false
set_option linter.deprecated false
set_option maxRecDepth 100000
/- What awake reads: the table. -/
namespace Go.Proofs.YtobgkdlghljdlaaGreatDoor
open Go.Sx
set_option maxRecDepth 100000
def rdL:List (FuncId × List D × D):=[(31,[.str [50]],.agg (nT 2)),
 (31,[.str [49]],.agg (nT 1)),
 (31,[.str [97]],.agg (aT)),
 (31,[.str [51]],.agg (nT 3)),
 (31,[.str [102,40,88,44,88,41]],.agg (fT xT xT)),
 (31,[.str [102,40,49,44,50,41]],.agg (fT (nT 1) (nT 2))),
 (31,[.str [88,43,49]],.agg (oT [43] xT (nT 1))),
 (31,[.str [102,40,88,44,103,40,89,41,41]],.agg (fT xT (gT yT))),
 (31,[.str [102,40,49,44,103,40,97,41,41]],.agg (fT (nT 1) (gT aT))),
 (31,[.str [49,46,46,51]],.agg (rT (nT 1) (nT 3))),
 (31,[.str [102,40,88,43,49,44,88,41]],.agg (fT (oT [43] xT (nT 1)) xT)),
 (31,[.str [102,40,51,44,50,41]],.agg (fT (nT 3) (nT 2))),
 (31,[.str [88,43,89]],.agg (oT [43] xT yT)),
 (31,[.str [50,43,89]],.agg (oT [43] (nT 2) yT))]
def tabR:Tab:=tab.mem rdL
theorem ZdN:tabR.OK Tryz.prog:=Qe.mem_ok ⟨r2,r1,ra,r3,rfxx,rf12,rx1,rfxg,rf1g,r13,rfx1,rf32,rxy,r2y,trivial⟩
end Go.Proofs.YtobgkdlghljdlaaGreatDoor
/- awake,run: true. -/
namespace Go.Proofs.YtobgkdlghljdlaaGreatDoor
open Go.Sx
set_option maxRecDepth 100000
abbrev noB:D:= .tuple [.slice [] [],.bool false]
abbrev pX (s:LU) (v:List D):List D:= .str s::v
abbrev bd2:D:= .slice [pX [88] (nT 2)] []
def nM (n:Int):Tm:= .mk 1 n [] []
def vM (s:LU):Tm:= .mk 3 0 s []
def aM:Tm:= .mk 2 0 [97] []
def gM (a:Tm):Tm:= .mk 4 0 [103] [a]
def fM (a b:Tm):Tm:= .mk 4 0 [102] [a,b]
def oM (s:LU) (a b:Tm):Tm:= .mk 5 0 s [a,b]
def rM (a b:Tm):Tm:= .mk 6 0 [] [a,b]
theorem ma (p v:Tm) (b:List Bd) (c:Option (List Bd)) (hp:TmB p) (hv:TmB v) (hb:BdB b) (h1:p.cnt<=99999) (h:lstB [p] [v] b=c):FK 12 [.agg p.cells,.agg v.cells,.slice (bdL b) []] (bndD c):=by
 subst h
 exact Zbr p v b hp hv h1 hb
theorem bdB0:BdB []:=⟨by simp,fun x hx=>(by cases hx),fun x hx=>(by cases hx)⟩
def b2M:List Bd:=[⟨[88],nM 2⟩]
theorem bdB2:BdB b2M:=⟨by decide,fun x hx=>by rw[b2M,List.mem_singleton] at hx; subst hx; simp[Bd.wf,nM,Tm.wf,Tm.wfL],fun x hx=>by rw[b2M,List.mem_singleton] at hx; subst hx; exact (by refine⟨?_, ?_,by decide⟩ <;> simp[fM,vM,nM,gM,aM,oM,rM,Tm.wf,Tm.wfL,Tm.few,Tm.fewL])⟩
theorem y1:FK 12 [.agg (fT xT xT),.agg (fT (nT 1) (nT 2)),.slice [] []] noB:=ma (fM (vM [88]) (vM [88])) (fM (nM 1) (nM 2)) [] none (by refine⟨?_, ?_,by decide⟩ <;> simp[fM,vM,nM,gM,aM,oM,rM,Tm.wf,Tm.wfL,Tm.few,Tm.fewL]) (by refine⟨?_, ?_,by decide⟩ <;> simp[fM,vM,nM,gM,aM,oM,rM,Tm.wf,Tm.wfL,Tm.few,Tm.fewL]) bdB0 (by decide) (by kernel_rfl)
theorem y2:FK 12 [.agg (oT [43] xT (nT 1)),.agg (nT 3),.slice [] []] noB:=ma (oM [43] (vM [88]) (nM 1)) (nM 3) [] none (by refine⟨?_, ?_,by decide⟩ <;> simp[fM,vM,nM,gM,aM,oM,rM,Tm.wf,Tm.wfL,Tm.few,Tm.fewL]) (by refine⟨?_, ?_,by decide⟩ <;> simp[fM,vM,nM,gM,aM,oM,rM,Tm.wf,Tm.wfL,Tm.few,Tm.fewL]) bdB0 (by decide) (by kernel_rfl)
theorem y3:FK 12 [.agg (fT xT (gT yT)),.agg (fT (nT 1) (gT aT)),.slice [] []] (.tuple [.slice [pX [88] (nT 1),pX [89] aT] [],.bool true]):=ma (fM (vM [88]) (gM (vM [89]))) (fM (nM 1) (gM aM)) [] (some [⟨[88],nM 1⟩,⟨[89],aM⟩]) (by refine⟨?_, ?_,by decide⟩ <;> simp[fM,vM,nM,gM,aM,oM,rM,Tm.wf,Tm.wfL,Tm.few,Tm.fewL]) (by refine⟨?_, ?_,by decide⟩ <;> simp[fM,vM,nM,gM,aM,oM,rM,Tm.wf,Tm.wfL,Tm.few,Tm.fewL]) bdB0 (by decide) (by kernel_rfl)
theorem y4:FK 12 [.agg (oT [43] xT (nT 1)),.agg (nT 3),bd2] (.tuple [bd2,.bool true]):=ma (oM [43] (vM [88]) (nM 1)) (nM 3) b2M (some b2M) (by refine⟨?_, ?_,by decide⟩ <;> simp[fM,vM,nM,gM,aM,oM,rM,Tm.wf,Tm.wfL,Tm.few,Tm.fewL]) (by refine⟨?_, ?_,by decide⟩ <;> simp[fM,vM,nM,gM,aM,oM,rM,Tm.wf,Tm.wfL,Tm.few,Tm.fewL]) bdB2 (by decide) (by kernel_rfl)
theorem y5:FK 12 [.agg (rT (nT 1) (nT 3)),.agg (nT 2),.slice [] []] (.tuple [.slice [] [],.bool true]):=ma (rM (nM 1) (nM 3)) (nM 2) [] (some []) (by refine⟨?_, ?_,by decide⟩ <;> simp[fM,vM,nM,gM,aM,oM,rM,Tm.wf,Tm.wfL,Tm.few,Tm.fewL]) (by refine⟨?_, ?_,by decide⟩ <;> simp[fM,vM,nM,gM,aM,oM,rM,Tm.wf,Tm.wfL,Tm.few,Tm.fewL]) bdB0 (by decide) (by kernel_rfl)
theorem y6:FK 12 [.agg (fT (oT [43] xT (nT 1)) xT),.agg (fT (nT 3) (nT 2)),.slice [] []] (.tuple [bd2,.bool true]):=ma (fM (oM [43] (vM [88]) (nM 1)) (vM [88])) (fM (nM 3) (nM 2)) [] (some b2M) (by refine⟨?_, ?_,by decide⟩ <;> simp[fM,vM,nM,gM,aM,oM,rM,Tm.wf,Tm.wfL,Tm.few,Tm.fewL]) (by refine⟨?_, ?_,by decide⟩ <;> simp[fM,vM,nM,gM,aM,oM,rM,Tm.wf,Tm.wfL,Tm.few,Tm.fewL]) bdB0 (by decide) (by kernel_rfl)
theorem y7:FK 20 [.agg (oT [43] xT yT),bd2] (.agg (oT [43] (nT 2) yT)):=by
 have h:=Z0A b2M (by decide) bdB2.wf (fun x hx=>by have:=(bdB2.tm x hx).2.2; omega) (fun x hx=>(bdB2.tm x hx).2.1) (oM [43] (vM [88]) (vM [89])) (by simp[vM,oM,Tm.few,Tm.fewL])
 have e:(oM [43] (vM [88]) (vM [89])).ap (vldB b2M)=oM [43] (nM 2) (vM [89]):=by kernel_rfl
 rw[e] at h
 exact h
def maL:List (FuncId × List D × D):=[(12,[.agg (fT xT xT),.agg (fT (nT 1) (nT 2)),.slice [] []],noB),
 (12,[.agg (oT [43] xT (nT 1)),.agg (nT 3),.slice [] []],noB),
 (12,[.agg (fT xT (gT yT)),.agg (fT (nT 1) (gT aT)),.slice [] []],(.tuple [.slice [pX [88] (nT 1),pX [89] aT] [],.bool true])),
 (12,[.agg (oT [43] xT (nT 1)),.agg (nT 3),bd2],(.tuple [bd2,.bool true])),
 (12,[.agg (rT (nT 1) (nT 3)),.agg (nT 2),.slice [] []],(.tuple [.slice [] [],.bool true])),
 (12,[.agg (fT (oT [43] xT (nT 1)) xT),.agg (fT (nT 3) (nT 2)),.slice [] []],(.tuple [bd2,.bool true])),
 (20,[.agg (oT [43] xT yT),bd2],(.agg (oT [43] (nT 2) yT)))]
def tabM:Tab:=tabR.mem maL
theorem ZdO:tabM.OK Tryz.prog:=ZdN.mem_ok ⟨y1,y2,y3,y4,y5,y6,y7,trivial⟩
theorem Zcb:FK 7 [] (.bool true):=Qp Z4 ZdO 20000 (by kernel_rfl)
end Go.Proofs.YtobgkdlghljdlaaGreatDoor
/- What the bound on the bulk gives: no string and no slice is large. -/
namespace Go.Proofs.YtobgkdlghljdlaaGreatDoor
open Go.Sx
noncomputable abbrev tyN:Nat:=Tryz.prog.types.size
noncomputable def Z1W (t:TypeDesc):Bool:=match t with
 | .pointer e=>decide (e<tyN)
 | .slice e=>decide (e<tyN) && decide (Tryz.prog.bytesOf e<=400)
 | .struct fs=>fs.toList.all fun f=>decide (f.type<tyN)
 | .array _ e=>decide (e<tyN)
 | .map k e=>decide (e<tyN) && decide (Tryz.prog.bytesOf k+Tryz.prog.bytesOf e<=400)
 | _=>true
theorem Zih:((List.range tyN).all fun t=>match Tryz.prog.underlying t with | some d=>Z1W d | none=>true)=true:=by kernel_rfl
theorem Z0a {t:TypeId} {d:TypeDesc} (ht:t<tyN) (h:Tryz.prog.underlying t=some d):Z1W d=true:=by
 have hs:=List.all_eq_true.1 Zih t (List.mem_range.2 ht)
 rw[h] at hs
 exact hs
mutual
theorem w_le {H:Type}: ∀ (d:DataW H) (t:TypeId),t<tyN-> ∀ x∈d.weights Tryz.prog t,x<=400*Rows.uptoBulk d
 | .lit (.string b),t,ht,x,hx=>by
  simp only[DataW.weights,List.mem_singleton] at hx
  simp only[Rows.uptoBulk]
  omega
 | .lit (.bool _),t,ht,x,hx=>by simp[DataW.weights] at hx
 | .lit (.int _ _),t,ht,x,hx=>by simp[DataW.weights] at hx
 | .lit (.float _ _),t,ht,x,hx=>by simp[DataW.weights] at hx
 | .lit .nil,t,ht,x,hx=>by simp[DataW.weights] at hx
 | .nil,t,ht,x,hx=>by simp[DataW.weights] at hx
 | .ptr d,t,ht,x,hx=>by
  simp only[DataW.weights] at hx
  simp only[Rows.uptoBulk]
  split at hx
  ·rename_i e he
   have hb:=Z0a ht he
   simp only[Z1W,decide_eq_true_eq] at hb
   have:=w_le d _ hb x hx; omega
  ·cases hx
 | .slice elems spare,t,ht,x,hx=>by
  simp only[DataW.weights] at hx
  simp only[Rows.uptoBulk]
  split at hx
  ·rename_i e he
   have hb:=Z0a ht he
   simp only[Z1W,Bool.and_eq_true,decide_eq_true_eq] at hb
   obtain⟨hb0,hb⟩:=hb
   have l1:=Z3S elems
   have l2:=Z3S spare
   rcases List.mem_cons.1 hx with rfl | hx
   ·have:=Nat.mul_le_mul (show elems.length+spare.length<=Rows.uptoBulkAll elems+Rows.uptoBulkAll spare by omega) hb
    omega
   ·rcases List.mem_append.1 hx with hx | hx
    ·have:=ZaK elems e hb0 x hx; omega
    ·have:=ZaK spare e hb0 x hx; omega
  ·cases hx
 | .agg parts,t,ht,x,hx=>by
  simp only[DataW.weights] at hx
  simp only[Rows.uptoBulk]
  split at hx
  ·rename_i fs he
   have hb:=Z0a ht he
   simp only[Z1W,List.all_eq_true,decide_eq_true_eq] at hb
   have:=ZdF parts _ (fun t ht=>by obtain⟨f,hf,rfl⟩:=List.mem_map.1 ht; exact hb f hf) x hx; omega
  ·rename_i n e he
   have hb:=Z0a ht he
   simp only[Z1W,decide_eq_true_eq] at hb
   have:=ZaK parts _ hb x hx; omega
  ·cases hx
 | .iface _ _,t,ht,x,hx=>by simp[DataW.weights] at hx
 | .map entries,t,ht,x,hx=>by
  simp only[DataW.weights] at hx
  simp only[Rows.uptoBulk]
  split at hx
  ·rename_i k e he
   have hb:=Z0a ht he
   simp only[Z1W,Bool.and_eq_true,decide_eq_true_eq] at hb
   obtain⟨hb0,hb⟩:=hb
   have l1:=Z4D entries
   rcases List.mem_cons.1 hx with rfl | hx
   ·have:=Nat.mul_le_mul l1 hb
    omega
   ·have:=Zi5 entries e hb0 x hx; omega
  ·cases hx
 | .held _,t,ht,x,hx=>by simp[DataW.weights] at hx
theorem ZaK {H:Type}: ∀ (l:List (DataW H)) (e:TypeId),e<tyN-> ∀ x∈DataW.weightsAll Tryz.prog e l,x<=400*Rows.uptoBulkAll l
 | [],e,he0,x,hx=>by simp[DataW.weightsAll] at hx
 | d::r,e,he0,x,hx=>by
  simp only[DataW.weightsAll] at hx
  simp only[Rows.uptoBulkAll]
  rcases List.mem_append.1 hx with hx | hx
  ·have:=w_le d e he0 x hx; omega
  ·have:=ZaK r e he0 x hx; omega
theorem ZdF {H:Type}: ∀ (l:List (DataW H)) (ts:List TypeId),(∀ t∈ts,t<tyN)-> ∀ x∈DataW.weightsEach Tryz.prog ts l,x<=400*Rows.uptoBulkAll l
 | [],ts,hts,x,hx=>by cases ts <;> simp[DataW.weightsEach] at hx
 | d::r,[],hts,x,hx=>by simp[DataW.weightsEach] at hx
 | d::r,t::ts,hts,x,hx=>by
  simp only[DataW.weightsEach] at hx
  simp only[Rows.uptoBulkAll]
  rcases List.mem_append.1 hx with hx | hx
  ·have:=w_le d t (hts t (List.mem_cons_self ..)) x hx; omega
  ·have:=ZdF r ts (fun t h=>hts t (List.mem_cons_of_mem _ h)) x hx; omega
theorem Zi5 {H:Type}: ∀ (l:List (Lit × DataW H)) (e:TypeId),e<tyN-> ∀ x∈DataW.weightsEntries Tryz.prog e l,x<=400*Rows.uptoBulkEntries l
 | [],e,he0,x,hx=>by simp[DataW.weightsEntries] at hx
 | y::r,e,he0,x,hx=>by
  simp only[DataW.weightsEntries] at hx
  simp only[Rows.uptoBulkEntries]
  rcases List.mem_append.1 hx with hx | hx
  ·have:=Zno y e he0 x hx; omega
  ·have:=Zi5 r e he0 x hx; omega
theorem Zno {H:Type}: ∀ (y:Lit × DataW H) (e:TypeId),e<tyN-> ∀ x∈DataW.weightsEntry Tryz.prog e y,x<=400*Rows.uptoBulkEntry y
 | (.string b,d),e,he0,x,hx=>by
  simp only[DataW.weightsEntry] at hx
  simp only[Rows.uptoBulkEntry]
  rcases List.mem_cons.1 hx with rfl | hx
  ·omega
  ·have:=w_le d e he0 x hx; omega
 | (.bool _,d),e,he0,x,hx=>by
  simp only[DataW.weightsEntry] at hx
  simp only[Rows.uptoBulkEntry]
  have:=w_le d e he0 x hx; omega
 | (.int _ _,d),e,he0,x,hx=>by
  simp only[DataW.weightsEntry] at hx
  simp only[Rows.uptoBulkEntry]
  have:=w_le d e he0 x hx; omega
 | (.float _ _,d),e,he0,x,hx=>by
  simp only[DataW.weightsEntry] at hx
  simp only[Rows.uptoBulkEntry]
  have:=w_le d e he0 x hx; omega
 | (.nil,d),e,he0,x,hx=>by
  simp only[DataW.weightsEntry] at hx
  simp only[Rows.uptoBulkEntry]
  have:=w_le d e he0 x hx; omega
theorem ZbX {H:Type}: ∀ d:DataW H,1<=Rows.uptoBulk d
 | .lit l=>by cases l <;> simp[Rows.uptoBulk]
 | .nil=>by simp[Rows.uptoBulk]
 | .ptr d=>by simp[Rows.uptoBulk]
 | .slice _ _=>by simp[Rows.uptoBulk]
 | .agg _=>by simp[Rows.uptoBulk]
 | .iface _ _=>by simp[Rows.uptoBulk]
 | .map _=>by simp[Rows.uptoBulk]
 | .held _=>by simp[Rows.uptoBulk]
theorem Z3S {H:Type}: ∀ l:List (DataW H),l.length<=Rows.uptoBulkAll l
 | []=>by simp[Rows.uptoBulkAll]
 | d::r=>by
  have h1:=ZbX d
  have h2:=Z3S r
  simp only[Rows.uptoBulkAll,List.length_cons]
  omega
theorem Z4D {H:Type}: ∀ l:List (Lit × DataW H),l.length<=Rows.uptoBulkEntries l
 | []=>by simp[Rows.uptoBulkEntries]
 | y::r=>by
  have h2:=Z4D r
  have h1:1<=Rows.uptoBulkEntry y:=by
   obtain⟨l,d⟩:=y
   cases l <;> simp[Rows.uptoBulkEntry]
  simp only[Rows.uptoBulkEntries,List.length_cons]
  omega
end
theorem Zi8 {H:Type} {ds:List (DataW H)} {ts:List TypeId} (hts: ∀ t∈ts,t<tyN) (h:Rows.uptoSmall H ds=true): ∀ x∈DataW.weightsEach Tryz.prog ts ds,x<=419430400:=fun x hx=>by
 have h1:=of_decide_eq_true h
 have h2:=ZdF ds ts hts x hx
 omega
theorem ZbY {H:Type} (l m:List (DataW H)):Rows.uptoBulkAll (l++m)=Rows.uptoBulkAll l+Rows.uptoBulkAll m:=by
 induction l with
 | nil=>simp[Rows.uptoBulkAll]
 | cons x r ih=>simp only[List.cons_append,Rows.uptoBulkAll,ih]; omega
theorem ZdH {H:Type} {ds gs:List (DataW H)} {ts:List TypeId} (hts: ∀ t∈ts,t<tyN) (h:Rows.uptoSmall H (ds++gs)=true): ∀ x∈DataW.weightsEach Tryz.prog ts ds,x<=419430400 :=
 Zi8 hts (decide_eq_true (by have:=of_decide_eq_true h; rw[ZbY] at this; omega))
end Go.Proofs.YtobgkdlghljdlaaGreatDoor
