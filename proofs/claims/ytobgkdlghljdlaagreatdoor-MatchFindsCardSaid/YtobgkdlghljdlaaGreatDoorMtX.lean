/- Own work: a layer over the kit: plain data,a walk over it,its soundness. -/
import Derived.Test.YtobgkdlghljdlaaGreatDoorMtWa
import Derived.Test.YtobgkdlghljdlaaGreatDoorMtWb
import Derived.Test.YtobgkdlghljdlaaGreatDoorMtWc
import Derived.Test.YtobgkdlghljdlaaGreatDoorArXpE
set_option linter.unusedSectionVars false
set_option linter.unusedVariables false
set_option linter.unusedSimpArgs false
set_option linter.deprecated false
/- What awake reads: the table. -/
namespace Go.Proofs.YtobgkdlghljdlaaGreatDoor
open Go.Sx
set_option maxRecDepth 100000
def rdL:List (FuncId × List D × D):=[(31,[.str [50]],.agg (nT 2)),
 (31,[.str [49]],.agg (nT 1)),
 (31,[.str [97]],.agg (aT)),
 (31,[.str [51]],.agg (nT 3)),
 (31,[.str [102,40,88,44,88,41]],.agg (fT xT xT)),
 (31,[.str [102,40,49,44,50,41]],.agg (fT (nT 1) (nT 2))),
 (31,[.str [88,43,49]],.agg (oT [43] xT (nT 1))),
 (31,[.str [102,40,88,44,103,40,89,41,41]],.agg (fT xT (gT yT))),
 (31,[.str [102,40,49,44,103,40,97,41,41]],.agg (fT (nT 1) (gT aT))),
 (31,[.str [49,46,46,51]],.agg (rT (nT 1) (nT 3))),
 (31,[.str [102,40,88,43,49,44,88,41]],.agg (fT (oT [43] xT (nT 1)) xT)),
 (31,[.str [102,40,51,44,50,41]],.agg (fT (nT 3) (nT 2))),
 (31,[.str [88,43,89]],.agg (oT [43] xT yT)),
 (31,[.str [50,43,89]],.agg (oT [43] (nT 2) yT))]
def tabR:Tab:=tab.mem rdL
theorem ZeO:tabR.OK Tryz.prog:=Qk.mem_ok ⟨r2,r1,ra,r3,rfxx,rf12,rx1,rfxg,rf1g,r13,rfx1,rf32,rxy,r2y,trivial⟩
end Go.Proofs.YtobgkdlghljdlaaGreatDoor
/- awake,run: true. -/
namespace Go.Proofs.YtobgkdlghljdlaaGreatDoor
open Go.Sx
set_option maxRecDepth 100000
abbrev noB:D:= .tuple [.slice [] [],.bool false]
abbrev pX (s:LU) (v:List D):List D:= .str s::v
abbrev bd2:D:= .slice [pX [88] (nT 2)] []
def nM (n:Int):Tm:= .mk 1 n [] []
def vM (s:LU):Tm:= .mk 3 0 s []
def aM:Tm:= .mk 2 0 [97] []
def gM (a:Tm):Tm:= .mk 4 0 [103] [a]
def fM (a b:Tm):Tm:= .mk 4 0 [102] [a,b]
def oM (s:LU) (a b:Tm):Tm:= .mk 5 0 s [a,b]
def rM (a b:Tm):Tm:= .mk 6 0 [] [a,b]
theorem ma (p v:Tm) (b:List Bd) (c:Option (List Bd)) (hp:TmB p) (hv:TmB v) (hb:BdB b) (h1:p.cnt<=99999) (h:lstB [p] [v] b=c):FK 12 [.agg p.cells,.agg v.cells,.slice (bdL b) []] (bndD c):=by
 subst h
 exact Z3L p v b hp hv h1 hb
theorem bdB0:BdB []:=⟨by simp,fun x hx=>(by cases hx),fun x hx=>(by cases hx)⟩
def b2M:List Bd:=[⟨[88],nM 2⟩]
theorem bdB2:BdB b2M:=⟨by decide,fun x hx=>by rw[b2M,List.mem_singleton] at hx; subst hx; simp[Bd.wf,nM,Tm.wf,Tm.wfL],fun x hx=>by rw[b2M,List.mem_singleton] at hx; subst hx; exact (by refine⟨?_, ?_,by decide⟩ <;> simp[fM,vM,nM,gM,aM,oM,rM,Tm.wf,Tm.wfL,Tm.few,Tm.fewL])⟩
theorem y1:FK 12 [.agg (fT xT xT),.agg (fT (nT 1) (nT 2)),.slice [] []] noB:=ma (fM (vM [88]) (vM [88])) (fM (nM 1) (nM 2)) [] none (by refine⟨?_, ?_,by decide⟩ <;> simp[fM,vM,nM,gM,aM,oM,rM,Tm.wf,Tm.wfL,Tm.few,Tm.fewL]) (by refine⟨?_, ?_,by decide⟩ <;> simp[fM,vM,nM,gM,aM,oM,rM,Tm.wf,Tm.wfL,Tm.few,Tm.fewL]) bdB0 (by decide) (by kernel_rfl)
theorem y2:FK 12 [.agg (oT [43] xT (nT 1)),.agg (nT 3),.slice [] []] noB:=ma (oM [43] (vM [88]) (nM 1)) (nM 3) [] none (by refine⟨?_, ?_,by decide⟩ <;> simp[fM,vM,nM,gM,aM,oM,rM,Tm.wf,Tm.wfL,Tm.few,Tm.fewL]) (by refine⟨?_, ?_,by decide⟩ <;> simp[fM,vM,nM,gM,aM,oM,rM,Tm.wf,Tm.wfL,Tm.few,Tm.fewL]) bdB0 (by decide) (by kernel_rfl)
theorem y3:FK 12 [.agg (fT xT (gT yT)),.agg (fT (nT 1) (gT aT)),.slice [] []] (.tuple [.slice [pX [88] (nT 1),pX [89] aT] [],.bool true]):=ma (fM (vM [88]) (gM (vM [89]))) (fM (nM 1) (gM aM)) [] (some [⟨[88],nM 1⟩,⟨[89],aM⟩]) (by refine⟨?_, ?_,by decide⟩ <;> simp[fM,vM,nM,gM,aM,oM,rM,Tm.wf,Tm.wfL,Tm.few,Tm.fewL]) (by refine⟨?_, ?_,by decide⟩ <;> simp[fM,vM,nM,gM,aM,oM,rM,Tm.wf,Tm.wfL,Tm.few,Tm.fewL]) bdB0 (by decide) (by kernel_rfl)
theorem y4:FK 12 [.agg (oT [43] xT (nT 1)),.agg (nT 3),bd2] (.tuple [bd2,.bool true]):=ma (oM [43] (vM [88]) (nM 1)) (nM 3) b2M (some b2M) (by refine⟨?_, ?_,by decide⟩ <;> simp[fM,vM,nM,gM,aM,oM,rM,Tm.wf,Tm.wfL,Tm.few,Tm.fewL]) (by refine⟨?_, ?_,by decide⟩ <;> simp[fM,vM,nM,gM,aM,oM,rM,Tm.wf,Tm.wfL,Tm.few,Tm.fewL]) bdB2 (by decide) (by kernel_rfl)
theorem y5:FK 12 [.agg (rT (nT 1) (nT 3)),.agg (nT 2),.slice [] []] (.tuple [.slice [] [],.bool true]):=ma (rM (nM 1) (nM 3)) (nM 2) [] (some []) (by refine⟨?_, ?_,by decide⟩ <;> simp[fM,vM,nM,gM,aM,oM,rM,Tm.wf,Tm.wfL,Tm.few,Tm.fewL]) (by refine⟨?_, ?_,by decide⟩ <;> simp[fM,vM,nM,gM,aM,oM,rM,Tm.wf,Tm.wfL,Tm.few,Tm.fewL]) bdB0 (by decide) (by kernel_rfl)
theorem y6:FK 12 [.agg (fT (oT [43] xT (nT 1)) xT),.agg (fT (nT 3) (nT 2)),.slice [] []] (.tuple [bd2,.bool true]):=ma (fM (oM [43] (vM [88]) (nM 1)) (vM [88])) (fM (nM 3) (nM 2)) [] (some b2M) (by refine⟨?_, ?_,by decide⟩ <;> simp[fM,vM,nM,gM,aM,oM,rM,Tm.wf,Tm.wfL,Tm.few,Tm.fewL]) (by refine⟨?_, ?_,by decide⟩ <;> simp[fM,vM,nM,gM,aM,oM,rM,Tm.wf,Tm.wfL,Tm.few,Tm.fewL]) bdB0 (by decide) (by kernel_rfl)
theorem y7:FK 20 [.agg (oT [43] xT yT),bd2] (.agg (oT [43] (nT 2) yT)):=by
 have h:=Z09 b2M (by decide) bdB2.wf (fun x hx=>by have:=(bdB2.tm x hx).2.2; omega) (fun x hx=>(bdB2.tm x hx).2.1) (oM [43] (vM [88]) (vM [89])) (by simp[vM,oM,Tm.few,Tm.fewL])
 have e:(oM [43] (vM [88]) (vM [89])).ap (vldB b2M)=oM [43] (nM 2) (vM [89]):=by kernel_rfl
 rw[e] at h
 exact h
def maL:List (FuncId × List D × D):=[(12,[.agg (fT xT xT),.agg (fT (nT 1) (nT 2)),.slice [] []],noB),
 (12,[.agg (oT [43] xT (nT 1)),.agg (nT 3),.slice [] []],noB),
 (12,[.agg (fT xT (gT yT)),.agg (fT (nT 1) (gT aT)),.slice [] []],(.tuple [.slice [pX [88] (nT 1),pX [89] aT] [],.bool true])),
 (12,[.agg (oT [43] xT (nT 1)),.agg (nT 3),bd2],(.tuple [bd2,.bool true])),
 (12,[.agg (rT (nT 1) (nT 3)),.agg (nT 2),.slice [] []],(.tuple [.slice [] [],.bool true])),
 (12,[.agg (fT (oT [43] xT (nT 1)) xT),.agg (fT (nT 3) (nT 2)),.slice [] []],(.tuple [bd2,.bool true])),
 (20,[.agg (oT [43] xT yT),bd2],(.agg (oT [43] (nT 2) yT)))]
def tabM:Tab:=tabR.mem maL
theorem ZeP:tabM.OK Tryz.prog:=ZeO.mem_ok ⟨y1,y2,y3,y4,y5,y6,y7,trivial⟩
theorem Zd3:FK 7 [] (.bool true):=Qw Z4 ZeP 20000 (by kernel_rfl)
end Go.Proofs.YtobgkdlghljdlaaGreatDoor
