/- Own work: a layer over the kit: plain data,a walk over it,its soundness. -/
import Derived.Test.YtobgkdlghljdlaaGreatDoorMtF
import Derived.Test.YtobgkdlghljdlaaGreatDoorSx10
import Derived.Test.YtobgkdlghljdlaaGreatDoorSx9
import Derived.Test.YtobgkdlghljdlaaGreatDoorEvery
import Derived.Test.YtobgkdlghljdlaaGreatDoorShelfS
import Derived.Test.YtobgkdlghljdlaaGreatDoorSx11
set_option linter.unusedSectionVars false
set_option linter.unusedVariables false
set_option linter.unusedSimpArgs false
set_option linter.deprecated false
/- MatchSound: trees. -/
namespace Go.Proofs.YtobgkdlghljdlaaGreatDoor
open Go.Sx
abbrev tmD (es:LD):List (Nat × D):=[(2,.slice es []),(3,.ptr 0 0),(4,.ptr 1 0)]
abbrev tmD7 (cs vs:LD):List (Nat × D):=[(3,.ptr 0 0),(4,.ptr 1 0),(7,.slice cs []),(9,.slice vs [])]
abbrev tmD8 (cs:LD):List (Nat × D):=[(3,.ptr 0 0),(4,.ptr 1 0),(7,.slice cs [])]
end Go.Proofs.YtobgkdlghljdlaaGreatDoor
/- outer,has,among. -/
namespace Go.Proofs.YtobgkdlghljdlaaGreatDoor
open Go.Sx
mutual
theorem Z3C: ∀ t:Tm,t.outs.length<=t.cnt
 | .mk k n s l=>by
  have:=Z27 l
  simp only[Tm.outs,Tm.cnt]
  split
  ·simp
  ·split <;> simp <;> omega
theorem Z27: ∀ l:List Tm,(Tm.outsL l).length<=Tm.cntL l
 | []=>by simp[Tm.outsL]
 | a::r=>by
  have h1:=Z3C a
  have h2:=Z27 r
  simp only[Tm.outsL,Tm.cntL,List.length_append]
  omega
end
theorem Zas {l:List Tm} {x:Tm} (h:x∈l):x.cnt<=Tm.cntL l:=by
 induction l with
 | nil=>cases h
 | cons a r ih =>
  simp only[Tm.cntL]
  rcases List.mem_cons.1 h with rfl | h
  ·omega
  ·have:=ih h; omega
theorem Zhs (x:Tm):1<=x.cnt:=by
 obtain⟨k,n,s,l⟩:=x
 simp only[Tm.cnt]
 omega
theorem Z6R (l:List Tm):l.length<=Tm.cntL l:=by
 induction l with
 | nil=>simp
 | cons a r ih=>have:=Zhs a; simp only[List.length_cons,Tm.cntL]; omega
theorem Z2G (l:List (LU)):Zd 1 (strC l):=by
 intro q hq
 obtain⟨s,_,rfl⟩:=List.mem_map.1 hq
 rfl
theorem ZoV (k:Nat) (n:Int) (s:LU) (l:List Tm) (hc:Tm.cntL l<=1000000) (H: ∀ x∈l,FK 17 [.agg x.cells] (.slice (strC x.outs) [])): ∀ (m i:Nat) (row:List (LU)),l.length-i=m->i<=l.length->row.length+(Tm.outsL (l.drop i)).length<=1073741824 →
  At Tryz.prog 0 (cut sc17 0) (hdOu k n s (Tm.cellsL l) (strC row) i) (FinQ true 0 rs17 fun r _=>r= .own 1 9 (strC (row++Tm.outsL (l.drop i)))):=by
 have hlen:=Z6R l
 intro m
 induction m with
 | zero =>
  intro i row hm hi hz
  refine At.tree Z5 (ZaN k n s (Tm.cellsL l) (strC row) i 0 0 [] [] []) ?_
  rw[List.drop_eq_nil_of_le (by omega)]
  simp only[SS,Z3,Tm.outsL,List.append_nil]
  exact⟨fun h=>by omega,fun _=>by first | trivial | rfl⟩
 | succ m ih =>
  intro i row hm hi hz
  have h1:i<l.length:=by omega
  have hx:=Zh h1
  have hC:=H _ (List.getElem_mem h1)
  rw[Za h1] at hz ⊢
  simp only[Tm.outsL,List.length_append] at hz ⊢
  have hI:=ih (i+1) (row++l[i].outs) (by omega) (by omega) (by rw[List.length_append]; omega)
  rw[<- List.append_assoc]
  have e:strC (row++l[i].outs)=strC row++strC l[i].outs:=by simp[strC]
  rw[e] at hI
  have ha:=Z2G l[i].outs
  have hb:(strC row).length+(strC l[i].outs).length<=1073741824:=by rw[ZY,ZY]; omega
  generalize l[i].outs=o at *
  generalize l[i]=x at hx hC
  obtain⟨kx,nx,sx,ax⟩:=x
  refine At.tree Z5 (ZaN k n s (Tm.cellsL l) (strC row) i kx nx sx (Tm.cellsL ax) (strC o)) ?_
  simp only[SS,Z3]
  exact⟨fun _=>⟨⟨by omega,hx⟩,hC,⟨ha,hb⟩,by omega,hI⟩,fun h=>by omega⟩
theorem Z6z: ∀ t:Tm,t.cnt<=1000000->FK 17 [.agg t.cells] (.slice (strC t.outs) [])
 | .mk k n s l,ht=>by
  have hn:=Z3C (.mk k n s l)
  simp only[Tm.cnt] at ht
  have hl:=fun row hz=>ZoV k n s l (by omega) (fun x hx=>Z6z x (by have:=Zas hx; omega)) _ 0 row rfl (Nat.zero_le _) hz
  have e3:((k:Int)=3)=(k=3):=propext (by omega)
  have e5:((k:Int)=5)=(k=5):=propext (by omega)
  have e6:((k:Int)=6)=(k=6):=propext (by omega)
  have hol:=Z27 l
  refine FnOK.freezeG (e:=9) (sz:=1) ?_
  refine FnOK.tree Z4 fp17 Z5 (Znm k n s (Tm.cellsL l)) ?_
  simp only[Tm.outs]
  simp only[SS,e3,e5,e6]
  refine⟨fun h=> ?_,fun h=>⟨fun h6=> ?_,fun h6=>⟨fun h3=>⟨⟨by simp[Zd],by omega⟩, ?_⟩,fun h3=> ?_⟩⟩⟩
  ·rw[if_pos (.inl h)]; rfl
  ·rw[if_pos (.inr h6)]; rfl
  ·rw[if_neg (by omega),if_pos h3]
   exact hl [s] (by simp only[List.drop_zero,List.length_singleton]; omega)
  ·rw[if_neg (by omega),if_neg h3]
   exact hl [] (by simp only[List.drop_zero,List.length_nil]; omega)
termination_by t=>SizeOf.sizeOf t
decreasing_by
 have:=List.sizeOf_lt_of_mem hx
 simp only[Tm.mk.sizeOf_spec]
 omega
theorem Zp6 (l:List (LU)) (s:LU) (hl:l.length<=1000000000): ∀ (m i:Nat),l.length-i=m->i<=l.length →
  At Tryz.prog 0 (cut sc19 0) (hdHa (strC l) s i) (FinQ true 0 rs19 fun r _=>r= .bool ((l.drop i).contains s)):=by
 intro m
 induction m with
 | zero =>
  intro i hm hi
  refine At.tree Z5 (ZaO (strC l) s i []) ?_
  rw[List.drop_eq_nil_of_le (by omega)]
  simp only[SS,ZY]
  exact⟨fun h=>by omega,fun _=>by first | trivial | rfl⟩
 | succ m ih =>
  intro i hm hi
  have h1:i<l.length:=by omega
  have hx:(strC l)[i]? = some [.str l[i]]:=by simp[strC,h1]
  have hI:=ih (i+1) (by omega) (by omega)
  refine At.tree Z5 (ZaO (strC l) s i l[i]) ?_
  rw[Za h1,List.contains_cons]
  simp only[SS,ZY]
  refine⟨fun _=>⟨⟨by omega,hx⟩,fun h=> ?_,fun h=>⟨by omega, ?_⟩⟩,fun h=>by omega⟩
  ·rw[h]; simp
  ·rw[show (s == l[i])=false from by simp[Ne.symm h],Bool.false_or]; exact hI
theorem ZdS (l:List (LU)) (s:LU) (hl:l.length<=1000000000):FK 19 [.slice (strC l) [],.str s] (.bool (l.contains s)):=by
 refine FnOK.tree Z4 fp19 Z5 (Znn (strC l) s) ?_
 rw[Z8]
 exact Zp6 l s hl _ 0 rfl (Nat.zero_le _)
end Go.Proofs.YtobgkdlghljdlaaGreatDoor
/- MatchSound,but for what is awake. -/
namespace Go.Proofs.YtobgkdlghljdlaaGreatDoor
open Go.Sx
mutual
theorem Zl3 {B:Nat}: ∀ (p v:Tm) (w:Wn),p.wf B->p.prs v=some w-> ∀ x∈w.1,x.1.length<=B
 | .mk k n s l,.mk k' n' s' l',w,hp,h=>by
  simp only[Tm.prs] at h
  simp only[Tm.wf] at hp
  split at h
  ·cases h
   intro x hx
   rw[List.mem_singleton] at hx
   subst hx
   exact hp.2.2.2.1
  ·split at h
   ·cases h
    intro x hx
    cases hx
   ·split at h
    ·exact Z5q l l' w hp.2.2.2.2.2 h
    ·cases h
theorem Z5q {B:Nat}: ∀ (l l':List Tm) (w:Wn),Tm.wfL B l->Tm.prsL l l'=some w-> ∀ x∈w.1,x.1.length<=B
 | [],[],w,hp,h=>by
  simp only[Tm.prsL] at h
  cases h
  intro x hx
  cases hx
 | a::l,b::m,w,hp,h=>by
  simp only[Tm.prsL] at h
  simp only[Tm.wfL] at hp
  obtain⟨u,v,h1,h2,rfl⟩:=Z0f h
  intro x hx
  exact (List.mem_append.1 hx).elim (Zl3 a b u hp.1 h1 x) (Z5q l m v hp.2 h2 x)
 | [],_::_,w,hp,h=>by simp only[Tm.prsL] at h; cases h
 | _::_,[],w,hp,h=>by simp only[Tm.prsL] at h; cases h
end
theorem ZgB {p v:List Tm} {b c:List Bd} (hp: ∀ x∈p,TmB x) (hv: ∀ x∈v,TmB x) (hb:BdB b) (hl:b.length+Tm.cntL p<=100000) (h:lstB p v b=some c):BdB c:=by
 obtain⟨h1,h2⟩:=Zlm hp hv hb h
 refine⟨by omega,fun x hx=>⟨?_,(h1 x hx).1⟩,fun x hx=>(h1 x hx).2⟩
 unfold lstB at h
 split at h
 ·split at h
  ·rename_i q hq
   split at h
   ·cases h
    obtain⟨w,e1,e2,e3⟩:=Z3F hq
    obtain⟨_,q5⟩:=Z1h e2
    rcases q5 x hx with hx | hx
    ·exact (hb.wf x hx).1
    ·exact Z5q p v w (QW.2 fun y hy=>(hp y hy).1) e1 _ hx
   ·cases h
  ·cases h
 ·cases h
theorem BdB.ext {b c:List Bd} (hc:BdB c) (hb:BdB b) (H: ∀ x∈b,getV c x.n=some x.v):FK 14 [.slice (bdL c) [],.slice (bdL b) []] (.bool true):=Z88 c b (by have:=hc.len; omega) hc.wf (fun x hx=>by have:=(hc.tm x hx).2.2; omega) (fun x hx=>(hc.tm x hx).2.1) (by have:=hb.len; omega) (fun x hx=>(hb.wf x hx).2) H
theorem BdB.va {b:List Bd} (h:BdB b):FK 13 [.slice (bdL b) []] (.bool (ZT b)):=Z6G b (by have:=h.len; omega) h.wf fun x hx=>by have:=(h.tm x hx).2.2; omega
theorem BdB.sbs {b:List Bd} (h:BdB b):FK 11 [.slice (bdL b) [],.slice (bdL b) []] (.bool true):=Zk4 b (by have:=h.len; omega) fun x hx=>(h.wf x hx).2
theorem BdB.app {b:List Bd} (h:BdB b) (hv:ZT b=true) (x:Tm) (hx:x.few 1000):FK 20 [.agg x.cells,.slice (bdL b) []] (.agg (x.ap b).cells):=by
 have:=Z09 b (by have:=h.len; omega) h.wf (fun x hx=>by have:=(h.tm x hx).2.2; omega) (fun x hx=>(h.tm x hx).2.1) x hx
 unfold vldB at this
 rw[if_pos hv] at this
 exact this
theorem ZgY {b:List Bd} (h:ZT b=true) (s:LU):getV b s=getB b s:=by unfold getV; rw[if_pos h]
end Go.Proofs.YtobgkdlghljdlaaGreatDoor
/- Vars: its text,told so that what it gathers is written in place. -/
namespace Go.Proofs.YtobgkdlghljdlaaGreatDoor
open Go.Sx
set_option maxRecDepth 100000
abbrev scV:SC:=sc65
theorem fpV:FnC Tryz.prog 65 19 scV rs65/\Zz Tryz.prog 65=true:=fp65
def Z9G:List Nat:=[5,4,2,1,0]
def dsV (k n:Int) (s:LU) (a:LD) (t0 q u:Nat):List D:=[.func (.func 107) [] [.ptr t0 0],.agg (tC k n s a),.ptr q 0,.ptr u 0,.agg (tC k n s a)]
def recV (ds:List D):Ob:= .gen (.loop .ready none #[6] (scV.rngA 0) (scV.rngB 0) 19 Z9G) ds
def vobN (k n:Int) (s:LU) (a:LD):Obs:=[(0,recV (dsV k n s a 1 2 3)),(1,.cells (tC k n s a)),(2,.cells [.nils]),(3,.cells (tC k n s a))]
def vobA (k n:Int) (s:LU) (a:LD) (j:Nat) (o:LD):Obs:=[(0,recV (dsV k n s a 1 2 3)),(1,.cells (tC k n s a)),(2,.cells [.vec j]),(3,.cells (tC k n s a)),(j,.arr false 1 9 o)]
theorem Znf (kx nx:Int) (sx:LU) (ax:LD) (k n:Int) (s:LU) (a:LD):let A:=tC k n s a;let B:=[dF 107 [] [dP 1 0],dA A,dP 2 0,dP 3 0,dA A];let C:=dsV k n s a 1 2 3;let E:=(2,oC [D.nils]);yldT Tryz.prog (ctr libT) 4 0 19 #[6] (SC.rngA scV 0) (SC.rngB scV 0) Z9G C 2000 { tm:=putP (List.zip [6] [dA (tC kx nx sx ax)]) (List.zip Z9G C),ob:=[(1,oC A),E,(3,oC A)] }=(brT (decide (kx=(3:Int))) (Ow (Zd 1 [[dS sx]]/\1<=1073741824) (Rt (dB true) [(0,gL .ready none #[6] scV 0 19 [5,4,2,1,0] B),(1,oC A),(2,oC [dV 4]),(3,oC A),(4,oR false 1 9 [[dS sx]])])) (Rt (dB true) [(0,gL .ready none #[6] scV 0 19 [5,4,2,1,0] B),(1,oC A),E,(3,oC A)]):Tr):=by intro A B C E;kernel_rfl
theorem Zng (kx nx:Int) (sx:LU) (ax:LD) (k n:Int) (s:LU) (a o:LD):let A:=tC k n s a;let B:=[dF 107 [] [dP 1 0],dA A,dP 2 0,dP 3 0,dA A];let C:=dsV k n s a 1 2 3;let E:=(4,oR false 1 9 o);let F:=(2,oC [dV 4]);yldT Tryz.prog (ctr libT) 5 0 19 #[6] (SC.rngA scV 0) (SC.rngB scV 0) Z9G C 2000 { tm:=putP (List.zip [6] [dA (tC kx nx sx ax)]) (List.zip Z9G C),ob:=[(1,oC A),F,(3,oC A),E] }=(brT (decide (kx=(3:Int))) (Ow (Zd 1 [[dS sx]]/\List.length o+1<=1073741824) (Rt (dB true) [(0,gL .ready none #[6] scV 0 19 [5,4,2,1,0] B),(1,oC A),(2,oC [dV 5]),(3,oC A),(5,oR false 1 9 (o++[[dS sx]]))])) (Rt (dB true) [(0,gL .ready none #[6] scV 0 19 [5,4,2,1,0] B),(1,oC A),F,(3,oC A),E]):Tr):=by intro A B C E F;kernel_rfl
def Z8x (l:LD):Obs->Obs
 | [(0,r),(1,c),(2,.cells [.nils]),(3,d)]=>[(0,r),(1,c),(2,.cells [.vec 4]),(3,d),(4,.arr false 1 9 l)]
 | [(0,r),(1,c),(2,.cells [.vec 4]),(3,d),(4,.arr fz sz ty o)]=>[(0,r),(1,c),(2,.cells [.vec 5]),(3,d),(5,.arr fz sz ty (o++l))]
 | ob=>ob
def Z2I (r0:D) (e:Bool) (l:LD):QT:=fun d xs ob=>match d with
 | .func (.func f) fa fc=>if f=98\/f=99 then none else some (.br e (.ok (CallL Tryz.prog (.func (.func f) fa fc) xs ob fun r o=>r=r0/\o=ob) r0 ob) (.ok (CallL Tryz.prog (.func (.func f) fa fc) xs ob fun r o=>r=r0/\o=Z8x l ob) r0 (Z8x l ob)))
 | d=>some (.br e (.ok (CallL Tryz.prog d xs ob fun r o=>r=r0/\o=ob) r0 ob) (.ok (CallL Tryz.prog d xs ob fun r o=>r=r0/\o=Z8x l ob) r0 (Z8x l ob)))
theorem ZX (r0:D) (e:Bool) (l:LD):(Z2I r0 e l).OK:=by
 intro d xs ob rt h
 unfold Z2I at h
 split at h
 ·split at h
  ·cases h
  ·cases h
   cases e
   ·exact fun hp=>hp
   ·exact fun hp=>hp
 ·cases h
  cases e
  ·exact fun hp=>hp
  ·exact fun hp=>hp
def ZeJ (o2 o3:LD):QT:=fun d xs ob=>match d,ob with
 | .func (.func f) [] [],[(0,.arr false 1 ty o)]=>if f=98 then some (.ok (CallL Tryz.prog (.func (.func f) [] []) xs [(0,.arr false 1 ty o)] fun r ob=>r= .tuple []/\ob=[(0,.arr false 1 ty o2)]) (.tuple []) [(0,.arr false 1 ty o2)])
  else if f=99 then some (.ok (CallL Tryz.prog (.func (.func f) [] []) xs [(0,.arr false 1 ty o)] fun r ob=>r= .vec 1/\ob=[(1,.arr true 1 ty o3)]) (.vec 1) [(1,.arr true 1 ty o3)]) else none
 | .func (.func f) [] [],[]=>if f=98 then some (.ok (CallL Tryz.prog (.func (.func f) [] []) xs [] fun r ob=>r= .tuple []/\ob=[]) (.tuple []) [])
  else if f=99 then some (.ok (CallL Tryz.prog (.func (.func f) [] []) xs [] fun r ob=>r= .slice [] []/\ob=[]) (.slice [] []) []) else none
 | _,_=>none
theorem ZbB (o2 o3:LD):(ZeJ o2 o3).OK:=by
 intro d xs ob rt h
 unfold ZeJ at h
 split at h
 ·split at h
  ·cases h; exact fun hp=>hp
  ·split at h
   ·cases h; exact fun hp=>hp
   ·cases h
 ·split at h
  ·cases h; exact fun hp=>hp
  ·split at h
   ·cases h; exact fun hp=>hp
   ·cases h
 ·cases h
theorem Zj4 (kx nx:Int) (sx:LU) (ax:LD) (k n:Int) (s:LU) (a:LD) (e:Bool) (l:LD):let A:=[dF 107 [] [dP 1 0],dA (tC k n s a),dP 2 0,dP 3 0,dA (tC k n s a)];let B:=tC k n s a;let C:=[(1,D.yld 0),(12,dL ax []),(13,dI (↑(List.length ax):Int)),(14,dI (0:Int))];let E:=(2,oC [D.nils]);let F:=tC kx nx sx ax;let G:=(4,oR false 1 9 l);let H:=cut Z0J 0;let I:=(2,oC [dV 4]);gC (ctr libT (Z2I (dB true) e l)) 4 Z1l Z0J [] [dA F,D.yld 0] [] (vobN k n s a)=(brT e (Ow (CallL Tryz.prog (D.yld 0) [dA F] [(0,gL .ready none #[6] scV 0 19 [5,4,2,1,0] A),(1,oC B),E,(3,oC B)] fun r o=>r=dB true/\o=[(0,gL .ready none #[6] scV 0 19 [5,4,2,1,0] A),(1,oC B),E,(3,oC B)]) (Jm H { tm:=C,ob:=[(0,gL .ready none #[6] scV 0 19 [5,4,2,1,0] A),(1,oC B),E,(3,oC B)] })) (Ow (CallL Tryz.prog (D.yld 0) [dA F] [(0,gL .ready none #[6] scV 0 19 [5,4,2,1,0] A),(1,oC B),E,(3,oC B)] fun r o=>r=dB true/\o=[(0,gL .ready none #[6] scV 0 19 [5,4,2,1,0] A),(1,oC B),I,(3,oC B),G]) (Jm H { tm:=C,ob:=[(0,gL .ready none #[6] scV 0 19 [5,4,2,1,0] A),(1,oC B),I,(3,oC B),G] })):Tr):=by intro A B C E F G H I;kernel_rfl
theorem Zj5 (kx nx:Int) (sx:LU) (ax:LD) (k n:Int) (s:LU) (a o:LD) (e:Bool) (l:LD):let A:=[dF 107 [] [dP 1 0],dA (tC k n s a),dP 2 0,dP 3 0,dA (tC k n s a)];let B:=tC k n s a;let C:=[(1,D.yld 0),(12,dL ax []),(13,dI (↑(List.length ax):Int)),(14,dI (0:Int))];let E:=(4,oR false 1 9 o);let F:=(2,oC [dV 4]);let G:=tC kx nx sx ax;let H:=(5,oR false 1 9 (o++l));let I:=cut Z0J 0;let J:=(2,oC [dV 5]);gC (ctr libT (Z2I (dB true) e l)) 5 Z1l Z0J [] [dA G,D.yld 0] [] (vobA k n s a 4 o)=(brT e (Ow (CallL Tryz.prog (D.yld 0) [dA G] [(0,gL .ready none #[6] scV 0 19 [5,4,2,1,0] A),(1,oC B),F,(3,oC B),E] fun r o_1=>r=dB true/\o_1=[(0,gL .ready none #[6] scV 0 19 [5,4,2,1,0] A),(1,oC B),F,(3,oC B),E]) (Jm I { tm:=C,ob:=[(0,gL .ready none #[6] scV 0 19 [5,4,2,1,0] A),(1,oC B),F,(3,oC B),E] })) (Ow (CallL Tryz.prog (D.yld 0) [dA G] [(0,gL .ready none #[6] scV 0 19 [5,4,2,1,0] A),(1,oC B),F,(3,oC B),E] fun r o_1=>r=dB true/\o_1=[(0,gL .ready none #[6] scV 0 19 [5,4,2,1,0] A),(1,oC B),J,(3,oC B),H]) (Jm I { tm:=C,ob:=[(0,gL .ready none #[6] scV 0 19 [5,4,2,1,0] A),(1,oC B),J,(3,oC B),H] })):Tr):=by intro A B C E F G H I J;kernel_rfl
theorem Zel (a':LD) (m i kx nx:Int) (sx:LU) (ax:LD) (k n:Int) (s:LU) (a:LD) (e:Bool) (l:LD):let A:=[dF 107 [] [dP 1 0],dA (tC k n s a),dP 2 0,dP 3 0,dA (tC k n s a)];let B:=tC k n s a;let C:=(2,oC [D.nils]);let E:=[(1,D.yld 0),(12,dL a' []),(13,dI m),(14,dI (i+(1:Int)))];let F:=tC kx nx sx ax;let G:=cut Z0J 0;let H:=(4,oR false 1 9 l);let I:=[dA F,D.yld 0];let J:=(2,oC [dV 4]);let K:=(i+(1:Int));gH (ctr libT (Z2I (dB true) e l) fun x x_1=>tC kx nx sx ax) 4 false Z1l G (hdVi a' m i (vobN k n s a))=(brT (decide (i<m)) (Ow ((0:Int)<=i/\a'[Int.toNat i]? = some F) (brT e (Ow (CF 108 I [(0,gL .ready none #[6] scV 0 19 [5,4,2,1,0] A),(1,oC B),C,(3,oC B)] fun r o=>r=dB true/\o=[(0,gL .ready none #[6] scV 0 19 [5,4,2,1,0] A),(1,oC B),C,(3,oC B)]) (I8 K (Jm G { tm:=E,ob:=[(0,gL .ready none #[6] scV 0 19 [5,4,2,1,0] A),(1,oC B),C,(3,oC B)] }))) (Ow (CF 108 I [(0,gL .ready none #[6] scV 0 19 [5,4,2,1,0] A),(1,oC B),C,(3,oC B)] fun r o=>r=dB true/\o=[(0,gL .ready none #[6] scV 0 19 [5,4,2,1,0] A),(1,oC B),J,(3,oC B),H]) (I8 K (Jm G { tm:=E,ob:=[(0,gL .ready none #[6] scV 0 19 [5,4,2,1,0] A),(1,oC B),J,(3,oC B),H] }))))) (Rt (dB true) [(0,gL .ready none #[6] scV 0 19 [5,4,2,1,0] A),(1,oC B),C,(3,oC B)]):Tr):=by intro A B C E F G H I J K;kernel_rfl
theorem Zem (a':LD) (m i kx nx:Int) (sx:LU) (ax:LD) (k n:Int) (s:LU) (a o:LD) (e:Bool) (l:LD):let A:=[dF 107 [] [dP 1 0],dA (tC k n s a),dP 2 0,dP 3 0,dA (tC k n s a)];let B:=tC k n s a;let C:=(4,oR false 1 9 o);let E:=(2,oC [dV 4]);let F:=[(1,D.yld 0),(12,dL a' []),(13,dI m),(14,dI (i+(1:Int)))];let G:=tC kx nx sx ax;let H:=cut Z0J 0;let I:=[dA G,D.yld 0];let J:=(i+(1:Int));gH (ctr libT (Z2I (dB true) e l) fun x x_1=>tC kx nx sx ax) 4 false Z1l H (hdVi a' m i (vobA k n s a 4 o))=(brT (decide (i<m)) (Ow ((0:Int)<=i/\a'[Int.toNat i]? = some G) (brT e (Ow (CF 108 I [(0,gL .ready none #[6] scV 0 19 [5,4,2,1,0] A),(1,oC B),E,(3,oC B),C] fun r o_1=>r=dB true/\o_1=[(0,gL .ready none #[6] scV 0 19 [5,4,2,1,0] A),(1,oC B),E,(3,oC B),C]) (I8 J (Jm H { tm:=F,ob:=[(0,gL .ready none #[6] scV 0 19 [5,4,2,1,0] A),(1,oC B),E,(3,oC B),C] }))) (Ow (CF 108 I [(0,gL .ready none #[6] scV 0 19 [5,4,2,1,0] A),(1,oC B),E,(3,oC B),C] fun r o_1=>r=dB true/\o_1=[(0,gL .ready none #[6] scV 0 19 [5,4,2,1,0] A),(1,oC B),(2,oC [dV 5]),(3,oC B),(5,oR false 1 9 (o++l))]) (I8 J (Jm H { tm:=F,ob:=[(0,gL .ready none #[6] scV 0 19 [5,4,2,1,0] A),(1,oC B),E,(3,oC B),(4,oR false 1 9 (o++l))] }))))) (Rt (dB true) [(0,gL .ready none #[6] scV 0 19 [5,4,2,1,0] A),(1,oC B),E,(3,oC B),C]):Tr):=by intro A B C E F G H I J;kernel_rfl
theorem Zeo (a':LD) (m i kx nx:Int) (sx:LU) (ax:LD) (k n:Int) (s:LU) (a o:LD) (e:Bool) (l:LD):let A:=[dF 107 [] [dP 1 0],dA (tC k n s a),dP 2 0,dP 3 0,dA (tC k n s a)];let B:=tC k n s a;let C:=(4,oR false 1 9 o);let E:=[(1,D.yld 0),(12,dL a' []),(13,dI m),(14,dI (i+(1:Int)))];let F:=(2,oC [dV 4]);let G:=tC kx nx sx ax;let H:=cut Z0J 0;let I:=(5,oR false 1 9 (o++l));let J:=[dA G,D.yld 0];let K:=(2,oC [dV 5]);let L:=(i+(1:Int));gH (ctr libT (Z2I (dB true) e l) fun x x_1=>tC kx nx sx ax) 5 false Z1l H (hdVi a' m i (vobA k n s a 4 o))=(brT (decide (i<m)) (Ow ((0:Int)<=i/\a'[Int.toNat i]? = some G) (brT e (Ow (CF 108 J [(0,gL .ready none #[6] scV 0 19 [5,4,2,1,0] A),(1,oC B),F,(3,oC B),C] fun r o_1=>r=dB true/\o_1=[(0,gL .ready none #[6] scV 0 19 [5,4,2,1,0] A),(1,oC B),F,(3,oC B),C]) (I8 L (Jm H { tm:=E,ob:=[(0,gL .ready none #[6] scV 0 19 [5,4,2,1,0] A),(1,oC B),F,(3,oC B),C] }))) (Ow (CF 108 J [(0,gL .ready none #[6] scV 0 19 [5,4,2,1,0] A),(1,oC B),F,(3,oC B),C] fun r o_1=>r=dB true/\o_1=[(0,gL .ready none #[6] scV 0 19 [5,4,2,1,0] A),(1,oC B),K,(3,oC B),I]) (I8 L (Jm H { tm:=E,ob:=[(0,gL .ready none #[6] scV 0 19 [5,4,2,1,0] A),(1,oC B),K,(3,oC B),I] }))))) (Rt (dB true) [(0,gL .ready none #[6] scV 0 19 [5,4,2,1,0] A),(1,oC B),F,(3,oC B),C]):Tr):=by intro A B C E F G H I J K L;kernel_rfl
theorem Zen (a':LD) (m i kx nx:Int) (sx:LU) (ax:LD) (k n:Int) (s:LU) (a o:LD) (e:Bool) (l:LD):let A:=[dF 107 [] [dP 1 0],dA (tC k n s a),dP 2 0,dP 3 0,dA (tC k n s a)];let B:=tC k n s a;let C:=[(1,D.yld 0),(12,dL a' []),(13,dI m),(14,dI (i+(1:Int)))];let E:=(2,oC [dV 5]);let F:=(4,oR false 1 9 o);let G:=tC kx nx sx ax;let H:=cut Z0J 0;let I:=(2,oC [dV 4]);let J:=(5,oR false 1 9 (o++l));let K:=(5,oR false 1 9 o);let L:=[dA G,D.yld 0];let M:=(i+(1:Int));gH (ctr libT (Z2I (dB true) e l) fun x x_1=>tC kx nx sx ax) 5 false Z1l H (hdVi a' m i (vobA k n s a 5 o))=(brT (decide (i<m)) (Ow ((0:Int)<=i/\a'[Int.toNat i]? = some G) (brT e (Ow (CF 108 L [(0,gL .ready none #[6] scV 0 19 [5,4,2,1,0] A),(1,oC B),I,(3,oC B),F] fun r o_1=>r=dB true/\o_1=[(0,gL .ready none #[6] scV 0 19 [5,4,2,1,0] A),(1,oC B),I,(3,oC B),F]) (I8 M (Jm H { tm:=C,ob:=[(0,gL .ready none #[6] scV 0 19 [5,4,2,1,0] A),(1,oC B),E,(3,oC B),K] }))) (Ow (CF 108 L [(0,gL .ready none #[6] scV 0 19 [5,4,2,1,0] A),(1,oC B),I,(3,oC B),F] fun r o_1=>r=dB true/\o_1=[(0,gL .ready none #[6] scV 0 19 [5,4,2,1,0] A),(1,oC B),E,(3,oC B),J]) (I8 M (Jm H { tm:=C,ob:=[(0,gL .ready none #[6] scV 0 19 [5,4,2,1,0] A),(1,oC B),E,(3,oC B),J] }))))) (Rt (dB true) [(0,gL .ready none #[6] scV 0 19 [5,4,2,1,0] A),(1,oC B),E,(3,oC B),K]):Tr):=by intro A B C E F G H I J K L M;kernel_rfl
def obS (k n:Int) (s:LU) (a:LD):Obs:=[(0,.cells (tC k n s a)),(1,recV (dsV k n s a 0 2 3)),(2,.cells [.nils]),(3,.cells (tC k n s a))]
theorem Zj3 (k n:Int) (s:LU) (a:LD) (e:Bool) (l:LD):let A:=tC k n s a;let B:=[dF 107 [] [dP 1 0],dA A,dP 2 0,dP 3 0,dA A];let C:=[dF 107 [] [dP 0 0],dA A,dP 2 0,dP 3 0,dA A];let E:=(2,oC [D.nils]);let F:=(4,oR false 1 9 l);let G:=[dA A,D.yld 0];let H:=(2,oC [dV 4]);let I:=D.tuple [];gC (ctr libT (Z2I (dB true) e l)) 4 Zc1 ZbS [] [D.yld 1] [dP 0 0] (obS k n s a)=(brT e (Ow (CF 108 G [(0,gL .ready none #[6] scV 0 19 [5,4,2,1,0] B),(1,oC A),E,(3,oC A)] fun r o=>r=dB true/\o=[(0,gL .ready none #[6] scV 0 19 [5,4,2,1,0] B),(1,oC A),E,(3,oC A)]) (Rt I [(0,oC A),(1,gL .ready none #[6] scV 0 19 [5,4,2,1,0] C),E,(3,oC A)])) (Ow (CF 108 G [(0,gL .ready none #[6] scV 0 19 [5,4,2,1,0] B),(1,oC A),E,(3,oC A)] fun r o=>r=dB true/\o=[(0,gL .ready none #[6] scV 0 19 [5,4,2,1,0] B),(1,oC A),H,(3,oC A),F]) (Rt I [(0,oC A),(1,gL .ready none #[6] scV 0 19 [5,4,2,1,0] C),H,(3,oC A),F])):Tr):=by intro A B C E F G H I;kernel_rfl
theorem Zoo (k n:Int) (s:LU) (a:LD) (e:Bool) (l o2 o3:LD):let A:=(SC.block 1 (SC.seq (SC.reg [so 7 (AOp.faddr 0) [xt 3],so 8 (AOp.load false 1) [xt 7],so 9 (AOp.bin BinOp.eql) [xt 8,xc (dU (3:Int))]]) (SC.cond (xt 9) (SC.reg [so 10 (AOp.load false 1) [xt 2],so 11 (AOp.faddr 2) [xt 3],so 12 (AOp.load false 1) [xt 11],so 13 (AOp.bslice true 1 1 9 [dS []] [(0,1)]) [xt 12],SOp.app 14 none false 1 9 (xt 10) (xt 13),SOp.st none (SK.c 1) (xt 2) (xt 14)]) SC.skip)));let B:=(SC.reg [so 3 (AOp.alloc [dU (0:Int),dI (0:Int),dS [],D.nils]) [],SOp.st none (SK.c 4) (xt 3) (xt 6)]);let C:=[dF 107 [] [dP 0 0],dA (tC k n s a),dP 2 0,dP 3 0,dA (tC k n s a)];let E:=tC k n s a;let F:=(2,oC [D.nils]);let G:=[(0,oR false 1 9 o2)];let H:=dF 107 [] [dP 0 0];gP (ctr libT (QT.or (QT.or subQ (Z2I (D.tuple []) e l)) (ZeJ o2 o3))) rs65 scV [dA E]=(Ow True (brT e (Ow (CallL Tryz.prog H [D.yld 1] [(0,oC E),(1,Ob.gen (Gen.loop LoopState.ready none #[6] B A 19 [5,4,2,1,0]) C),F,(3,oC E)] fun r o=>r=D.tuple []/\o=[(0,oC E),(1,Ob.gen (Gen.loop LoopState.ready none #[6] B A 19 [5,4,2,1,0]) C),F,(3,oC E)]) (Ow (CF 98 [dL [] []] [] fun r ob=>r=D.tuple []/\ob=[]) (Ow (CF 99 [dL [] []] [] fun r ob=>r=dL [] []/\ob=[]) (Rt (dL [] []) [])))) (Ow (CallL Tryz.prog H [D.yld 1] [(0,oC E),(1,Ob.gen (Gen.loop LoopState.ready none #[6] B A 19 [5,4,2,1,0]) C),F,(3,oC E)] fun r o=>r=D.tuple []/\o=[(0,oC E),(1,Ob.gen (Gen.loop LoopState.ready none #[6] B A 19 [5,4,2,1,0]) C),(2,oC [dV 4]),(3,oC E),(4,oR false 1 9 l)]) (Ow (CF 98 [dV 0] [(0,oR false 1 9 l)] fun r ob=>r=D.tuple []/\ob=G) (Ow (CF 99 [dV 0] G fun r ob=>r=dV 1/\ob=[(1,oR true 1 9 o3)]) (Rt (D.own 1 9 o3) []))))):Tr):=by intro A B C E F G H;kernel_rfl
end Go.Proofs.YtobgkdlghljdlaaGreatDoor
