/- Own work: a layer over the kit: plain data,a walk over it,its soundness. -/
import Derived.Test.YtobgkdlghljdlaaGreatDoorSame
import Derived.Test.YtobgkdlghljdlaaGreatDoorShape
import Derived.Test.YtobgkdlghljdlaaGreatDoorArA
import Derived.Test.YtobgkdlghljdlaaGreatDoorSx8
set_option linter.unusedSectionVars false
set_option linter.unusedVariables false
set_option linter.unusedSimpArgs false
set_option linter.deprecated false
set_option maxRecDepth 100000
/- arith.integers,arith.operation. -/
namespace Go.Proofs.YtobgkdlghljdlaaGreatDoor
open Go.Sx
theorem Zhb (es ext:LD):gP (ctr libT) rs87 sc87 [dL es ext]=(Jm (cut sc87 0) { tm:=[(2,dV 0),(5,dL es ext),(6,dI (↑(List.length es):Int)),(7,dI (0:Int))],ob:=[(0,oR true 1 3 [])] }:Tr):=by kernel_rfl
def Zky (es ext:LD) (row:LD) (m i:Int):St:=⟨[(2,.vec 0),(5,.slice es ext),(6,.int .i64 m),(7,.int .i64 i)],[(0,.arr true 1 3 row)]⟩
theorem Z6Y (es ext row:LD) (m:Int) (i:Nat) (k n:Int) (s:LU) (a:LD):let A:=[(2,dV 0),(5,dL es ext),(6,dI m),(7,dI ((↑i:Int)+(1:Int)))];let B:=[dU k,dI n,dS s,dL a []];let C:=cut sc87 0;let E:=((↑i:Int)+(1:Int));gH (ctr libT Qg (eOne B)) 0 true rs87 C (Zky es ext row m (↑i:Int))=(brT (decide ((↑i:Int)<m)) (Ow ((0:Int)<=(↑i:Int)/\es[Int.toNat (↑i:Int)]? = some B) (brT (decide (k=(1:Int))) (Ow (Zc 1 [[dI n]]/\List.length row+1<=1073741824) (I8 E (Jm C { tm:=A,ob:=[(0,oR true 1 3 (row++[[dI n]]))] }))) (I8 E (Jm C { tm:=A,ob:=[(0,oR true 1 3 row)] })))) (Rt (D.own 1 3 row) []):Tr):=by intro A B C E;kernel_rfl
theorem ZgX (s:LU) (es ext:LD):gP (ctr libT) rs88 sc88 [dS s,dL es ext]=(Jm (frg sc88 0) { tm:=[(1,dL es ext),(2,dP 0 0)],ob:=[(0,oC [dS s])] }:Tr):=by kernel_rfl
theorem Zh3 (s:LU) (es ext:LD):gH (ctr libT) 0 true rs88 (frg sc88 0) { tm:=[(1,dL es ext),(2,dP 0 0)],ob:=[(0,oC [dS s])] }=(Jm (frg sc88 1) { tm:=[(1,dL es ext),(2,dP 0 0),(5,dV 1)],ob:=[(0,oC [dS s]),(1,oR true 1 110 [])] }:Tr):=by kernel_rfl
theorem Zh2 (s:LU) (es ext:LD):let A:=[(0,oC [dS s]),(1,oR true 1 110 [])];gH (ctr libT) 0 true rs88 (frg sc88 1) { tm:=[(1,dL es ext),(2,dP 0 0),(5,dV 1)],ob:=A }=(Jm (cut sc88 0) { tm:=[(2,dP 0 0),(5,dV 1),(14,dL es ext),(15,dI (↑(List.length es):Int)),(16,dI (0:Int))],ob:=A }:Tr):=by intro A;kernel_rfl
def hdOp (s:LU) (es ext row:LD) (m i:Int):St:=⟨[(2,.ptr 0 0),(5,.vec 1),(14,.slice es ext),(15,.int .i64 m),(16,.int .i64 i)],[(0,.cells [.str s]),(1,.arr true 1 110 row)]⟩
theorem Zaa (s:LU) (es ext row xs:LD) (m:Int) (i:Nat) (q:LD):let A:=[dL xs []];let B:=((↑i:Int)+(1:Int));let C:=D.own 1 3 q;let E:=(0,oC [dS s]);let F:=cut sc88 0;let G:=[[dL q []]];gH (ctr (asmP C) Qg (eOne A)) 0 true rs88 F (hdOp s es ext row m (↑i:Int))=(brT (decide ((↑i:Int)<m)) (Ow ((0:Int)<=(↑i:Int)/\es[Int.toNat (↑i:Int)]? = some A) (Ow (FK 87 A C) (Ow (Zc 1 G/\List.length row+1<=1073741824) (I8 B (Jm F { tm:=[(2,dP 0 0),(5,dV 1),(14,dL es ext),(15,dI m),(16,dI B)],ob:=[E,(1,oR true 1 110 (row++G))] }))))) (Jm (frg sc88 2) { tm:=[(2,dP 0 0),(5,dV 1)],ob:=[E,(1,oR true 1 110 row)] }):Tr):=by intro A B C E F G;kernel_rfl
theorem Zh1 (s:LU) (row:LD):let A:=(1,oR true 1 110 row);let B:=(0,oC [dS s]);gH (ctr libT) 0 true rs88 (frg sc88 2) { tm:=[(2,dP 0 0),(5,dV 1)],ob:=[B,A] }=(Jm (frg sc88 3) { tm:=[(2,dP 0 0),(5,dV 1),(8,dP 2 0)],ob:=[B,A,(2,oC [D.map 3]),(3,Ob.gen (Gen.mapC [] []) [])] }:Tr):=by intro A B;kernel_rfl
theorem ZgU (s:LU) (row:LD) (ks vs:List D):let A:=SC.block 3 (SC.seq (SC.reg [so 31 (AOp.load false 1) [xt 2],so 32 AOp.mv [xt 9],SOp.cd (some 33) none (xc (dF 119 [] [])) [xt 31,xt 32],so 30 AOp.mv [xt 33],so 34 (AOp.extract 0) [xt 30],so 35 (AOp.extract 1) [xt 30],so 10 AOp.mv [xt 34],so 11 AOp.mv [xt 35]]) (SC.seq (SC.reg [so 36 AOp.mv [xt 11]]) (SC.cond (xt 36) (SC.seq (SC.reg [so 37 (AOp.load false 1) [xt 8],so 38 AOp.mv [xt 10],so 39 AOp.mv [xt 10],SOp.st none (SK.k (some IntKind.i64) (xt 38)) (xt 37) (xt 39)]) (SC.reg [so 40 (AOp.load false 1) [xt 8],so 41 (AOp.ext Ext.lenm) [xt 40],so 42 (AOp.call 116) [xt 41]])) SC.skip)));let B:=[dF 139 [] [dP 0 0],dV 2,dP 3 0,dV 2,dP 4 0];let C:=SC.reg [so 9 AOp.mv [xt 29]];let E:=(2,oR true 1 110 row);let F:=(0,oC [dL row []]);let G:=Gen.mapC [] [];let H:=(4,oC [D.map 5]);let I:=Gen.mapC ks vs;let J:=(3,oC [dS s]);gH (ctr libT (QT.or Zbc (asmA (D.tuple []) (updO [] ks vs)))) 0 true rs88 (frg sc88 3) { tm:=[(2,dP 0 0),(5,dV 1),(8,dP 2 0)],ob:=[(0,oC [dS s]),(1,oR true 1 110 row),(2,oC [D.map 3]),(3,Ob.gen G [])] }=(Ow True (Ow (CallL Tryz.prog (dF 139 [] [dP 0 0]) [D.yld 1] [F,(1,Ob.gen (Gen.loop LoopState.ready none #[29] C A 56 [28,27,2,5,8]) B),E,J,H,(5,Ob.gen G [])] fun r0 ob0=>r0=D.tuple []/\ob0=[F,(1,Ob.gen (Gen.loop LoopState.ready none #[29] C A 56 [28,27,2,5,8]) B),E,J,H,(5,Ob.gen I [])]) (Jm (frg sc88 4) { tm:=[(8,dP 0 0)],ob:=[(0,oC [D.map 1]),(1,Ob.gen I [])] })):Tr):=by intro A B C E F G H I J;kernel_rfl
theorem Zh0 (ks vs:List D):gH (ctr libT) 0 true rs88 (frg sc88 4) { tm:=[(8,dP 0 0)],ob:=[(0,oC [D.map 1]),(1,Ob.gen (Gen.mapC ks vs) [])] }=(Jm (frg sc88 5) { tm:=[(8,dP 0 0),(12,dV 1)],ob:=[(0,oC [D.map 2]),(1,oR false 4 35 []),(2,Ob.gen (Gen.mapC ks vs) [])] }:Tr):=by kernel_rfl
theorem ZgZ (ks vs:List D):let A:=[(0,oC [D.map 2]),(1,oR false 4 35 []),(2,Ob.gen (Gen.mapC ks vs) [])];let B:=[(8,dP 0 0),(12,dV 1)];gH (ctr libT) 0 true rs88 (frg sc88 5) { tm:=B,ob:=A }=(Jm (spc sc88 6) { tm:=B,ob:=A }:Tr):=by intro A B;kernel_rfl
theorem ZgY (ks vs:List D) (l:List Nat) (cl:Nat):let A:=(2,Ob.gen (Gen.mapB ks vs l cl) []);let B:=Gen.iter l [] cl;let C:=[D.map 2];gH (ctr libT) 0 true rs88 (aft sc88 6) { tm:=[(44,dP 47 0),(43,D.map 2),(8,dP 0 0),(12,dV 1)],ob:=[(47,Ob.gen B C),A,(0,oC C),(1,oR false 4 35 [])] }=(Jm (cut sc88 1) { tm:=[(12,dV 0),(44,dP 1 0)],ob:=[(0,oR false 4 35 []),(1,Ob.gen B C),A] }:Tr):=by intro A B C;kernel_rfl
theorem Za9 (ks vs:List D) (l ix:List Nat) (cl:Nat) (out:LD):let A:=[(0,oR false 4 35 out),(1,Ob.gen (Gen.iter l ix cl) [D.map 2]),(2,Ob.gen (Gen.mapB ks vs l cl) [])];let B:=[(12,dV 0),(44,dP 1 0)];gH (ctr libT) 0 true rs88 (cut sc88 1) { tm:=B,ob:=A }=(Jm (spc sc88 7) { tm:=B,ob:=A }:Tr):=by intro A B;kernel_rfl
theorem ZgV (ks vs:List D) (l ix:List Nat) (cl:Nat) (out:LD):let A:=(0,oR false 4 35 out);gH (ctr libT) 0 true rs88 (aft sc88 7) { tm:=[(46,dB false),(45,D.undef),(12,dV 0),(44,dP 1 0)],ob:=[(2,Ob.gen (Gen.mapC ks vs) []),A,(1,Ob.gen (Gen.iter l ix cl) [D.map 2])] }=(Jm (frg sc88 6) { tm:=[(12,dV 0)],ob:=[A] }:Tr):=by intro A;kernel_rfl
theorem ZgT (ks vs:List D) (l ix:List Nat) (cl:Nat) (out:LD) (n:Int):let A:=[(1,Ob.gen (Gen.iter l ix cl) [D.map 2]),(0,oR false 4 35 out),(2,Ob.gen (Gen.mapB ks vs l cl) [])];let B:=[dU (1:Int),dI n,dS [],dL [] []];let C:=[(46,dB true),(45,D.undef),(12,dV 0),(44,dP 1 0)];let E:=[dI n,dI n];gH (ctr (asmP (dA B)) Qg (eOne [D.tuple E])) 0 true rs88 (aft sc88 7) { tm:=C,ob:=A }=(Ow (extD Ext.entry [dP 1 0] (lk (St.ob { tm:=C,ob:=A }))=some (D.tuple E)) (Ow (FK 117 [dI n] (dA B)) (Ow (Zc 4 [B]/\List.length out+1<=1073741824) (Jm (cut sc88 1) { tm:=[(12,dV 0),(44,dP 1 0)],ob:=[(0,oR false 4 35 (out++[B])),(1,Ob.gen (Gen.iter l ix cl) [D.map 2]),(2,Ob.gen (Gen.mapB ks vs l cl) [])] }))):Tr):=by intro A B C E;kernel_rfl
theorem ZgW (out res:LD):let A:=[(0,oR false 4 35 out)];let B:=[(0,oR true 4 35 res)];gH (ctr libT (asmO (dV 0) B)) 0 true rs88 (frg sc88 6) { tm:=[(12,dV 0)],ob:=A }=(Ow (CF 120 [dV 0] A fun r0 ob0=>r0=dV 0/\ob0=B) (Rt (D.own 4 35 res) []):Tr):=by intro A B;kernel_rfl
theorem Zh4 (n:Int):gP (ctr libT) Zf4 Zeo [dI n]=(Rt (dA [dU (1:Int),dI n,dS [],dL [] []]) []:Tr):=by kernel_rfl
theorem ZcN (n:Int):FK 117 [.int .i64 n] (.agg [.int .u8 1,.int .i64 n,.str [],.slice [] []]):=by
 refine FnOK.tree Z4 Zl8 (Z3 Z2 Z0) (Zh4 n) ?_
 simp only[SS]
theorem Zkt (ext:LD) (l:List Tm) (hl:l.length<=1073741823): ∀ (m i:Nat) (row:List Int),l.length-i=m->i<=l.length->row.length<=i →
  At Tryz.prog 0 (cut sc87 0) (Zky (Tm.cellsL l) ext (intC .i64 row) l.length i) (FinQ true 0 rs87 fun r _=>r= .own 1 3 (intC .i64 (row++Zd (l.drop i)))):=by
 intro m
 induction m with
 | zero =>
  intro i row hm hi hr
  refine At.tree (Z3 Z2 Z0) (Z6Y (Tm.cellsL l) ext (intC .i64 row) l.length i 0 0 [] []) ?_
  have e:l.drop i=[]:=List.drop_eq_nil_of_le (by omega)
  rw[e]
  simp only[SS,Zd,List.filterMap_nil,List.append_nil]
  exact⟨fun h=>by omega,fun _=>trivial⟩
 | succ m ih =>
  intro i row hm hi hr
  have h1:i<l.length:=by omega
  have hx:(Tm.cellsL l)[i]? = some l[i].cells:=by rw[Zp]; simp[h1]
  rw[Za h1]
  generalize l[i]=x at hx
  obtain⟨k,n,s,a⟩:=x
  refine At.tree (Z3 Z2 Z0) (Z6Y (Tm.cellsL l) ext (intC .i64 row) l.length i k n s (Tm.cellsL a)) ?_
  have al: ∀ n:Int,Zc 1 [[dI n]]:=fun n=>by simp[Zc]
  simp only[SS,Zy]
  refine⟨fun _=>⟨⟨by omega,hx⟩,fun hk=>⟨⟨al n,by omega⟩,by omega, ?_⟩,fun hk=>⟨by omega, ?_⟩⟩,fun h=>by omega⟩
  ·have:=ih (i+1) (row++[n]) (by omega) (by omega) (by simp; omega)
   have e:Zd (Tm.mk k n s a::l.drop (i+1))=n::Zd (l.drop (i+1)):=by rw[Z2T,if_pos (by omega)]
   have e2:intC .i64 (row++[n])=intC .i64 row++[[.int .i64 n]]:=by simp[intC]
   rw[e]
   rw[e2,List.append_assoc] at this
   exact this
  ·have:=ih (i+1) row (by omega) (by omega) (by omega)
   have e:Zd (Tm.mk k n s a::l.drop (i+1))=Zd (l.drop (i+1)):=by rw[Z2T,if_neg (by omega)]
   rw[e]
   exact this
theorem Z9a (ext:LD) (l:List Tm) (hl:l.length<=1073741823):FK 87 [.slice (Tm.cellsL l) ext] (.own 1 3 (intC .i64 (Zd l))):=by
 refine FnOK.tree Z4 fp87 (Z3 Z2 Z0) (Zhb (Tm.cellsL l) ext) ?_
 simp only[SS,Z1]
 exact Zkt ext l hl _ 0 [] rfl (Nat.zero_le _) (Nat.zero_le _)
def SetC (q res:List Int):Prop:=CF 120 [.vec 0] [(0,.arr false 4 35 (numC q))] fun r ob=>r= .vec 0/\ob=[(0,.arr true 4 35 (numC res))]
theorem spc7:spc sc88 7= .sc (.spec (.nxt (xt 44) 45 46))::aft sc88 7:=rfl
theorem spc6:spc sc88 6= .sc (.spec (.rng [so 43 (.load false 1) [xt 8]] 44 (xt 43)))::aft sc88 6:=rfl
theorem Z0u (l:List Int):(numC l).length=l.length:=by simp[numC]
theorem Zkc (acc res:List Int) (hset: ∀ q:List Int,q.Perm acc->SetC q res) (hacc:acc.length<=1000) (l:List Nat) (hl:l.length=acc.length) (cl:Nat): ∀ (m:Nat) (ix:List Nat),ix.Nodup->(∀ i∈ix,i<acc.length)->acc.length-ix.length=m →
  swF Tryz.prog (6001+4001*m) 0 (cut sc88 1) ⟨[(12,.vec 0),(44,.ptr 1 0)],[(0,.arr false 4 35 (numC (ix.map fun i=>acc.getD i 0))),(1,.gen (.iter l ix cl) [.map 2]),(2,.gen (.mapB (intD acc) (intD acc) l cl) [])]⟩
   (FinQ true 0 rs88 fun r _=>r= .own 4 35 (numC res)):=by
 intro m
 induction m with
 | zero =>
  intro ix hnd hlt hm
  have hlen:ix.length<=acc.length:=by
   have:=List.Nodup.length_le_of_subset hnd (l₂:=List.range acc.length) (fun i hi=>List.mem_range.2 (hlt i hi))
   simpa using this
  refine swF.tree (n0:=4001) (n:=2000) (Z3 Z2 Z0) (Za9 (intD acc) (intD acc) l ix cl (numC (ix.map fun i=>acc.getD i 0))) ?_
  rw[Z9,spc7]
  refine Z3h ⟨1,l,ix,cl,2,intD acc,intD acc,rfl,rfl,rfl,by decide,fun hall=>⟨rfl, ?_⟩,fun i hi hn=>⟨rfl, ?_⟩⟩
  ·refine swF.tree (n0:=2000) (n:=2000) (Z3 Z2 Z0) (ZgV (intD acc) (intD acc) l ix cl (numC (ix.map fun i=>acc.getD i 0))) ?_
   rw[Z9]
   refine swF.tree (n0:=0) (n:=2000) (Z3 Z2 (Z0K _ _)) (ZgW (numC (ix.map fun i=>acc.getD i 0)) (numC res)) ?_
   simp only[SS]
   exact hset _ (Z8L hnd hlt fun i hi=>hall i (by omega))
  ·exact absurd (Zg0 hnd hlt (by omega) i (by omega)) hn
 | succ m ih =>
  intro ix hnd hlt hm
  rw[show 6001+4001*(m+1)=(4000+4001*(m+1)+1)+2000 by omega]
  refine swF.tree (n0:=4000+4001*(m+1)+1) (n:=2000) (Z3 Z2 Z0) (Za9 (intD acc) (intD acc) l ix cl (numC (ix.map fun i=>acc.getD i 0))) ?_
  rw[Z9,spc7]
  refine Z3h ⟨1,l,ix,cl,2,intD acc,intD acc,rfl,rfl,rfl,by decide,fun hall=>⟨rfl, ?_⟩,fun i hi hn=>⟨rfl, ?_⟩⟩
  ·have hp:=Z8L hnd hlt fun i hi=>hall i (by omega)
   have:=hp.length_eq
   simp only[List.length_map] at this
   omega
  ·have hi':i<acc.length:=by omega
   have hI:=ih (ix++[i]) (by rw[List.nodup_append]; exact⟨hnd,by simp,fun a ha b hb e=>by simp at hb; subst hb; subst e; exact hn ha⟩) (fun j hj=>by
    rcases List.mem_append.1 hj with hj | hj
    ·exact hlt j hj
    ·simp at hj; omega) (by simp; omega)
   rw[show 4000+4001*(m+1)=(6001+4001*m)+2000 by omega]
   refine swF.tree (n0:=6001+4001*m) (n:=2000) (Z3 (Zl _) Z0) (ZgT (intD acc) (intD acc) l (ix++[i]) cl (numC (ix.map fun i=>acc.getD i 0)) (acc.getD i 0)) ?_
   have hlen:ix.length<=acc.length:=by
    have:=List.Nodup.length_le_of_subset hnd (l₂:=List.range acc.length) (fun i hi=>List.mem_range.2 (hlt i hi))
    simpa using this
   have e:numC (ix.map fun i=>acc.getD i 0)++[[dU 1,dI (acc.getD i 0),dS [],dL [] []]]=numC ((ix++[i]).map fun i=>acc.getD i 0):=by simp[numC]
   have hg:(intD acc)[i]? = some (.int .i64 (acc.getD i 0)):=by simp[intD,hi']
   simp only[SS,Z0u,List.length_map]
   rw[e]
   refine⟨?_,ZcN _,⟨by simp[Zc],by omega⟩,hI⟩
   simp[extD,lk,hg,kOK]
def Z8 (L:List (List Tm)):LD:=L.map fun l=>[.slice (Tm.cellsL l) []]
theorem ZE (L:List (List Tm)):(Z8 L).length=L.length:=by simp[Z8]
theorem Ql {L:List (List Tm)} {i:Nat} (h:i<L.length):(Z8 L)[i]? = some [.slice (Tm.cellsL L[i]) []]:=by simp[Z8,h]
section
variable (s:LU) (L:List (List Tm)) (ext:LD) (acc res:List Int) (hL:L.length<=1073741823) (hl: ∀ l∈L,l.length<=1073741823) (hacc:(Zb (opB s) (L.map Zd) 0 (List.replicate L.length 0,[])).2=acc) (hz:acc.length<=1000) (hset: ∀ q:List Int,q.Perm acc->SetC q res)
abbrev QOp (res:List Int):Exit->St->Prop:=FinQ true 0 rs88 fun r _=>r= .own 4 35 (numC res)
include hL hl hacc hz hset
theorem Zk1:At Tryz.prog 0 (frg sc88 2) ⟨[(2,.ptr 0 0),(5,.vec 1)],[(0,.cells [.str s]),(1,.arr true 1 110 (lisD (L.map Zd)))]⟩ (QOp res):=by
 refine At.tree (Z3 Z2 Z0) (Zh1 s (lisD (L.map Zd))) ?_
 rw[Z9]
 refine At.tree (Z3 Z2 (QT.or_ok Z68 (Zw _ _))) (ZgU s (lisD (L.map Zd)) (intD acc) (intD acc)) ?_
 have hI: ∀ l∈L.map Zd,l.length<=1073741824:=by
  intro l h
  obtain⟨l',h',rfl⟩:=List.mem_map.1 h
  have:=hl l' h'
  have:=List.length_filterMap_le Tm.int? l'
  unfold Zd
  omega
 have hR:=ZeE s (L.map Zd) (by simp; omega) hI (by rw[List.length_map,hacc]; exact hz)
 rw[List.length_map,hacc] at hR
 simp only[SS]
 refine⟨hR, ?_⟩
 refine At.tree (Z3 Z2 Z0) (Zh0 (intD acc) (intD acc)) ?_
 rw[Z9]
 refine At.tree (Z3 Z2 Z0) (ZgZ (intD acc) (intD acc)) ?_
 rw[Z9,spc6]
 refine⟨_,Z3h (n:=6001+4001*acc.length+2000) ⟨2,intD acc,intD acc,rfl,rfl,rfl,(by show (2:Nat)≠47; decide),fun l cl h1 h2 h3=>⟨rfl, ?_⟩⟩⟩
 refine swF.tree (n0:=6001+4001*acc.length) (n:=2000) (Z3 Z2 Z0) (ZgY (intD acc) (intD acc) l cl) ?_
 rw[Z9]
 exact Zkc acc res hset hz l (by rw[h1,Z3E]) cl _ [] List.nodup_nil (fun i hi=>by simp at hi) rfl
theorem ZjV: ∀ (m i:Nat),L.length-i=m->i<=L.length →
  At Tryz.prog 0 (cut sc88 0) (hdOp s (Z8 L) ext (lisD ((L.take i).map Zd)) L.length i) (QOp res):=by
 intro m
 induction m with
 | zero =>
  intro i hm hi
  refine At.tree (Z3 (Zl _) Z0) (Zaa s (Z8 L) ext (lisD ((L.take i).map Zd)) [] L.length i []) ?_
  have e:L.take i=L:=List.take_of_length_le (by omega)
  rw[e]
  simp only[SS]
  exact⟨fun h=>by omega,fun _=>Zk1 s L acc res hL hl hacc hz hset⟩
 | succ m ih =>
  intro i hm hi
  have h1:i<L.length:=by omega
  have e:lisD ((L.take i).map Zd)++[[.slice (intC .i64 (Zd L[i])) []]]=lisD ((L.take (i+1)).map Zd):=by
   rw[List.take_add_one,List.getElem?_eq_getElem h1]
   simp only[lisD,List.map_append,Option.toList_some,List.map_cons,List.map_nil]
  refine At.tree (Z3 (Zl _) Z0) (Zaa s (Z8 L) ext (lisD ((L.take i).map Zd)) (Tm.cellsL L[i]) L.length i (intC .i64 (Zd L[i]))) ?_
  simp only[SS,Qw,List.length_map,List.length_take]
  rw[e]
  refine⟨fun _=>⟨⟨by omega,Ql h1⟩,Z9a [] L[i] (hl _ (List.getElem_mem h1)),⟨by simp[Zc],by omega⟩,by omega,ih (i+1) (by omega) (by omega)⟩,fun h=>by omega⟩
theorem ZnI:FK 88 [.str s,.slice (Z8 L) ext] (.own 4 35 (numC res)):=by
 refine FnOK.tree Z4 fp88 (Z3 Z2 Z0) (ZgX s (Z8 L) ext) ?_
 rw[Z9]
 refine At.tree (Z3 Z2 Z0) (Zh3 s (Z8 L) ext) ?_
 rw[Z9]
 refine At.tree (Z3 Z2 Z0) (Zh2 s (Z8 L) ext) ?_
 rw[Z9,ZE]
 exact ZjV s L ext acc res hL hl hacc hz hset _ 0 rfl (Nat.zero_le _)
end
end Go.Proofs.YtobgkdlghljdlaaGreatDoor
/- The Match seat has no arith.spans. -/
namespace Go.Proofs.YtobgkdlghljdlaaGreatDoor
open Go.Sx
end Go.Proofs.YtobgkdlghljdlaaGreatDoor
/- arith.functions: its trees. -/
namespace Go.Proofs.YtobgkdlghljdlaaGreatDoor
open Go.Sx
theorem Zn3 (es ext:LD):gC (ctr libT) 0 ZeY Zei [] [dL es ext] [] []=(Rt (dF 149 [] [dP 0 0]) [(0,oC [dL es ext])]:Tr):=by kernel_rfl
theorem Zdc (s:LU) (es ext:LD):gP (ctr libT) rs89 sc89 [dS s,dL es ext]=(Jm (frg sc89 0) { tm:=[(1,dL es ext),(2,dP 0 0),(4,dP 1 0)],ob:=[(0,oC [dS s]),(1,oC [D.nils])] }:Tr):=by kernel_rfl
theorem Zae (s:LU) (es ext:LD) (b:Bool):let A:=[(1,dL es ext),(2,dP 0 0),(4,dP 1 0)];let B:=[(0,oC [dS s]),(1,oC [D.nils])];gH (ctr libT (asmA (dB b) id)) 0 true rs89 (frg sc89 0) { tm:=A,ob:=B }=(Ow (CF 121 [dL es ext,dF 122 [] []] [] fun r0 ob0=>r0=dB b/\ob0=[]) (brT b (Rt (dL [] []) []) (Jm (frg sc89 1) { tm:=A,ob:=B })):Tr):=by intro A B;kernel_rfl
theorem Zhg (s:LU) (es ext:LD):let A:=[(0,oC [dS s]),(1,oC [D.nils])];let B:=(1,dL es ext);gH (ctr libT) 0 true rs89 (frg sc89 1) { tm:=[B,(2,dP 0 0),(4,dP 1 0)],ob:=A }=(Jm (frg sc89 2) { tm:=[B,(2,dP 0 0),(4,dP 1 0),(5,dI (1:Int))],ob:=A }:Tr):=by intro A B;kernel_rfl
theorem Zhf (s:LU) (es ext:LD):let A:=[(0,oC [dS s]),(1,oC [D.nils])];let B:=(5,dI (1:Int));let C:=(1,dL es ext);gH (ctr libT) 0 true rs89 (frg sc89 2) { tm:=[C,(2,dP 0 0),(4,dP 1 0),B],ob:=A }=(Jm (cut sc89 0) { tm:=[C,(2,dP 0 0),(4,dP 1 0),B,(11,dL es ext),(12,dI (↑(List.length es):Int)),(13,dI (0:Int))],ob:=A }:Tr):=by intro A B C;kernel_rfl
def hdFn (s:LU) (es ext:LD) (p m i:Int):St:=⟨[(1,.slice es ext),(2,.ptr 0 0),(4,.ptr 1 0),(5,.int .i64 p),(11,.slice es ext),(12,.int .i64 m),(13,.int .i64 i)],[(0,.cells [.str s]),(1,.cells [.nils])]⟩
theorem Zad (s:LU) (es ext:LD) (p m:Int) (i:Nat) (xs:LD):let A:=(↑(List.length xs):Int);let B:=[(0,oC [dS s]),(1,oC [D.nils])];let C:=((↑i:Int)+(1:Int));let E:=(1,dL es ext);let F:=cut sc89 0;gH (ctr limP Qg (eOne [dL xs []])) 0 true rs89 F (hdFn s es ext p m (↑i:Int))=(brT (decide ((↑i:Int)<m)) (Ow ((0:Int)<=(↑i:Int)/\es[Int.toNat (↑i:Int)]? = some [dL xs []]) (I8 (p*A) (Ow (p*A<=(1000:Int)) (I8 C (Jm F { tm:=[E,(2,dP 0 0),(4,dP 1 0),(5,dI (p*A)),(11,dL es ext),(12,dI m),(13,dI C)],ob:=B }))))) (Jm (frg sc89 3) { tm:=[E,(2,dP 0 0),(4,dP 1 0)],ob:=B }):Tr):=by intro A B C E F;kernel_rfl
def Zfa:QT:=fun d xs ob=>match d,xs,ob with
 | .func (.func f) [] [],[.slice es ext],[]=>if f=123 then some (.ok True (.func (.func 149) [] [.ptr 0 0]) [(0,.cells [.slice es ext])]) else none
 | _,_,_=>none
theorem Zbb:Zfa.OK:=by
 intro d xs ob rt h
 unfold Zfa at h
 split at h
 ·split at h
  ·rename_i hf
   subst hf
   cases h
   intro _
   exact CallL.tree Z4 Zl2 (Z3 Z2 Z0) (Zn3 _ _) ⟨rfl,rfl⟩
  ·cases h
 ·cases h
def ZaP (row out:LD) (n:Nat):Obs->Obs
 | []=>[]
 | (i,.arr false sz e _)::r=>(if i+1=n then (n,.arr false sz e out) else (i,.arr false sz e row))::ZaP row out n r
 | (i,.cells [.vec j])::r=>(i,.cells [.vec (if j+1=n then n else j)])::ZaP row out n r
 | x::r=>x::ZaP row out n r
def ZaQ (row out:LD) (n:Nat):Obs->Obs
 | []=>[(n,.arr false 4 35 out)]
 | (i,.arr false sz e _)::r=>(i,.arr false sz e row)::ZaQ row out n r
 | (i,.cells [.nils])::r=>(i,.cells [.vec n])::ZaQ row out n r
 | x::r=>x::ZaQ row out n r
def uA (row out:LD) (ob:Obs):Obs:=ZaQ row out ob.length ob
def uB (row out:LD) (ob:Obs):Obs:=ZaP row out ob.length ob
def Z94:List Nat:=[24,23,1,2,4]
def dsT (es:LD) (a c d:Nat):List D:=[.func (.func 149) [] [.ptr a 0],.slice es [],.slice es [],.ptr c 0,.ptr d 0]
def recT (st:LoopState) (pend:Option Code) (ds:List D):Ob:= .gen (.loop st pend #[25] (sc89.rngA 0) (sc89.rngB 0) 36 Z94) ds
def obTA (s:LU) (es:LD):Obs:=[(0,.cells [.slice es []]),(1,recT .ready none (dsT es 0 2 3)),(2,.cells [.str s]),(3,.cells [.nils])]
def obTB (s:LU) (es out:LD):Obs:=[(0,.cells [.slice es []]),(1,recT .ready none (dsT es 0 2 3)),(2,.cells [.str s]),(3,.cells [.vec 4]),(4,.arr false 4 35 out)]
def obFA (s:LU) (es row:LD):Obs:=[(0,.cells [.slice es []]),(1,.cells [.yld 4]),(2,.cells [.vec 5]),(3,.cells [.func (.func 150) [] [.ptr 0 0,.ptr 1 0,.ptr 2 0,.ptr 3 0]]),
 (4,recT .ready none (dsT es 0 6 7)),(5,.arr false 4 35 row),(6,.cells [.str s]),(7,.cells [.nils])]
def obFN (nm:Nat) (s:LU) (es row out:LD):Obs:=[(0,.cells [.slice es []]),(1,.cells [.yld 4]),(2,.cells [.vec 5]),(3,.cells [.func (.func 150) [] [.ptr 0 0,.ptr 1 0,.ptr 2 0,.ptr 3 0]]),
 (4,recT .ready none (dsT es 0 6 7)),(5,.arr false 4 35 row),(6,.cells [.str s]),(7,.cells [.vec nm]),(nm,.arr false 4 35 out)]
def obYA (s:LU) (es row:LD):Obs:=[(1,.arr false 4 35 row),(2,.cells [.slice es []]),(3,.cells [.str s]),(4,.cells [.nils])]
def obYB (s:LU) (es row out:LD):Obs:=[(1,.arr false 4 35 row),(2,.cells [.slice es []]),(3,.cells [.str s]),(4,.cells [.vec 5]),(5,.arr false 4 35 out)]
theorem Zhe (s:LU) (es row out:LD):let A:=[dU (0:Int),dI (0:Int),dS [],dL [] []];let B:=[dF 149 [] [dP 0 0],dL es [],dL es [],dP 2 0,dP 3 0];let C:=AOp.load false 1;let E:=(0,oC [dL es []]);let F:=(2,oC [dS s]);gH (ctr libT (QT.or Zfa (asmA (D.tuple []) fun x=>obTB s es out))) 0 true rs89 (frg sc89 3) { tm:=[(1,dL es []),(2,dP 0 0),(4,dP 1 0)],ob:=[(0,oC [dS s]),(1,oC [D.nils])] }=(Ow True (Ow (CallL Tryz.prog (dF 149 [] [dP 0 0]) [D.yld 1] [E,(1,Ob.gen (Gen.loop LoopState.ready none #[25] (SC.reg [so 8 AOp.mv [xt 25]]) (SC.block 3 (SC.drw [0,0,0,4,14,1,0,127,255,511,255] [so 26 C [xt 4],so 27 C [xt 2],so 28 AOp.mv [xt 8],SOp.cd (some 29) none (xc (dF 124 [] [])) [xt 28],so 30 (AOp.build A [(0,1),(2,1),(3,1)]) [xc (dU (4:Int)),xt 27,xt 29],so 31 (AOp.len false) [xt 26],so 32 (AOp.bslice true 4 1 35 A [(0,4)]) [xc (dA A)],SOp.app 33 none false 4 35 (xt 26) (xt 32),so 34 (AOp.iaddr 4) [xt 33,xt 31],SOp.st none (SK.c 4) (xt 34) (xt 30),SOp.st none (SK.c 1) (xt 4) (xt 33)])) 36 [24,23,1,2,4]) B),F,(3,oC [D.nils])] fun r0 ob0=>r0=D.tuple []/\ob0=[E,(1,gL .ready none #[25] sc89 0 36 [24,23,1,2,4] B),F,(3,oC [dV 4]),(4,oR false 4 35 out)]) (Jm (frg sc89 4) { tm:=[(4,dP 0 0)],ob:=[(0,oC [dV 1]),(1,oR false 4 35 out)] })):Tr):=by intro A B C E F;kernel_rfl
theorem Zn4 (s:LU) (es row out:LD):let A:=(↑(List.length es):Int);let B:=[dP 0 0,dP 1 0,dP 2 0,dP 3 0];let C:=[dF 149 [] [dP 0 0],dL es [],dL es [],dP 6 0,dP 7 0];let E:=(0,oC [dL es []]);let F:=(3,oC [dF 150 [] B]);let G:=(1,oC [D.yld 4]);let H:=(2,oC [dV 5]);let I:=(6,oC [dS s]);gC (ctr libT (asmA (dB true) (uA row out))) 4 ZeO Ze8 [] [D.yld 1] [dP 0 0] (obTA s es)=(Ow ((0:Int)<=A/\A*(56:Int)<=(281474976710656:Int)/\A<=(1073741824:Int)) (Ow (CallL Tryz.prog (dF 150 [] B) [dI (0:Int)] [E,G,H,F,(4,gL .ready none #[25] sc89 0 36 [24,23,1,2,4] C),(5,oR false 4 35 (List.replicate (Int.toNat A) [dU (0:Int),dI (0:Int),dS [],dL [] []])),I,(7,oC [D.nils])] fun r0 ob0=>r0=dB true/\ob0=[E,G,H,F,(4,gL .ready none #[25] sc89 0 36 [24,23,1,2,4] C),(5,oR false 4 35 row),I,(7,oC [dV 8]),(8,oR false 4 35 out)]) (Rt (D.tuple []) [E,(1,gL .ready none #[25] sc89 0 36 [24,23,1,2,4] [dF 149 [] [dP 0 0],dL es [],dL es [],dP 2 0,dP 3 0]),(2,oC [dS s]),(3,oC [dV 4]),(4,oR false 4 35 out)])):Tr):=by intro A B C E F G H I;kernel_rfl
theorem Zdp (s:LU) (es row xs row' out':LD) (k:Int):let A:=[dP 0 0,dP 1 0,dP 2 0,dP 3 0];let B:=[dF 149 [] [dP 2 0],dL es [],dL es [],dP 3 0,dP 4 0];let C:=[dF 149 [] [dP 0 0],dL es [],dL es [],dP 6 0,dP 7 0];let E:=[dL es []];let F:=(3,oC [dF 150 [] A]);let G:=(1,oC [D.yld 4]);let H:=(3,oC [dS s]);let I:=(2,oC [dV 5]);let J:=(6,oC [dS s]);gC (ctr libT (asmA (dB true) (uA row' out')) (eOne [dL xs []])) 8 Z2A Z1w [] [dI k] A (obFA s es row)=(brT (decide (k=(↑(List.length es):Int))) (Ow (CallL Tryz.prog (D.yld 0) [dV 1] [(0,gL .ready none #[25] sc89 0 36 [24,23,1,2,4] B),(1,oR false 4 35 row),(2,oC E),H,(4,oC [D.nils])] fun r0 ob0=>r0=dB true/\ob0=[(0,gL .ready none #[25] sc89 0 36 [24,23,1,2,4] B),(1,oR false 4 35 row'),(2,oC E),H,(4,oC [dV 5]),(5,oR false 4 35 out')]) (Rt (dB true) [(0,oC E),G,I,F,(4,gL .ready none #[25] sc89 0 36 [24,23,1,2,4] C),(5,oR false 4 35 row'),J,(7,oC [dV 8]),(8,oR false 4 35 out')])) (Ow ((0:Int)<=k/\es[Int.toNat k]? = some [dL xs []]) (Jm (cut Z1w 0) { tm:=[(0,dI k),(3,dP 2 0),(4,dP 3 0),(19,dL xs []),(20,dI (↑(List.length xs):Int)),(21,dI (0:Int))],ob:=[(0,oC E),G,I,F,(4,gL .ready none #[25] sc89 0 36 [24,23,1,2,4] C),(5,oR false 4 35 row),J,(7,oC [D.nils])] })):Tr):=by intro A B C E F G H I J;kernel_rfl
theorem Zdo (s:LU) (es row out xs row' out':LD) (k:Int):let A:=[dP 0 0,dP 1 0,dP 2 0,dP 3 0];let B:=[dF 149 [] [dP 2 0],dL es [],dL es [],dP 3 0,dP 4 0];let C:=[dF 149 [] [dP 0 0],dL es [],dL es [],dP 6 0,dP 7 0];let E:=[dL es []];let F:=(3,oC [dF 150 [] A]);let G:=(1,oC [D.yld 4]);let H:=(3,oC [dS s]);let I:=(2,oC [dV 5]);let J:=(6,oC [dS s]);gC (ctr libT (asmA (dB true) (uB row' out')) (eOne [dL xs []])) 9 Z2A Z1w [] [dI k] A (obFN 8 s es row out)=(brT (decide (k=(↑(List.length es):Int))) (Ow (CallL Tryz.prog (D.yld 0) [dV 1] [(0,gL .ready none #[25] sc89 0 36 [24,23,1,2,4] B),(1,oR false 4 35 row),(2,oC E),H,(4,oC [dV 5]),(5,oR false 4 35 out)] fun r0 ob0=>r0=dB true/\ob0=[(0,gL .ready none #[25] sc89 0 36 [24,23,1,2,4] B),(1,oR false 4 35 row'),(2,oC E),H,(4,oC [dV 6]),(6,oR false 4 35 out')]) (Rt (dB true) [(0,oC E),G,I,F,(4,gL .ready none #[25] sc89 0 36 [24,23,1,2,4] C),(5,oR false 4 35 row'),J,(7,oC [dV 9]),(9,oR false 4 35 out')])) (Ow ((0:Int)<=k/\es[Int.toNat k]? = some [dL xs []]) (Jm (cut Z1w 0) { tm:=[(0,dI k),(3,dP 2 0),(4,dP 3 0),(19,dL xs []),(20,dI (↑(List.length xs):Int)),(21,dI (0:Int))],ob:=[(0,oC E),G,I,F,(4,gL .ready none #[25] sc89 0 36 [24,23,1,2,4] C),(5,oR false 4 35 row),J,(7,oC [dV 8]),(8,oR false 4 35 out)] })):Tr):=by intro A B C E F G H I J;kernel_rfl
theorem ZhK (s:LU) (es row xs row' out':LD) (k m:Int) (i:Nat) (kx nx:Int) (sx:LU) (ax:LD):let A:=[dF 149 [] [dP 0 0],dL es [],dL es [],dP 6 0,dP 7 0];let B:=(3,oC [dF 150 [] [dP 0 0,dP 1 0,dP 2 0,dP 3 0]]);let C:=(0,oC [dL es []]);let E:=(1,oC [D.yld 4]);let F:=(2,oC [dV 5]);let G:=(6,oC [dS s]);let H:=tC kx nx sx ax;let I:=(5,oR false 4 35 row');let J:=(8,oR false 4 35 out');let K:=((↑i:Int)+(1:Int));let L:=(7,oC [D.nils]);let M:=cut Z1w 0;let N:=(7,oC [dV 8]);let O:=(k+(1:Int));gH (ctr libT (asmA (dB true) (uA row' out')) (eOne H)) 8 false Z2A M (hdF k m (↑i:Int) xs (obFA s es row))=(brT (decide ((↑i:Int)<m)) (Ow ((0:Int)<=(↑i:Int)/\xs[Int.toNat (↑i:Int)]? = some H) (Ow ((0:Int)<=k/\k<(↑(List.length row):Int)) (Ow (Int.toNat k<List.length row) (I8 O (Ow (CallL Tryz.prog (dF 150 [] [dP 0 0,dP 1 0,dP 2 0,dP 3 0]) [dI O] [C,E,F,B,(4,gL .ready none #[25] sc89 0 36 [24,23,1,2,4] A),(5,oR false 4 35 (List.set row (Int.toNat k) H)),G,L] fun r0 ob0=>r0=dB true/\ob0=[C,E,F,B,(4,gL .ready none #[25] sc89 0 36 [24,23,1,2,4] A),I,G,N,J]) (I8 K (Jm M { tm:=[(0,dI k),(3,dP 2 0),(4,dP 3 0),(19,dL xs []),(20,dI m),(21,dI K)],ob:=[C,E,F,B,(4,gL .ready none #[25] sc89 0 36 [24,23,1,2,4] A),I,G,N,J] }))))))) (Rt (dB true) [C,E,F,B,(4,gL .ready none #[25] sc89 0 36 [24,23,1,2,4] A),(5,oR false 4 35 row),G,L]):Tr):=by intro A B C E F G H I J K L M N O;kernel_rfl
theorem ZhJ (s:LU) (es row out xs row' out':LD) (k m:Int) (i:Nat) (kx nx:Int) (sx:LU) (ax:LD):let A:=[dF 149 [] [dP 0 0],dL es [],dL es [],dP 6 0,dP 7 0];let B:=(3,oC [dF 150 [] [dP 0 0,dP 1 0,dP 2 0,dP 3 0]]);let C:=(0,oC [dL es []]);let E:=(1,oC [D.yld 4]);let F:=(2,oC [dV 5]);let G:=(6,oC [dS s]);let H:=tC kx nx sx ax;let I:=(5,oR false 4 35 row');let J:=(9,oR false 4 35 out');let K:=(8,oR false 4 35 out);let L:=((↑i:Int)+(1:Int));let M:=cut Z1w 0;let N:=(7,oC [dV 8]);let O:=(7,oC [dV 9]);let P:=(k+(1:Int));gH (ctr libT (asmA (dB true) (uB row' out')) (eOne H)) 9 false Z2A M (hdF k m (↑i:Int) xs (obFN 8 s es row out))=(brT (decide ((↑i:Int)<m)) (Ow ((0:Int)<=(↑i:Int)/\xs[Int.toNat (↑i:Int)]? = some H) (Ow ((0:Int)<=k/\k<(↑(List.length row):Int)) (Ow (Int.toNat k<List.length row) (I8 P (Ow (CallL Tryz.prog (dF 150 [] [dP 0 0,dP 1 0,dP 2 0,dP 3 0]) [dI P] [C,E,F,B,(4,gL .ready none #[25] sc89 0 36 [24,23,1,2,4] A),(5,oR false 4 35 (List.set row (Int.toNat k) H)),G,N,K] fun r0 ob0=>r0=dB true/\ob0=[C,E,F,B,(4,gL .ready none #[25] sc89 0 36 [24,23,1,2,4] A),I,G,O,J]) (I8 L (Jm M { tm:=[(0,dI k),(3,dP 2 0),(4,dP 3 0),(19,dL xs []),(20,dI m),(21,dI L)],ob:=[C,E,F,B,(4,gL .ready none #[25] sc89 0 36 [24,23,1,2,4] A),I,G,O,J] }))))))) (Rt (dB true) [C,E,F,B,(4,gL .ready none #[25] sc89 0 36 [24,23,1,2,4] A),(5,oR false 4 35 row),G,N,K]):Tr):=by intro A B C E F G H I J K L M N O P;kernel_rfl
theorem Zav (s:LU) (es row out xs row' out':LD) (k m:Int) (i:Nat) (kx nx:Int) (sx:LU) (ax:LD):let A:=[dF 149 [] [dP 0 0],dL es [],dL es [],dP 6 0,dP 7 0];let B:=(3,oC [dF 150 [] [dP 0 0,dP 1 0,dP 2 0,dP 3 0]]);let C:=(0,oC [dL es []]);let E:=(1,oC [D.yld 4]);let F:=(2,oC [dV 5]);let G:=(6,oC [dS s]);let H:=tC kx nx sx ax;let I:=(7,oC [dV 8]);let J:=(5,oR false 4 35 row');let K:=(8,oR false 4 35 out);let L:=((↑i:Int)+(1:Int));let M:=cut Z1w 0;let N:=(k+(1:Int));gH (ctr libT (asmA (dB true) (uB row' out')) (eOne H)) 8 false Z2A M (hdF k m (↑i:Int) xs (obFN 8 s es row out))=(brT (decide ((↑i:Int)<m)) (Ow ((0:Int)<=(↑i:Int)/\xs[Int.toNat (↑i:Int)]? = some H) (Ow ((0:Int)<=k/\k<(↑(List.length row):Int)) (Ow (Int.toNat k<List.length row) (I8 N (Ow (CallL Tryz.prog (dF 150 [] [dP 0 0,dP 1 0,dP 2 0,dP 3 0]) [dI N] [C,E,F,B,(4,gL .ready none #[25] sc89 0 36 [24,23,1,2,4] A),(5,oR false 4 35 (List.set row (Int.toNat k) H)),G,I,K] fun r0 ob0=>r0=dB true/\ob0=[C,E,F,B,(4,gL .ready none #[25] sc89 0 36 [24,23,1,2,4] A),J,G,(7,oC [dV 9]),(9,oR false 4 35 out')]) (I8 L (Jm M { tm:=[(0,dI k),(3,dP 2 0),(4,dP 3 0),(19,dL xs []),(20,dI m),(21,dI L)],ob:=[C,E,F,B,(4,gL .ready none #[25] sc89 0 36 [24,23,1,2,4] A),J,G,I,(8,oR false 4 35 out')] }))))))) (Rt (dB true) [C,E,F,B,(4,gL .ready none #[25] sc89 0 36 [24,23,1,2,4] A),(5,oR false 4 35 row),G,I,K]):Tr):=by intro A B C E F G H I J K L M N;kernel_rfl
theorem Zau (s:LU) (es row out xs row' out':LD) (k m:Int) (i:Nat) (kx nx:Int) (sx:LU) (ax:LD):let A:=[dF 149 [] [dP 0 0],dL es [],dL es [],dP 6 0,dP 7 0];let B:=(3,oC [dF 150 [] [dP 0 0,dP 1 0,dP 2 0,dP 3 0]]);let C:=(0,oC [dL es []]);let E:=(1,oC [D.yld 4]);let F:=(2,oC [dV 5]);let G:=(6,oC [dS s]);let H:=tC kx nx sx ax;let I:=(7,oC [dV 9]);let J:=(5,oR false 4 35 row');let K:=(9,oR false 4 35 out');let L:=((↑i:Int)+(1:Int));let M:=cut Z1w 0;let N:=(k+(1:Int));gH (ctr libT (asmA (dB true) (uB row' out')) (eOne H)) 9 false Z2A M (hdF k m (↑i:Int) xs (obFN 9 s es row out))=(brT (decide ((↑i:Int)<m)) (Ow ((0:Int)<=(↑i:Int)/\xs[Int.toNat (↑i:Int)]? = some H) (Ow ((0:Int)<=k/\k<(↑(List.length row):Int)) (Ow (Int.toNat k<List.length row) (I8 N (Ow (CallL Tryz.prog (dF 150 [] [dP 0 0,dP 1 0,dP 2 0,dP 3 0]) [dI N] [C,E,F,B,(4,gL .ready none #[25] sc89 0 36 [24,23,1,2,4] A),(5,oR false 4 35 (List.set row (Int.toNat k) H)),G,(7,oC [dV 8]),(8,oR false 4 35 out)] fun r0 ob0=>r0=dB true/\ob0=[C,E,F,B,(4,gL .ready none #[25] sc89 0 36 [24,23,1,2,4] A),J,G,I,K]) (I8 L (Jm M { tm:=[(0,dI k),(3,dP 2 0),(4,dP 3 0),(19,dL xs []),(20,dI m),(21,dI L)],ob:=[C,E,F,B,(4,gL .ready none #[25] sc89 0 36 [24,23,1,2,4] A),J,G,I,K] }))))))) (Rt (dB true) [C,E,F,B,(4,gL .ready none #[25] sc89 0 36 [24,23,1,2,4] A),(5,oR false 4 35 row),G,I,(9,oR false 4 35 out)]):Tr):=by intro A B C E F G H I J K L M N;kernel_rfl
theorem Zn5 (e:List D) (es:LD):let A:=(0,oR false 4 35 (e::es));gC (ctr libT) 1 ZeX Zeh [] [dV 0] [] [A]=(Ow (Zc 4 (e::es)/\0+List.length (e::es)<=1073741824) (Rt (dV 1) [A,(1,oR true 4 35 (e::es))]):Tr):=by intro A;kernel_rfl
def cloT (row:LD):QT:=asmO (.vec 1) [(0,.arr false 4 35 row),(1,.arr true 4 35 row)]
theorem Zme (s:LU) (es row:LD):let A:=(0,oR false 4 35 row);let B:=dsT es 2 3 4;yldT Tryz.prog (ctr limP (cloT row)) 5 0 36 #[25] (SC.rngA sc89 0) (SC.rngB sc89 0) Z94 B 2000 { tm:=putP (List.zip [25] [dV 1]) (List.zip Z94 B),ob:=obYA s es row }=(Ow (CF 124 [dV 0] [A] fun r0 ob0=>r0=dV 1/\ob0=[A,(1,oR true 4 35 row)]) (Ow (Zc 4 [[dU (0:Int),dI (0:Int),dS [],dL [] []]]/\1<=1073741824) (Ow ((0:Int)<=(0:Int)/\(0:Int)<(↑(1:Nat):Int)) (Ow (0<1) (Rt (dB true) [(0,gL .ready none #[25] sc89 0 36 [24,23,1,2,4] [dF 149 [] [dP 2 0],dL es [],dL es [],dP 3 0,dP 4 0]),(1,oR false 4 35 row),(2,oC [dL es []]),(3,oC [dS s]),(4,oC [dV 5]),(5,oR false 4 35 [[dU (4:Int),dI (0:Int),dS s,dL row []]])])))):Tr):=by intro A B;kernel_rfl
theorem Zmd (s:LU) (es row out:LD):let A:=[[dU (0:Int),dI (0:Int),dS [],dL [] []]];let B:=(↑(List.length out):Int);let C:=(0,oR false 4 35 row);let E:=dsT es 2 3 4;yldT Tryz.prog (ctr limP (cloT row)) 6 0 36 #[25] (SC.rngA sc89 0) (SC.rngB sc89 0) Z94 E 2000 { tm:=putP (List.zip [25] [dV 1]) (List.zip Z94 E),ob:=obYB s es row out }=(Ow (CF 124 [dV 0] [C] fun r0 ob0=>r0=dV 1/\ob0=[C,(1,oR true 4 35 row)]) (Ow (Zc 4 A/\List.length out+1<=1073741824) (Ow ((0:Int)<=B/\B<(↑(List.length (out++A)):Int)) (Ow (Int.toNat B<List.length (out++A)) (Rt (dB true) [(0,gL .ready none #[25] sc89 0 36 [24,23,1,2,4] [dF 149 [] [dP 2 0],dL es [],dL es [],dP 3 0,dP 4 0]),(1,oR false 4 35 row),(2,oC [dL es []]),(3,oC [dS s]),(4,oC [dV 6]),(6,oR false 4 35 (List.set (out++A) (Int.toNat B) [dU (4:Int),dI (0:Int),dS s,dL row []]))])))):Tr):=by intro A B C E;kernel_rfl
theorem Zhd (out:LD):gH (ctr libT) 0 true rs89 (frg sc89 4) { tm:=[(4,dP 0 0)],ob:=[(0,oC [dV 1]),(1,oR false 4 35 out)] }=(Rt (D.own 4 35 out) []:Tr):=by kernel_rfl
end Go.Proofs.YtobgkdlghljdlaaGreatDoor
/- arith.functions: all rows of lists. -/
namespace Go.Proofs.YtobgkdlghljdlaaGreatDoor
open Go.Sx
theorem Z1t (l:List Tm):Zc 4 (Tm.cellsL l):=by
 rw[Zp]
 exact Z7R QC l
theorem Zd4 (row:List Tm) (hr:row≠[]) (hl:row.length<=1073741824):CF 124 [.vec 0] [(0,.arr false 4 35 (Tm.cellsL row))]
  fun r ob=>r= .vec 1/\ob=[(0,.arr false 4 35 (Tm.cellsL row)),(1,.arr true 4 35 (Tm.cellsL row))]:=by
 have ha:=Z1t row
 have hn:=Z1 row
 match row,hr with
 | x::r,_ =>
  simp only[Tm.cellsL] at ha hn ⊢
  refine CallL.tree Z4 Zl1 (Z3 Z2 Z0) (Zn5 x.cells (Tm.cellsL r)) ?_
  rw[Zh,Ze]
  exact⟨⟨ha,by omega⟩,rfl,rfl⟩
theorem ZdB (s:LU) (L:List (List Tm)) (row:List Tm) (hr:row≠[]) (hl:row.length<=1073741824):CallL Tryz.prog (.yld 0) [.vec 1] ((0,recT .ready none (dsT (Z8 L) 2 3 4))::obYA s (Z8 L) (Tm.cellsL row))
  fun r ob=>r= .bool true/\ob=(0,recT .ready none (dsT (Z8 L) 2 3 4))::[(1,.arr false 4 35 (Tm.cellsL row)),(2,.cells [.slice (Z8 L) []]),(3,.cells [.str s]),(4,.cells [.vec 5]),(5,.arr false 4 35 (Tm.cellsL (outF s row [])))]:=by
 refine CallL.yldT Z4 (Z3 Z0h (Z0K _ _)) rfl (Zme s (Z8 L) (Tm.cellsL row)) ?_
 simp only[SS]
 refine⟨Zd4 row hr hl,⟨by simp[Zc],by decide⟩,by decide,by decide, ?_⟩
 rfl
theorem Z63 {α:Type} (l:List α) (a b:α):(l++[a]).set l.length b=l++[b]:=by simp
theorem ZdA (s:LU) (L:List (List Tm)) (row acc:List Tm) (hr:row≠[]) (hl:row.length<=1073741824) (h:(outF s row acc).length<=1000):CallL Tryz.prog (.yld 0) [.vec 1] ((0,recT .ready none (dsT (Z8 L) 2 3 4))::obYB s (Z8 L) (Tm.cellsL row) (Tm.cellsL acc))
  fun r ob=>r= .bool true/\ob=(0,recT .ready none (dsT (Z8 L) 2 3 4))::[(1,.arr false 4 35 (Tm.cellsL row)),(2,.cells [.slice (Z8 L) []]),(3,.cells [.str s]),(4,.cells [.vec 6]),(6,.arr false 4 35 (Tm.cellsL (outF s row acc)))]:=by
 have h2:acc.length+1<=1000:=by simpa [outF] using h
 refine CallL.yldT Z4 (Z3 Z0h (Z0K _ _)) rfl (Zmd s (Z8 L) (Tm.cellsL row) (Tm.cellsL acc)) ?_
 simp only[SS,Z1,List.length_append,List.length_cons,List.length_nil]
 refine⟨Zd4 row hr hl,⟨by simp[Zc],by omega⟩,by omega,by omega, ?_⟩
 have e:(Tm.cellsL acc++[[dU 0,dI 0,dS [],dL [] []]]).set acc.length [dU 4,dI 0,dS s,dL (Tm.cellsL row) []]=Tm.cellsL (outF s row acc):=by
  rw[<- Z1 acc,Z63,outF,ZH]; rfl
 rw[e]
 rfl
def FilA (s:LU) (L:List (List Tm)) (k:Nat) (row:List Tm):Prop:=CallL Tryz.prog (.func (.func 150) [] [.ptr 0 0,.ptr 1 0,.ptr 2 0,.ptr 3 0]) [.int .i64 k] (obFA s (Z8 L) (Tm.cellsL row))
 fun r ob=>r= .bool true/\ob=obFN 8 s (Z8 L) (Tm.cellsL (Zb (outF s) (L.drop k) k (row,[])).1) (Tm.cellsL (Zb (outF s) (L.drop k) k (row,[])).2)
def FilB (s:LU) (L:List (List Tm)) (k:Nat) (row acc:List Tm):Prop:=CallL Tryz.prog (.func (.func 150) [] [.ptr 0 0,.ptr 1 0,.ptr 2 0,.ptr 3 0]) [.int .i64 k] (obFN 8 s (Z8 L) (Tm.cellsL row) (Tm.cellsL acc))
 fun r ob=>r= .bool true/\ob=obFN 9 s (Z8 L) (Tm.cellsL (Zb (outF s) (L.drop k) k (row,acc)).1) (Tm.cellsL (Zb (outF s) (L.drop k) k (row,acc)).2)
abbrev fldT (s:LU) (L:List (List Tm)) (k:Nat) (l:List Tm) (p:List Tm × List Tm):List Tm × List Tm:=l.foldl (fun p x=>Zb (outF s) (L.drop (k+1)) (k+1) (p.1.set k x,p.2)) p
theorem Zlp (s:LU) (L:List (List Tm)) (k:Nat) (hk:k<L.length) (hL:L.length<=1073741824) (l:List Tm) (hl:l.length<=1073741824)
  (HF: ∀ row acc,row.length=L.length->(Zb (outF s) (L.drop (k+1)) (k+1) (row,acc)).2.length<=1000->FilB s L (k+1) row acc): ∀ (m i:Nat) (row acc:List Tm),l.length-i=m->i<=l.length->row.length=L.length->(fldT s L k (l.drop i) (row,acc)).2.length<=1000 →
  At Tryz.prog 8 (cut Z1w 0) (hdF k l.length i (Tm.cellsL l) (obFN 8 s (Z8 L) (Tm.cellsL row) (Tm.cellsL acc))) (FinQ false 8 Z2A fun r ob=>r= .bool true/\ob=obFN 8 s (Z8 L) (Tm.cellsL (fldT s L k (l.drop i) (row,acc)).1) (Tm.cellsL (fldT s L k (l.drop i) (row,acc)).2)):=by
 intro m
 induction m with
 | zero =>
  intro i row acc hm hi hrow hz
  refine At.tree (Z3 Z2 (Zw _ _)) (Zav s (Z8 L) (Tm.cellsL row) (Tm.cellsL acc) (Tm.cellsL l) [] [] k l.length i 0 0 [] []) ?_
  have e:l.drop i=[]:=List.drop_eq_nil_of_le (by omega)
  rw[e]
  simp only[SS]
  exact⟨fun h=>by omega,fun _=>rfl⟩
 | succ m ih =>
  intro i row acc hm hi hrow hz
  have h1:i<l.length:=by omega
  have hx:=Zg h1
  rw[fldT,Za h1,List.foldl_cons] at hz
  simp only[fldT]
  rw[Za h1,List.foldl_cons]
  have hlen:(Zb (outF s) (L.drop (k+1)) (k+1) (row.set k l[i],acc)).1.length=L.length:=by rw[Qc]; simpa using hrow
  have hmono:=Qo (z:=List.length) (Z1H s) (L.drop (k+1)) k (l.drop (i+1)) (Zb (outF s) (L.drop (k+1)) (k+1) (row.set k l[i],acc))
  have hC:=HF (row.set k l[i]) acc (by simpa using hrow) (Nat.le_trans hmono hz)
  unfold FilB at hC
  have hI:=ih (i+1) (Zb (outF s) (L.drop (k+1)) (k+1) (row.set k l[i],acc)).1 (Zb (outF s) (L.drop (k+1)) (k+1) (row.set k l[i],acc)).2 (by omega) (by omega) hlen hz
  simp only[fldT] at hI
  generalize Zb (outF s) (L.drop (k+1)) (k+1) (row.set k l[i],acc)=p at hC hI ⊢
  generalize l[i]=x at hx hC
  obtain⟨kx,nx,sx,ax⟩:=x
  have hset:=Z0y row k kx nx sx ax
  refine At.tree (Z3 Z2 (Zw _ _)) (Zav s (Z8 L) (Tm.cellsL row) (Tm.cellsL acc) (Tm.cellsL l) (Tm.cellsL p.1) (Tm.cellsL p.2) k l.length i kx nx sx (Tm.cellsL ax)) ?_
  simp only[SS,Z1,hset]
  exact⟨fun _=>⟨⟨by omega,hx⟩,by omega,by omega,by omega,hC,by omega,hI⟩,fun h=>by omega⟩
theorem Zlo (s:LU) (L:List (List Tm)) (k:Nat) (hk:k<L.length) (hL:L.length<=1073741824) (l:List Tm) (hl:l.length<=1073741824)
  (HF: ∀ row acc,row.length=L.length->(Zb (outF s) (L.drop (k+1)) (k+1) (row,acc)).2.length<=1000->FilB s L (k+1) row acc): ∀ (m i:Nat) (row acc:List Tm),l.length-i=m->i<=l.length->row.length=L.length->(fldT s L k (l.drop i) (row,acc)).2.length<=1000 →
  At Tryz.prog 9 (cut Z1w 0) (hdF k l.length i (Tm.cellsL l) (obFN 9 s (Z8 L) (Tm.cellsL row) (Tm.cellsL acc))) (FinQ false 9 Z2A fun r ob=>r= .bool true/\ob=obFN 9 s (Z8 L) (Tm.cellsL (fldT s L k (l.drop i) (row,acc)).1) (Tm.cellsL (fldT s L k (l.drop i) (row,acc)).2)):=by
 intro m
 induction m with
 | zero =>
  intro i row acc hm hi hrow hz
  refine At.tree (Z3 Z2 (Zw _ _)) (Zau s (Z8 L) (Tm.cellsL row) (Tm.cellsL acc) (Tm.cellsL l) [] [] k l.length i 0 0 [] []) ?_
  have e:l.drop i=[]:=List.drop_eq_nil_of_le (by omega)
  rw[e]
  simp only[SS]
  exact⟨fun h=>by omega,fun _=>rfl⟩
 | succ m ih =>
  intro i row acc hm hi hrow hz
  have h1:i<l.length:=by omega
  have hx:=Zg h1
  rw[fldT,Za h1,List.foldl_cons] at hz
  simp only[fldT]
  rw[Za h1,List.foldl_cons]
  have hlen:(Zb (outF s) (L.drop (k+1)) (k+1) (row.set k l[i],acc)).1.length=L.length:=by rw[Qc]; simpa using hrow
  have hmono:=Qo (z:=List.length) (Z1H s) (L.drop (k+1)) k (l.drop (i+1)) (Zb (outF s) (L.drop (k+1)) (k+1) (row.set k l[i],acc))
  have hC:=HF (row.set k l[i]) acc (by simpa using hrow) (Nat.le_trans hmono hz)
  unfold FilB at hC
  have hI:=ih (i+1) (Zb (outF s) (L.drop (k+1)) (k+1) (row.set k l[i],acc)).1 (Zb (outF s) (L.drop (k+1)) (k+1) (row.set k l[i],acc)).2 (by omega) (by omega) hlen hz
  simp only[fldT] at hI
  generalize Zb (outF s) (L.drop (k+1)) (k+1) (row.set k l[i],acc)=p at hC hI ⊢
  generalize l[i]=x at hx hC
  obtain⟨kx,nx,sx,ax⟩:=x
  have hset:=Z0y row k kx nx sx ax
  refine At.tree (Z3 Z2 (Zw _ _)) (Zau s (Z8 L) (Tm.cellsL row) (Tm.cellsL acc) (Tm.cellsL l) (Tm.cellsL p.1) (Tm.cellsL p.2) k l.length i kx nx sx (Tm.cellsL ax)) ?_
  simp only[SS,Z1,hset]
  exact⟨fun _=>⟨⟨by omega,hx⟩,by omega,by omega,by omega,hC,by omega,hI⟩,fun h=>by omega⟩
theorem ZoC (s:LU) (L:List (List Tm)) (hL:L.length<=1073741824) (hl: ∀ l∈L,l≠[]/\l.length<=1073741824) (h0:L≠[]): ∀ (m k:Nat),L.length-k=m->k<=L.length->(∀ row:List Tm,row.length=L.length->(Zb (outF s) (L.drop k) k (row,[])).2.length<=1000->FilA s L k row) ∧
  (∀ row acc:List Tm,row.length=L.length->(Zb (outF s) (L.drop k) k (row,acc)).2.length<=1000->FilB s L k row acc):=by
 have hL0:0<L.length:=List.length_pos_iff.2 h0
 intro m
 induction m with
 | zero =>
  intro k hm hk
  have e:L.drop k=[]:=List.drop_eq_nil_of_le (by omega)
  have hrow0: ∀ row:List Tm,row.length=L.length->row≠[]:=fun row h e=>by rw[e] at h; simp at h; omega
  refine⟨fun row hrow hz=> ?_,fun row acc hrow hz=> ?_⟩
  ·unfold FilA
   rw[e] at hz ⊢
   simp only[Zb] at hz ⊢
   refine CallL.tree Z4 Z9h (Z3 Z2 (Zw _ _)) (Zdp s (Z8 L) (Tm.cellsL row) [] (Tm.cellsL row) (Tm.cellsL (outF s row [])) k) ?_
   simp only[SS,ZE]
   exact⟨fun _=>⟨ZdB s L row (hrow0 row hrow) (by omega),rfl⟩,fun h=>by omega⟩
  ·unfold FilB
   rw[e] at hz ⊢
   simp only[Zb] at hz ⊢
   refine CallL.tree Z4 Z9h (Z3 Z2 (Zw _ _)) (Zdo s (Z8 L) (Tm.cellsL row) (Tm.cellsL acc) [] (Tm.cellsL row) (Tm.cellsL (outF s row acc)) k) ?_
   simp only[SS,ZE]
   exact⟨fun _=>⟨ZdA s L row acc (hrow0 row hrow) (by omega) hz,rfl⟩,fun h=>by omega⟩
 | succ m ih =>
  intro k hm hk
  have h1:k<L.length:=by omega
  obtain⟨ihA,ihB⟩:=ih (k+1) (by omega) (by omega)
  obtain⟨hne,hlk⟩:=hl L[k] (List.getElem_mem h1)
  have hg:=Ql h1
  have hd:=Za h1
  generalize hlq:L[k]=l at hne hlk hg hd
  obtain⟨x,q,rfl⟩: ∃ x q,l=x::q:=by
   cases l with
   | nil=>exact absurd rfl hne
   | cons x q=>exact⟨x,q,rfl⟩
  have hql:q.length+1<=1073741824:=by simpa using hlk
  refine⟨fun row hrow hz=> ?_,fun row acc hrow hz=> ?_⟩
  ·rw[hd] at hz
   simp only[Zb,List.foldl_cons] at hz
   have hmono:=Qo (z:=List.length) (Z1H s) (L.drop (k+1)) k q (Zb (outF s) (L.drop (k+1)) (k+1) (row.set k x,[]))
   have hC:=ihA (row.set k x) (by simpa using hrow) (Nat.le_trans hmono hz)
   have hlen:(Zb (outF s) (L.drop (k+1)) (k+1) (row.set k x,[])).1.length=L.length:=by rw[Qc]; simpa using hrow
   have hI:=Zlp s L k h1 hL (x::q) hlk ihB _ 1 (Zb (outF s) (L.drop (k+1)) (k+1) (row.set k x,[])).1 (Zb (outF s) (L.drop (k+1)) (k+1) (row.set k x,[])).2 rfl (by simp) hlen hz
   unfold FilA at hC ⊢
   rw[hd]
   simp only[Zb,List.foldl_cons]
   simp only[fldT,List.drop_succ_cons,List.drop_zero] at hI
   generalize Zb (outF s) (L.drop (k+1)) (k+1) (row.set k x,[])=p at hC hI
   obtain⟨kx,nx,sx,ax⟩:=x
   have hset:=Z0y row k kx nx sx ax
   refine CallL.tree Z4 Z9h (Z3 Z2 (Zw _ _)) (Zdp s (Z8 L) (Tm.cellsL row) (Tm.cellsL (.mk kx nx sx ax::q)) [] [] k) ?_
   simp only[SS,ZE]
   refine⟨fun h=>by omega,fun _=>⟨⟨by omega,hg⟩, ?_⟩⟩
   refine At.tree (Z3 Z2 (Zw _ _)) (ZhK s (Z8 L) (Tm.cellsL row) (Tm.cellsL (.mk kx nx sx ax::q)) (Tm.cellsL p.1) (Tm.cellsL p.2) k (Tm.cellsL (.mk kx nx sx ax::q)).length 0 kx nx sx (Tm.cellsL ax)) ?_
   simp only[SS,Z1,List.length_cons,hset]
   refine⟨fun _=>⟨⟨by omega,rfl⟩,by omega,by omega,by omega,hC,by omega, ?_⟩,fun h=>by omega⟩
   rw[List.length_cons] at hI
   exact hI
  ·rw[hd] at hz
   simp only[Zb,List.foldl_cons] at hz
   have hmono:=Qo (z:=List.length) (Z1H s) (L.drop (k+1)) k q (Zb (outF s) (L.drop (k+1)) (k+1) (row.set k x,acc))
   have hC:=ihB (row.set k x) acc (by simpa using hrow) (Nat.le_trans hmono hz)
   have hlen:(Zb (outF s) (L.drop (k+1)) (k+1) (row.set k x,acc)).1.length=L.length:=by rw[Qc]; simpa using hrow
   have hI:=Zlo s L k h1 hL (x::q) hlk ihB _ 1 (Zb (outF s) (L.drop (k+1)) (k+1) (row.set k x,acc)).1 (Zb (outF s) (L.drop (k+1)) (k+1) (row.set k x,acc)).2 rfl (by simp) hlen hz
   unfold FilB at hC ⊢
   rw[hd]
   simp only[Zb,List.foldl_cons]
   simp only[fldT,List.drop_succ_cons,List.drop_zero] at hI
   generalize Zb (outF s) (L.drop (k+1)) (k+1) (row.set k x,acc)=p at hC hI
   obtain⟨kx,nx,sx,ax⟩:=x
   have hset:=Z0y row k kx nx sx ax
   refine CallL.tree Z4 Z9h (Z3 Z2 (Zw _ _)) (Zdo s (Z8 L) (Tm.cellsL row) (Tm.cellsL acc) (Tm.cellsL (.mk kx nx sx ax::q)) [] [] k) ?_
   simp only[SS,ZE]
   refine⟨fun h=>by omega,fun _=>⟨⟨by omega,hg⟩, ?_⟩⟩
   refine At.tree (Z3 Z2 (Zw _ _)) (ZhJ s (Z8 L) (Tm.cellsL row) (Tm.cellsL acc) (Tm.cellsL (.mk kx nx sx ax::q)) (Tm.cellsL p.1) (Tm.cellsL p.2) k (Tm.cellsL (.mk kx nx sx ax::q)).length 0 kx nx sx (Tm.cellsL ax)) ?_
   simp only[SS,Z1,List.length_cons,hset]
   refine⟨fun _=>⟨⟨by omega,rfl⟩,by omega,by omega,by omega,hC,by omega, ?_⟩,fun h=>by omega⟩
   rw[List.length_cons] at hI
   exact hI
end Go.Proofs.YtobgkdlghljdlaaGreatDoor
/- arith.set,run. -/
namespace Go.Proofs.YtobgkdlghljdlaaGreatDoor
open Go.Sx
theorem Ze0 {q res:List Int} (h:Z2r tab (go Tryz.prog tab 3000) (.func (.func 120) [] []) [.vec 0] [(0,.arr false 4 35 (numC q))]=some (.vec 0,[(0,.arr false 4 35 (numC res))])):SetC q res :=
 CallL.frz (Z6N Z4 Qe 3000 h)
theorem set0:SetC [] []:=Ze0 (by kernel_rfl)
end Go.Proofs.YtobgkdlghljdlaaGreatDoor
