/- Own work: a layer over the kit: plain data,a walk over it,its soundness. -/
import Derived.Test.YtobgkdlghljdlaaGreatDoorArOpB
import Derived.Test.YtobgkdlghljdlaaGreatDoorArA
import Derived.Test.YtobgkdlghljdlaaGreatDoorShelfN
import Derived.Test.YtobgkdlghljdlaaGreatDoorSx10
set_option linter.unusedSectionVars false
set_option linter.unusedVariables false
set_option linter.unusedSimpArgs false
set_option linter.deprecated false
set_option maxRecDepth 100000
/- arith.copied,expand,Eval: their trees. -/
namespace Go.Proofs.YtobgkdlghljdlaaGreatDoor
open Go.Sx
theorem Zhp (k n:Int) (s:LU) (a:LD):gP (ctr libT) rs49 sc49 [dA (tC k n s a)]=(Jm (cut sc49 0) { tm:=[(1,dP 0 0),(2,dP 1 0),(9,dL a []),(10,dI (↑(List.length a):Int)),(11,dI (0:Int))],ob:=[(0,oC [dU k,dI n,dS s,D.nils]),(1,oC [dU (0:Int),dI (0:Int),dS [],D.nils])] }:Tr):=by kernel_rfl
def ZnP (k n:Int) (s:LU) (a:LD) (m i:Int):St:=⟨[(1,.ptr 0 0),(2,.ptr 1 0),(9,.slice a []),(10,.int .i64 m),(11,.int .i64 i)],[(0,.cells [.int .u8 k,.int .i64 n,.str s,.nils]),(1,.cells [.int .u8 0,.int .i64 0,.str [],.nils])]⟩
def Zkz (k n:Int) (s:LU) (a row:LD) (m i:Int):St:=⟨[(1,.ptr 0 0),(2,.ptr 1 0),(9,.slice a []),(10,.int .i64 m),(11,.int .i64 i)],[(0,.cells [.int .u8 k,.int .i64 n,.str s,.vec 2]),(1,.cells [.int .u8 0,.int .i64 0,.str [],.nils]),(2,.arr true 4 35 row)]⟩
theorem Zah (k n:Int) (s:LU) (a:LD) (m:Int) (i:Nat) (kx nx:Int) (sx:LU) (ax:LD):let A:=tC kx nx sx ax;let B:=((↑i:Int)+(1:Int));let C:=cut sc49 0;gH (ctr (asmP (dA A)) Qg (eOne A)) 0 true rs49 C (ZnP k n s a m (↑i:Int))=(brT (decide ((↑i:Int)<m)) (Ow ((0:Int)<=(↑i:Int)/\a[Int.toNat (↑i:Int)]? = some A) (Ow (FK 49 [dA A] (dA A)) (Ow (Zc 4 [A]/\1<=1073741824) (I8 B (Jm C { tm:=[(1,dP 0 0),(2,dP 1 0),(9,dL a []),(10,dI m),(11,dI B)],ob:=[(0,oC [dU k,dI n,dS s,dV 2]),(1,oC [dU (0:Int),dI (0:Int),dS [],D.nils]),(2,oR true 4 35 [A])] }))))) (Rt (dA (tC k n s [])) []):Tr):=by intro A B C;kernel_rfl
theorem Zag (k n:Int) (s:LU) (a row:LD) (m:Int) (i:Nat) (kx nx:Int) (sx:LU) (ax:LD):let A:=tC kx nx sx ax;let B:=((↑i:Int)+(1:Int));let C:=cut sc49 0;gH (ctr (asmP (dA A)) Qg (eOne A)) 0 true rs49 C (Zkz k n s a row m (↑i:Int))=(brT (decide ((↑i:Int)<m)) (Ow ((0:Int)<=(↑i:Int)/\a[Int.toNat (↑i:Int)]? = some A) (Ow (FK 49 [dA A] (dA A)) (Ow (Zc 4 [A]/\List.length row+1<=1073741824) (I8 B (Jm C { tm:=[(1,dP 0 0),(2,dP 1 0),(9,dL a []),(10,dI m),(11,dI B)],ob:=[(0,oC [dU k,dI n,dS s,dV 2]),(1,oC [dU (0:Int),dI (0:Int),dS [],D.nils]),(2,oR true 4 35 (row++[A]))] }))))) (Rt (dA (tC k n s row)) []):Tr):=by intro A B C;kernel_rfl
def exD (b:Bool) (es:LD):D:=match b with
 | true=> .own 4 35 es
 | false=> .slice [] []
theorem Zhj (k n:Int) (s:LU):let A:=tC k n s [];gP (ctr (asmP (dA A))) rs48 sc48 [dA A]=(Ow (FK 49 [dA A] (dA A)) (Rt (D.own 4 35 [A]) []):Tr):=by intro A;kernel_rfl
theorem Zhi (k n:Int) (s:LU) (x:List D) (a:LD):gP (ctr libT) rs48 sc48 [dA (tC k n s (x::a))]=(Jm (cut sc48 0) { tm:=[(1,dP 0 0),(3,dV 1),(14,dL (x::a) []),(15,dI (↑(List.length (x::a)):Int)),(16,dI (0:Int))],ob:=[(0,oC [dU k,dI n,dS s,dL (x::a) []]),(1,oR true 1 22 [])] }:Tr):=by kernel_rfl
def hdEx (k n:Int) (s:LU) (a row:LD) (m i:Int):St:=⟨[(1,.ptr 0 0),(3,.vec 1),(14,.slice a []),(15,.int .i64 m),(16,.int .i64 i)],[(0,.cells [.int .u8 k,.int .i64 n,.str s,.slice a []]),(1,.arr true 1 22 row)]⟩
end Go.Proofs.YtobgkdlghljdlaaGreatDoor
/- arith.copied,functions,expand,Eval: proved. -/
namespace Go.Proofs.YtobgkdlghljdlaaGreatDoor
open Go.Sx
def CopP (x:Tm):Prop:=FK 49 [.agg x.cells] (.agg x.cells)
theorem ZlM (k n:Int) (s:LU) (l:List Tm) (hl:l.length<=1000) (H: ∀ x∈l,CopP x): ∀ (m i:Nat),l.length-i=m->i<=l.length →
  At Tryz.prog 0 (cut sc49 0) (Zkz k n s (Tm.cellsL l) (Tm.cellsL (l.take i)) l.length i) (FinQ true 0 rs49 fun r _=>r= .agg [.int .u8 k,.int .i64 n,.str s,.slice (Tm.cellsL l) []]):=by
 intro m
 induction m with
 | zero =>
  intro i hm hi
  refine At.tree (Z3 (Zl _) Z0) (Zag k n s (Tm.cellsL l) (Tm.cellsL (l.take i)) l.length i 0 0 [] []) ?_
  rw[List.take_of_length_le (show l.length<=i by omega)]
  simp only[SS]
  exact⟨fun h=>by omega,fun _=>trivial⟩
 | succ m ih =>
  intro i hm hi
  have h1:i<l.length:=by omega
  have hx:=Zg h1
  have hC:=H _ (List.getElem_mem h1)
  have hI:=ih (i+1) (by omega) (by omega)
  have ht:Tm.cellsL (l.take (i+1))=Tm.cellsL (l.take i)++[l[i].cells]:=by
   rw[List.take_add_one,List.getElem?_eq_getElem h1,ZH]; rfl
  rw[ht] at hI
  unfold CopP at hC
  generalize l[i]=x at hx hC hI
  obtain⟨kx,nx,sx,ax⟩:=x
  refine At.tree (Z3 (Zl _) Z0) (Zag k n s (Tm.cellsL l) (Tm.cellsL (l.take i)) l.length i kx nx sx (Tm.cellsL ax)) ?_
  simp only[SS,Z1,List.length_take]
  exact⟨fun _=>⟨⟨by omega,hx⟩,hC,⟨by simp[Zc],by omega⟩,by omega,hI⟩,fun h=>by omega⟩
theorem Z9G: ∀ x:Tm,x.few 1000->CopP x
 | .mk k n s l,hx=>by
  simp only[Tm.few] at hx
  obtain⟨hl,hw⟩:=hx
  have H: ∀ x∈l,CopP x:=fun x hx=>Z9G x (ZL.1 hw x hx)
  have hA:=ZlM k n s l hl H _ 1 rfl
  unfold CopP
  refine FnOK.tree Z4 fp49 (Z3 Z2 Z0) (Zhp k n s (Tm.cellsL l)) ?_
  rw[Z9,Z1]
  match l,hl,H,hA with
  | [],_,_,_ =>
   refine At.tree (Z3 (Zl _) Z0) (Zah k n s [] 0 0 0 0 [] []) ?_
   rw[Qt]
   refine⟨fun h=> ?_,fun _=>rfl⟩
   have:=of_decide_eq_true h; omega
  | .mk kx nx sx ax::r,hl,H,hA =>
   have hC:=H _ (List.mem_cons_self ..)
   have hI:=hA (by simp)
   unfold CopP at hC
   refine At.tree (Z3 (Zl _) Z0) (Zah k n s (Tm.cellsL (.mk kx nx sx ax::r)) (r.length+1:Nat) 0 kx nx sx (Tm.cellsL ax)) ?_
   simp only[SS]
   exact⟨fun _=>⟨⟨by omega,rfl⟩,hC,⟨by simp[Zc],by omega⟩,by omega,hI⟩,fun h=>by omega⟩
termination_by x=>SizeOf.sizeOf x
decreasing_by
 have:=List.sizeOf_lt_of_mem hx
 simp only[Tm.mk.sizeOf_spec]
 omega
def empI:List (List Tm)->Int->Int
 | [],_=> -1
 | a::r,i=>if a.isEmpty=true then i else empI r (i+1)
theorem Z9x: ∀ (l:List (List Tm)) (i:Int),0<=i->decide (0<=empI l i)=l.any List.isEmpty
 | [],i,_=>by simp[empI]
 | a::r,i,hi=>by
  have ih:=Z9x r (i+1) (by omega)
  by_cases hf:a.isEmpty=true
  ·simp[empI,hf,hi]
  ·rw[empI,if_neg hf,List.any_cons,ih,Bool.eq_false_iff.2 hf,Bool.false_or]
theorem Znl (es:LD):gC (ctr libT) 0 ZeZ Zej [] [dL es []] [] []=(Rt (dB (decide ((↑(List.length es):Int)=(0:Int)))) []:Tr):=by kernel_rfl
theorem ZoD (l:List Tm):CF 122 [.slice (Tm.cellsL l) []] [] fun r ob=>r= .bool l.isEmpty/\ob=[]:=by
 refine CallL.tree Z4 Zl3 (Z3 Z2 Z0) (Znl (Tm.cellsL l)) ?_
 have e:decide (((Tm.cellsL l).length:Int)=0)=l.isEmpty:=by
  rw[Z1,Bool.eq_iff_iff,decide_eq_true_eq,List.isEmpty_iff]
  rw[<- List.length_eq_zero_iff]; omega
 rw[Ze,e]
 exact⟨rfl,rfl⟩
theorem Zh9 (es ext:LD):gC (ctr libT) 0 Z8t Z7f [] [dL es ext,dF 122 [] []] [] []=(Jm (cut Z7f 0) { tm:=[(0,dL es ext),(1,dF 122 [] []),(7,dI (↑(List.length es):Int)),(8,dI (0:Int))],ob:=[] }:Tr):=by kernel_rfl
def Zkx (es ext:LD) (n i:Int):St:=⟨[(0,.slice es ext),(1,.func (.func 122) [] []),(7,.int .i64 n),(8,.int .i64 i)],[]⟩
theorem Z6X (es ext:LD) (m i:Int) (xs:LD) (b:Bool):let A:=[dL xs []];let B:=cut Z7f 0;let C:=(i+(1:Int));gH (ctr libT (asmQ (dB b)) (eOne A)) 0 false Z8t B (Zkx es ext m i)=(brT (decide (i<m)) (Ow ((0:Int)<=i/\es[Int.toNat i]? = some A) (Ow (CF 122 A [] fun r0 ob0=>r0=dB b/\ob0=[]) (brT b (Rt (dI i) []) (I8 C (Jm B { tm:=[(0,dL es ext),(1,dF 122 [] []),(7,dI m),(8,dI C)],ob:=[] }))))) (Rt (dI (-1:Int)) []):Tr):=by intro A B C;kernel_rfl
theorem Zhn (es ext:LD) (r:Int):let A:=[dL es ext,dF 122 [] []];gC (ctr libT (asmO (dI r) [])) 0 Zf0 Zek [] A [] []=(Ow (CF 148 A [] fun r0 ob0=>r0=dI r/\ob0=[]) (Rt (dB (decide ((0:Int)<=r))) []):Tr):=by intro A;kernel_rfl
theorem Zkn (ext:LD) (L:List (List Tm)) (hl:L.length<=1000): ∀ (m i:Nat),L.length-i=m->i<=L.length →
  At Tryz.prog 0 (cut Z7f 0) (Zkx (Z8 L) ext L.length i) (FinQ false 0 Z8t fun r ob=>r= .int .i64 (empI (L.drop i) i)/\ob=[]):=by
 intro m
 induction m with
 | zero =>
  intro i hm hi
  refine At.tree (Z3 Z2 (Z02 _)) (Z6X (Z8 L) ext L.length i [] true) ?_
  rw[List.drop_eq_nil_of_le (by omega)]
  simp only[SS]
  exact⟨fun h=>by omega,fun _=>rfl⟩
 | succ m ih =>
  intro i hm hi
  have h1:i<L.length:=by omega
  have hI:=ih (i+1) (by omega) (by omega)
  rw[Za h1]
  simp only[empI]
  refine At.tree (Z3 Z2 (Z02 _)) (Z6X (Z8 L) ext L.length i (Tm.cellsL L[i]) L[i].isEmpty) ?_
  simp only[SS]
  refine⟨fun _=>⟨⟨by omega,Ql h1⟩,ZoD _,fun h=>by rw[if_pos h],fun h=>⟨by omega, ?_⟩⟩,fun h=>by omega⟩
  rw[if_neg (by simp[h])]
  exact hI
theorem Z9E (ext:LD) (L:List (List Tm)) (hl:L.length<=1000):CF 121 [.slice (Z8 L) ext,.func (.func 122) [] []] [] fun r ob=>r= .bool (L.any List.isEmpty)/\ob=[]:=by
 have hI:CF 148 [.slice (Z8 L) ext,.func (.func 122) [] []] [] fun r ob=>r= .int .i64 (empI L 0)/\ob=[]:=by
  refine CallL.tree Z4 ZkP (Z3 Z2 Z0) (Zh9 (Z8 L) ext) ?_
  simp only[SS,ZE]
  exact Zkn ext L hl _ 0 rfl (Nat.zero_le _)
 refine CallL.tree Z4 Zl4 (Z3 Z2 (Z0K _ _)) (Zhn (Z8 L) ext (empI L 0)) ?_
 simp only[SS]
 exact⟨hI,Z9x L 0 (by decide)⟩
def prdL (L:List (List Tm)) (i:Nat):Nat:=((L.take i).map List.length).prod
theorem Z20 {L:List (List Tm)} {i:Nat} (h:i<L.length):prdL L (i+1)=prdL L i*L[i].length:=by
 unfold prdL
 rw[List.take_add_one,List.getElem?_eq_getElem h,Option.toList_some,List.map_append,List.prod_append]
 simp
theorem ZeD (s:LU) (L:List (List Tm)) (hL:L.length<=1000) (hl: ∀ l∈L,l≠[]/\l.length<=1000) (h0:L≠[]) (hz:(Zx L).length<=1000) :
  CallL Tryz.prog (.func (.func 149) [] [.ptr 0 0]) [.yld 1] (obTA s (Z8 L)) fun r ob=>r= .tuple []/\ob=obTB s (Z8 L) (Tm.cellsL ((Zx L).map (fun r=> .mk 4 0 s r))):=by
 have hf:=Z9g s L (List.replicate L.length (.mk 0 0 [] [])) (by simp)
 have hF:=(ZoC s L (by omega) (fun l hx=>⟨(hl l hx).1,by have:=(hl l hx).2; omega⟩) h0 _ 0 rfl (Nat.zero_le _)).1 (List.replicate L.length (.mk 0 0 [] [])) (by simp) (by rw[List.drop_zero,hf]; simpa using hz)
 unfold FilA at hF
 rw[List.drop_zero,hf] at hF
 have e:Tm.cellsL (List.replicate L.length (.mk 0 0 [] []))=List.replicate L.length [.int .u8 0,.int .i64 0,.str [],.slice [] []]:=by
  rw[Zp,List.map_replicate]; rfl
 rw[e] at hF
 refine CallL.tree Z4 ZkO (Z3 Z2 (Zw _ _)) (Zn4 s (Z8 L) (Tm.cellsL (Zb (outF s) L 0 (List.replicate L.length (.mk 0 0 [] []),[])).1) (Tm.cellsL ((Zx L).map (fun r=> .mk 4 0 s r)))) ?_
 simp only[SS,ZE]
 exact⟨⟨by omega,by omega,by omega⟩,hF,rfl⟩
theorem Zlm (s:LU) (L:List (List Tm)) (hL:L.length<=1000) (hl: ∀ l∈L,l≠[]/\l.length<=1000) (h0:L≠[]) (hz:(Zx L).length<=1000) :
  At Tryz.prog 0 (frg sc89 3) ⟨[(1,.slice (Z8 L) []),(2,.ptr 0 0),(4,.ptr 1 0)],[(0,.cells [.str s]),(1,.cells [.nils])]⟩ (FinQ true 0 rs89 fun r _=>r= .own 4 35 (Tm.cellsL ((Zx L).map (fun r=> .mk 4 0 s r)))):=by
 refine At.tree (Z3 Z2 (QT.or_ok Zbb (Zw _ _))) (Zhe s (Z8 L) [] (Tm.cellsL ((Zx L).map (fun r=> .mk 4 0 s r)))) ?_
 rw[Zh,Zh,Z9]
 refine⟨trivial,ZeD s L hL hl h0 hz, ?_⟩
 refine At.tree (Z3 Z2 Z0) (Zhd (Tm.cellsL ((Zx L).map (fun r=> .mk 4 0 s r)))) ?_
 exact rfl
theorem Zlh (s:LU) (L:List (List Tm)) (hL:L.length<=1000) (hl: ∀ l∈L,l≠[]/\l.length<=1000) (h0:L≠[]) (hz:(Zx L).length<=1000) (hp: ∀ i,i<=L.length->prdL L i<=1000): ∀ (m i:Nat),L.length-i=m->i<=L.length →
  At Tryz.prog 0 (cut sc89 0) (hdFn s (Z8 L) [] (prdL L i) L.length i) (FinQ true 0 rs89 fun r _=>r= .own 4 35 (Tm.cellsL ((Zx L).map (fun r=> .mk 4 0 s r)))):=by
 intro m
 induction m with
 | zero =>
  intro i hm hi
  refine At.tree (Z3 Z0h Z0) (Zad s (Z8 L) [] (prdL L i) L.length i []) ?_
  simp only[SS]
  exact⟨fun h=>by omega,fun _=>Zlm s L hL hl h0 hz⟩
 | succ m ih =>
  intro i hm hi
  have h1:i<L.length:=by omega
  have hI:=ih (i+1) (by omega) (by omega)
  have h2:=hp (i+1) (by omega)
  have e:((prdL L (i+1):Nat):Int)=(prdL L i:Int)*(L[i].length:Int):=by rw[Z20 h1]; exact Int.natCast_mul _ _
  refine At.tree (Z3 Z0h Z0) (Zad s (Z8 L) [] (prdL L i) L.length i (Tm.cellsL L[i])) ?_
  rw[Z1,<- e]
  simp only[SS]
  exact⟨fun _=>⟨⟨by omega,Ql h1⟩,by omega,by omega,by omega,hI⟩,fun h=>by omega⟩
theorem ZkF (s:LU) (L:List (List Tm)) (hL:L.length<=1000) (hl: ∀ l∈L,l.length<=1000) (h0:L≠[]) (hz:(Zx L).length<=1000) (hp: ∀ i,i<=L.length->prdL L i<=1000) :
  FK 89 [.str s,.slice (Z8 L) []] (exD (!(L.any List.isEmpty)) (Tm.cellsL ((Zx L).map (fun r=> .mk 4 0 s r)))):=by
 refine FnOK.tree Z4 fp89 (Z3 Z2 Z0) (Zdc s (Z8 L) []) ?_
 rw[Z9]
 refine At.tree (Z3 Z2 (Zw _ _)) (Zae s (Z8 L) [] (L.any List.isEmpty)) ?_
 rw[Zh,Qt,Ze,Z9]
 refine⟨Z9E [] L hL,fun h=>by rw[h]; rfl,fun h=> ?_⟩
 rw[h]
 have hne: ∀ l∈L,l≠[]/\l.length<=1000:=fun l hx=>⟨fun e=>by
  have:=List.any_eq_false.1 h l hx
  rw[e] at this
  exact this rfl,hl l hx⟩
 refine At.tree (Z3 Z2 Z0) (Zhg s (Z8 L) []) ?_
 rw[Z9]
 refine At.tree (Z3 Z2 Z0) (Zhf s (Z8 L) []) ?_
 rw[Z9,ZE]
 exact Zlh s L hL hne h0 hz hp _ 0 rfl (Nat.zero_le _)
end Go.Proofs.YtobgkdlghljdlaaGreatDoor
/- slices.SortFunc,slices.CompactFunc,arith.set,at numbers. -/
namespace Go.Proofs.YtobgkdlghljdlaaGreatDoor
open Go.Sx Go.RowKit
theorem ZlN (x y:Int):CF 58 [.agg [.int .u8 1,.int .i64 x,.str [],.slice [] []],.agg [.int .u8 1,.int .i64 y,.str [],.slice [] []]] [] fun r ob=>r= .int .i64 (ncmp x y)/\ob=[]:=by
 have hC:=ZlT [] [] [] [] (by simp) (by simp) (fun x hx=>by cases hx)
 refine CallL.tree Z4 fp58 (Z3 Z6M (Z02 (.int .i64 0))) (Zdd 1 x [] [] 1 y [] [] 0 [] []) ?_
 simp only[SS,fst0]
 have h1:Lib.compareBytes [] []=0:=by simp[Lib.compareBytes]
 have h2:ncmp 0 0=0:=rfl
 have hC':CF 97 [.slice [] [],.slice [] [],.func (.func 58) [] []] [] fun r ob=>r= .int .i64 0/\ob=[]:=by simpa [Tm.cmpL,Tm.cellsL] using hC
 refine⟨by omega,by omega,fun h=>absurd rfl h,fun _=>⟨fun _ h=>absurd trivial h,fun h=>⟨hC', ?_⟩⟩⟩
 simp[h1,h2,h]
theorem ZdY (q:List Int) (hnd:q.Nodup) (hne:q≠[]) (hlt:q.length<4611686018427387904):CF 146 [.vec 0,.func (.func 58) [] []] [(0,.arr false 4 35 (numC q))]
  fun r ob=>r= .tuple []/\ob=[(0,.arr false 4 35 (numC (Z0P q)))] :=
 CallL.sortK (by kernel_rfl) (by kernel_rfl) (fun blk cap d w hc hH hb hs=>Go.Proofs.AnyQ.slices_SortFunc Tryz.sortL 4 Tryz.isAgg35 Tryz.sizeOf35 encN ZbL ZbK cfN swoN 58 #[] blk 0 cap d w (enters_of Tryz.func58 (by kernel_rfl) rfl) hc hH hb hs) ZlN _ q hnd hne hlt
theorem Zhk (k n:Int) (s:LU) (a:LD) (k' n':Int) (s':LU) (a':LD) (c:Int):let A:=[dA [dU k,dI n,dS s,dL a []],dA [dU k',dI n',dS s',dL a' []]];gC (ctr (asmP (dI c))) 0 rs27 sc27 [] A [] []=(Ow (FK 58 A (dI c)) (Rt (dB (decide (c=(0:Int)))) []):Tr):=by intro A;kernel_rfl
theorem Zho (es:LD):let A:=[(0,oR false 4 35 es)];gC (ctr libT) 1 Z8u Z7g [] [dV 0,dF 27 [] []] [] A=(brT (decide ((↑(List.length es):Int)<(2:Int))) (Rt (dV 0) A) (Jm (cut Z7g 0) { tm:=[(0,dV 0),(1,dF 27 [] []),(5,dI (1:Int))],ob:=A }):Tr):=by intro A;kernel_rfl
def hdCp (es:LD) (i:Int):St:=⟨[(0,.vec 0),(1,.func (.func 27) [] []),(5,.int .i64 i)],[(0,.arr false 4 35 es)]⟩
theorem Zaf (es:LD) (i:Nat) (a b:Int):let A:=[dU (1:Int),dI a,dS [],dL [] []];let B:=[dU (1:Int),dI b,dS [],dL [] []];let C:=(↑(List.length es):Int);let E:=[(0,oR false 4 35 es)];let F:=((↑i:Int)-(1:Int));let G:=((↑i:Int)+(1:Int));let H:=cut Z7g 0;gH (ctr libT (asmQ (dB false)) (eTwo 22 A B)) 1 false Z8u H (hdCp es (↑i:Int))=(brT (decide ((↑i:Int)<C)) (Ow ((0:Int)<=(↑i:Int)/\(↑i:Int)<C) (Ow (es[Int.toNat (↑i:Int)]? = some A) (I8 F (Ow ((0:Int)<=(↑i:Int)-(1:Int)/\(↑i:Int)-(1:Int)<C) (Ow (es[Int.toNat F]? = some B) (Ow (CF 27 [dA A,dA B] [] fun r0 ob0=>r0=dB false/\ob0=[]) (I8 G (Jm H { tm:=[(0,dV 0),(1,dF 27 [] []),(5,dI G)],ob:=E })))))))) (Rt (dV 0) E):Tr):=by intro A B C E F G H;kernel_rfl
theorem ZgS (es es':LD):let A:=[(0,oR false 4 35 es')];let B:=[(0,oR false 4 35 es)];goT Tryz.prog { F:=fun x=>limP,C:=fun t=>asmO (if t=6 then dV 0 else D.tuple []) A,E:=noE } 1 (finF false 1 Zf1) 2000 [Fr.sc Zel] { tm:=Q0 0 ([]++[dV 0]++[]),ob:=B }=(Ow (CF 146 [dV 0,dF 58 [] []] B fun r0 ob0=>r0=D.tuple []/\ob0=A) (Ow (CF 147 [dV 0,dF 27 [] []] A fun r0 ob0=>r0=dV 0/\ob0=A) (Ow ((↑(List.length es'):Int)<=(1000:Int)) (Rt (dV 0) A))):Tr):=by intro A B;kernel_rfl
theorem eqN (x y:Int) (h:x≠y):CF 27 [.agg [.int .u8 1,.int .i64 x,.str [],.slice [] []],.agg [.int .u8 1,.int .i64 y,.str [],.slice [] []]] [] fun r ob=>r= .bool false/\ob=[]:=by
 have hC:FK 58 [.agg [.int .u8 1,.int .i64 x,.str [],.slice [] []],.agg [.int .u8 1,.int .i64 y,.str [],.slice [] []]] (.int .i64 (ncmp x y)) :=
  FnOK.of_call ZjT ((ZlN x y).mono fun r ob ⟨h1,h2⟩=>by subst h1; subst h2; exact .inr ⟨rfl,rfl⟩)
 refine CallL.tree Z4 fp27 (Z3 (Zl (.int .i64 (ncmp x y))) Z0) (Zhk 1 x [] [] 1 y [] [] (ncmp x y)) ?_
 simp only[SS]
 refine⟨hC, ?_⟩
 have:ncmp x y≠0:=by unfold ncmp; split <;> (try split) <;> omega
 simp[this]
theorem Z6i {l:List Int} {i:Nat} (h:i<l.length):(numC l)[i]? = some [.int .u8 1,.int .i64 l[i],.str [],.slice [] []]:=by simp[numC,h]
theorem ZoG (l:List Int) (hl:l.length<=1000) (hs:l.Pairwise (· < ·)): ∀ (m i:Nat),l.length-i=m->i<=l.length->1<=i →
  At Tryz.prog 1 (cut Z7g 0) (hdCp (numC l) i) (FinQ false 1 Z8u fun r ob=>r= .vec 0/\ob=[(0,.arr false 4 35 (numC l))]):=by
 intro m
 induction m with
 | zero =>
  intro i hm hi h1
  refine At.tree (Z3 Z2 (Z02 (.bool false))) (Zaf (numC l) i 0 0) ?_
  simp only[SS,Z0u]
  exact⟨fun h=>by omega,fun _=>trivial⟩
 | succ m ih =>
  intro i hm hi h1
  have h2:i<l.length:=by omega
  have hI:=ih (i+1) (by omega) (by omega) (by omega)
  have hE:=eqN l[i] l[i-1] (by
   have:=List.pairwise_iff_getElem.1 hs (i-1) i (by omega) h2 (by omega)
   omega)
  have hg:(numC l)[((i:Int)-1).toNat]? = some [.int .u8 1,.int .i64 l[i-1],.str [],.slice [] []]:=by
   rw[show ((i:Int)-1).toNat=i-1 by omega]; exact Z6i (by omega)
  refine At.tree (Z3 Z2 (Z02 (.bool false))) (Zaf (numC l) i l[i] l[i-1]) ?_
  simp only[SS,Z0u]
  exact⟨fun _=>⟨by omega,Z6i h2,by omega,by omega,hg,hE,by omega,hI⟩,fun h=>by omega⟩
theorem ZlL (l:List Int) (hl:l.length<=1000) (hs:l.Pairwise (· < ·)):CF 147 [.vec 0,.func (.func 27) [] []] [(0,.arr false 4 35 (numC l))]
  fun r ob=>r= .vec 0/\ob=[(0,.arr false 4 35 (numC l))]:=by
 refine CallL.tree Z4 ZkQ (Z3 Z2 Z0) (Zho (numC l)) ?_
 simp only[SS,Z0u]
 exact⟨fun _=>trivial,fun h=>ZoG l hl hs _ 1 rfl (by omega) (Nat.le_refl _)⟩
theorem Ze1 (es:Nat->D) (ob':Obs):(⟨fun _=>limP,fun t=>asmO (es t) ob',noE⟩:Ctr).OK Tryz.prog:=⟨fun _=>Z0h,fun t=>Z0K (es t) ob'⟩
theorem Z7t {q l:List Int} (h:q.Perm l) (hn:l.Nodup):q.Nodup:=h.nodup_iff.2 hn
theorem Zik (q:List Int) (hnd:q.Nodup) (hl:q.length<=1000):SetC q (Z0P q):=by
 by_cases hne:q=[]
 ·subst hne; exact set0
 ·refine CallL.frz ?_
  refine CallL.tree Z4 Zl5 (Ze1 _ _) (ZgS (numC q) (numC (Z0P q))) ?_
  have hlen:=Z1V hnd
  simp only[SS,Z0u,hlen]
  exact⟨ZdY q hnd hne (by omega),ZlL _ (by omega) (Z0O q),by omega⟩
end Go.Proofs.YtobgkdlghljdlaaGreatDoor
/- slices.Min,slices.Max,arith.interval. -/
namespace Go.Proofs.YtobgkdlghljdlaaGreatDoor
open Go.Sx
theorem Zh6 (es:LD) (x:Int):let A:=(115:UInt8);let B:=(105:UInt8);let C:=(108:UInt8);let E:=(101:UInt8);let F:=(116:UInt8);gP (ctr libT Qg (eOne [dI x])) Z8z Z7k [dL es []]=(brT (decide ((↑(List.length es):Int)<(1:Int))) (Ow (some (D.raw (Value.iface 9 (valV (dS [A,C,B,(99:UInt8),E,A,(46:UInt8),(77:UInt8),B,(110:UInt8),(58:UInt8),(32:UInt8),E,(109:UInt8),(112:UInt8),F,(121:UInt8),(32:UInt8),C,B,A,F]))))=some (dI x)) Tr.bad) (Ow ((0:Int)<=(0:Int)/\es[0]? = some [dI x]) (Jm (cut Z7k 0) { tm:=[(0,dL es []),(3,dI x),(4,dI (1:Int))],ob:=[] })):Tr):=by intro A B C E F;kernel_rfl
theorem Zh7 (es:LD) (x:Int):let A:=(115:UInt8);let B:=(108:UInt8);let C:=(105:UInt8);let E:=(101:UInt8);let F:=(116:UInt8);gP (ctr libT Qg (eOne [dI x])) Z8y Z7j [dL es []]=(brT (decide ((↑(List.length es):Int)<(1:Int))) (Ow (some (D.raw (Value.iface 9 (valV (dS [A,B,C,(99:UInt8),E,A,(46:UInt8),(77:UInt8),(97:UInt8),(120:UInt8),(58:UInt8),(32:UInt8),E,(109:UInt8),(112:UInt8),F,(121:UInt8),(32:UInt8),B,C,A,F]))))=some (dI x)) Tr.bad) (Ow ((0:Int)<=(0:Int)/\es[0]? = some [dI x]) (Jm (cut Z7j 0) { tm:=[(0,dL es []),(3,dI x),(4,dI (1:Int))],ob:=[] })):Tr):=by intro A B C E F;kernel_rfl
def hdMm (es:LD) (m i:Int):St:=⟨[(0,.slice es []),(3,.int .i64 m),(4,.int .i64 i)],[]⟩
theorem Z6U (es:LD) (m:Int) (i:Nat) (x r:Int):let A:=((↑i:Int)+(1:Int));let B:=cut Z7k 0;gH (ctr libT Qg (eTwo 23 [dI r] [dI x])) 0 true Z8z B (hdMm es m (↑i:Int))=(brT (decide ((↑i:Int)<(↑(List.length es):Int))) (Ow ((0:Int)<=(↑i:Int)/\es[Int.toNat (↑i:Int)]? = some [dI x]) (Ow (IntKind.i64=IntKind.i64/\(if false=true then if x > m then x else m else if x<m then x else m)=r) (I8 A (Jm B { tm:=[(0,dL es []),(3,dI r),(4,dI A)],ob:=[] })))) (Rt (dI m) []):Tr):=by intro A B;kernel_rfl
theorem Z6V (es:LD) (m:Int) (i:Nat) (x r:Int):let A:=((↑i:Int)+(1:Int));let B:=cut Z7j 0;gH (ctr libT Qg (eTwo 23 [dI r] [dI x])) 0 true Z8y B (hdMm es m (↑i:Int))=(brT (decide ((↑i:Int)<(↑(List.length es):Int))) (Ow ((0:Int)<=(↑i:Int)/\es[Int.toNat (↑i:Int)]? = some [dI x]) (Ow (IntKind.i64=IntKind.i64/\(if true=true then if x > m then x else m else if x<m then x else m)=r) (I8 A (Jm B { tm:=[(0,dL es []),(3,dI r),(4,dI A)],ob:=[] })))) (Rt (dI m) []):Tr):=by intro A B;kernel_rfl
theorem Zml (es fs:LD) (a b:Int):let A:=Rt (D.own 4 35 []) [];goT Tryz.prog { F:=fun t=>if t=17 then asmP (dI a) else if t=19 then asmP (dI b) else limP,C:=fun x=>Qg,E:=noE } 0 (finF true 0 rs86) 2000 [Fr.sc sc86] { tm:=Q0 0 [dL es [],dL fs []],ob:=[] }=(brT (decide ((↑(List.length es):Int)=(0:Int))) A (brT (decide ((↑(List.length fs):Int)=(0:Int))) A (Ow (FK 114 [dL es []] (dI a)) (Ow (FK 115 [dL fs []] (dI b)) (I8 (b-a) (I8 (b-a+(1:Int)) (Ow (b-a+(1:Int)<=(1000:Int)) (Jm (cut sc86 0) { tm:=[(4,dV 0),(6,dI b),(7,dI a)],ob:=[(0,oR true 4 35 [])] }))))))):Tr):=by intro A;kernel_rfl
def hdIv (row:LD) (b n:Int):St:=⟨[(4,.vec 0),(6,.int .i64 b),(7,.int .i64 n)],[(0,.arr true 4 35 row)]⟩
theorem Zac (row:LD) (b n:Int):let A:=[dU (1:Int),dI n,dS [],dL [] []];let B:=cut sc86 0;let C:=(n+(1:Int));gH (ctr (asmP (dA A))) 0 true rs86 B (hdIv row b n)=(brT (decide (n<=b)) (Ow (FK 117 [dI n] (dA A)) (Ow (Zc 4 [A]/\List.length row+1<=1073741824) (I8 C (Jm B { tm:=[(4,dV 0),(6,dI b),(7,dI C)],ob:=[(0,oR true 4 35 (row++[A]))] })))) (Rt (D.own 4 35 row) []):Tr):=by intro A B C;kernel_rfl
theorem Zka (l:List Int) (hl:l.length<=4611686018427387904): ∀ (m i:Nat) (a:Int),l.length-i=m->i<=l.length →
  At Tryz.prog 0 (cut Z7k 0) (hdMm (intC .i64 l) a i) (FinQ true 0 Z8z fun r _=>r= .int .i64 ((l.drop i).foldl min a)):=by
 intro m
 induction m with
 | zero =>
  intro i a hm hi
  refine At.tree (Z3 Z2 Z0) (Z6U (intC .i64 l) a i 0 0) ?_
  rw[List.drop_eq_nil_of_le (by omega)]
  simp only[SS,Zy]
  exact⟨fun h=>by omega,fun _=>rfl⟩
 | succ m ih =>
  intro i a hm hi
  have h1:i<l.length:=by omega
  have hI:=ih (i+1) (min a l[i]) (by omega) (by omega)
  rw[Za h1,List.foldl_cons]
  refine At.tree (Z3 Z2 Z0) (Z6U (intC .i64 l) a i l[i] (min a l[i])) ?_
  simp only[SS,Zy]
  refine⟨fun _=>⟨⟨by omega,QV h1⟩, ?_,by omega,hI⟩,fun h=>by omega⟩
  first
   | (refine⟨trivial, ?_⟩; simp only[Bool.false_eq_true,if_false]; split <;> omega)
   | (simp only[Bool.false_eq_true,if_false]; split <;> omega)
   | (split <;> omega)
theorem Zkb (l:List Int) (hl:l.length<=4611686018427387904): ∀ (m i:Nat) (a:Int),l.length-i=m->i<=l.length →
  At Tryz.prog 0 (cut Z7j 0) (hdMm (intC .i64 l) a i) (FinQ true 0 Z8y fun r _=>r= .int .i64 ((l.drop i).foldl max a)):=by
 intro m
 induction m with
 | zero =>
  intro i a hm hi
  refine At.tree (Z3 Z2 Z0) (Z6V (intC .i64 l) a i 0 0) ?_
  rw[List.drop_eq_nil_of_le (by omega)]
  simp only[SS,Zy]
  exact⟨fun h=>by omega,fun _=>rfl⟩
 | succ m ih =>
  intro i a hm hi
  have h1:i<l.length:=by omega
  have hI:=ih (i+1) (max a l[i]) (by omega) (by omega)
  rw[Za h1,List.foldl_cons]
  refine At.tree (Z3 Z2 Z0) (Z6V (intC .i64 l) a i l[i] (max a l[i])) ?_
  simp only[SS,Zy]
  refine⟨fun _=>⟨⟨by omega,QV h1⟩, ?_,by omega,hI⟩,fun h=>by omega⟩
  first
   | (refine⟨trivial, ?_⟩; simp only[if_true]; split <;> omega)
   | (simp only[if_true]; split <;> omega)
   | (split <;> omega)
theorem ZcR (l:List Int) (hne:l≠[]) (hl:l.length<=4611686018427387904):FK 114 [.slice (intC .i64 l) []] (.int .i64 (minI l)):=by
 match l,hne with
 | a::r,_ =>
  have hA:=Zka (a::r) hl _ 1 a rfl (by simp)
  refine FnOK.tree Z4 Zlb (Z3 Z2 Z0) (Zh6 (intC .i64 (a::r)) a) ?_
  simp only[SS,Zy,List.length_cons]
  refine⟨fun h=>by omega,fun _=>⟨rfl,hA⟩⟩
theorem ZcT (l:List Int) (hne:l≠[]) (hl:l.length<=4611686018427387904):FK 115 [.slice (intC .i64 l) []] (.int .i64 (maxI l)):=by
 match l,hne with
 | a::r,_ =>
  have hA:=Zkb (a::r) hl _ 1 a rfl (by simp)
  refine FnOK.tree Z4 Zla (Z3 Z2 Z0) (Zh7 (intC .i64 (a::r)) a) ?_
  simp only[SS,Zy,List.length_cons]
  refine⟨fun h=>by omega,fun _=>⟨rfl,hA⟩⟩
theorem ZnO (b:Int) (hb:b<9223372036854775807): ∀ (m:Nat) (a:Int) (row:List Int),(b-a+1).toNat=m->row.length+m<=1073741823-> -9223372036854775808<=a →
  At Tryz.prog 0 (cut sc86 0) (hdIv (numC row) b a) (FinQ true 0 rs86 fun r _=>r= .own 4 35 (numC (row++upto a m))):=by
 intro m
 induction m with
 | zero =>
  intro a row hm hr ha
  refine At.tree (Z3 (Zl _) Z0) (Zac (numC row) b a) ?_
  simp only[SS,upto,List.append_nil]
  exact⟨fun h=>by omega,fun _=>trivial⟩
 | succ m ih =>
  intro a row hm hr ha
  have hI:=ih (a+1) (row++[a]) (by omega) (by simp; omega) (by omega)
  have e:numC (row++[a])=numC row++[[.int .u8 1,.int .i64 a,.str [],.slice [] []]]:=by simp[numC]
  rw[e,List.append_assoc] at hI
  refine At.tree (Z3 (Zl _) Z0) (Zac (numC row) b a) ?_
  simp only[SS,upto,Z0u]
  exact⟨fun _=>⟨ZcN a,⟨by simp[Zc],by omega⟩,by omega,hI⟩,fun h=>by omega⟩
theorem Zkq (a b:Int):(⟨fun t=>if t=17 then asmP (.int .i64 a) else if t=19 then asmP (.int .i64 b) else limP,fun _=>Qg,noE⟩:Ctr).OK Tryz.prog:=by
 refine⟨fun t=> ?_,fun _=>Z0⟩
 show PT.OK (if t=17 then asmP (.int .i64 a) else if t=19 then asmP (.int .i64 b) else limP)
 split
 ·exact Zl _
 ·split
  ·exact Zl _
  ·exact Z0h
theorem ZnN (lo hi L:List Int) (h1:lo.length<=1000) (h2:hi.length<=1000) (hlo: ∀ x∈lo,Zj x=true) (hhi: ∀ x∈hi,Zj x=true) (h:ivl lo hi=some L) :
  FK 86 [.slice (intC .i64 lo) [],.slice (intC .i64 hi) []] (.own 4 35 (numC L)):=by
 refine FnOK.tree Z4 fp86 (Zkq (minI lo) (maxI hi)) (Zml (intC .i64 lo) (intC .i64 hi) (minI lo) (maxI hi)) ?_
 simp only[SS,Zy]
 unfold ivl at h
 split at h
 ·rename_i he
  cases h
  refine⟨fun _=>rfl,fun h3=>⟨fun _=>rfl,fun h4=> ?_⟩⟩
  rcases he with he | he
  ·rw[List.isEmpty_iff] at he; subst he; exact absurd rfl h3
  ·rw[List.isEmpty_iff] at he; subst he; exact absurd rfl h4
 ·rename_i he
  split at h
  ·rename_i h5
   cases h
   have n1:lo≠[]:=fun e=>he (.inl (by rw[e]; rfl))
   have n2:hi≠[]:=fun e=>he (.inr (by rw[e]; rfl))
   have f1:=Zo.1 (hlo _ (Z3y n1))
   have f2:=Zo.1 (hhi _ (Z3A n2))
   have l1:=List.length_pos_iff.2 n1
   have l2:=List.length_pos_iff.2 n2
   have hA:=ZnO (maxI hi) (by omega) _ (minI lo) [] rfl (by simp; omega) (by omega)
   refine⟨fun h=>by omega,fun _=>⟨fun h=>by omega,fun _=>⟨ZcR lo n1 (by omega),ZcT hi n2 (by omega),by omega,by omega,by omega,hA⟩⟩⟩
  ·cases h
end Go.Proofs.YtobgkdlghljdlaaGreatDoor
