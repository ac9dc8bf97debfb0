/- Own work: a layer over the kit: plain data,a walk over it,its soundness. -/
import Derived.Lib.IndexMore
import Derived.Test.YtecgehidegnmnaaGreatDoorPrB
import Derived.Test.YtecgehidegnmnaaGreatDoorPrA
set_option linter.unusedSectionVars false
set_option linter.unusedVariables false
set_option linter.unusedSimpArgs false
set_option linter.deprecated false
set_option maxRecDepth 100000
/- Depth,shape. -/
namespace Go.Proofs.YtecgehidegnmnaaGreatDoor
open Go.Sx
def dCtr (l:List (Nat × D)) (e:List (Nat × List D):=[]) (q:QT:=Z1j):Ctr:=⟨fun t f az=>match lk l t with | some r=>some (.ok (FK f az r) r []) | none=>none,fun _=>q,fun t _=>(lk e t).getD []⟩
theorem Z6h {l:List (Nat × D)} {e:List (Nat × List D)} {q:QT} (hq:q.OK):(dCtr l e q).OK Tryz.prog:=by
 refine⟨fun t f az rt h=> ?_,fun _=>hq⟩
 simp only[dCtr] at h
 split at h
 ·cases h; exact fun hp=>hp
 ·cases h
theorem Zhq (k n:Int) (s:LU) (a:LD):gP (dCtr []) rs43 sc43 [dA (tC k n s a)]=(Jm (cut sc43 0) { tm:=[(3,dI 0),(7,dL a []),(8,dI (↑(List.length a):Int)),(9,dI 0)],ob:=[] }:Tr):=by kernel_rfl
def hdDe (a:LD) (m d i:Int):St:=⟨[(3,.int .i64 d),(7,.slice a []),(8,.int .i64 m),(9,.int .i64 i)],[]⟩
theorem Z7K (a':LD) (m d i kx nx:Int) (sx:LU) (ax:LD) (c q:Int):gH (dCtr [(15,dI c)] [(11,tC kx nx sx ax),(16,[dI q])]) 0 true rs43 (cut sc43 0) (hdDe a' m d i)=(brT (decide (i<m)) (Ow ((0:Int)<=i/\a'[Int.toNat i]? = some (tC kx nx sx ax)) (Ow (FK 43 [dA (tC kx nx sx ax)] (dI c)) (Ow (IntKind.i64=IntKind.i64/\(if true=true then if c > d then c else d else if c<d then c else d)=q) (I8 (i+(1:Int)) (Jm (cut sc43 0) { tm:=[(3,dI q),(7,dL a' []),(8,dI m),(9,dI (i+(1:Int)))],ob:=[] }))))) (I8 (d+(1:Int)) (Rt (dI (d+(1:Int))) [])):Tr):=by kernel_rfl
def DepP (x:Tm):Prop:=FK 43 [.agg x.cells] (.int .i64 x.depth)
theorem ZjJ {l:List Tm} {i:Nat} (h:i<l.length):(Tm.cellsL l)[i]? = some l[i].cells:=by rw[Z01]; simp[h]
theorem ZjH (l:List Tm) (hl:l.length<=281474976710656) (H: ∀ x∈l,DepP x) (hd: ∀ x∈l,x.depth<=1000000000): ∀ (m i d:Nat),l.length-i=m->i<=l.length->d<=1000000000 →
  At Tryz.prog 0 (cut sc43 0) (hdDe (Tm.cellsL l) l.length d i) (FinQ true 0 rs43 fun r _=>r= .int .i64 (((Nat.max d (Tm.depthL (l.drop i)))+1:Nat):Int)):=by
 intro m
 induction m with
 | zero =>
  intro i d hm hi hd0
  refine At.tree (Z6h Z5) (Z7K (Tm.cellsL l) l.length d i 0 0 [] [] 0 0) ?_
  rw[List.drop_eq_nil_of_le (by omega)]
  simp only[SS,Z0C]
  refine⟨fun h=>by omega,fun _=>⟨by omega, ?_⟩⟩
  simp[Tm.depthL]
 | succ m ih =>
  intro i d hm hi hd0
  have h1:i<l.length:=by omega
  have hx:=ZjJ h1
  have hC:=H _ (List.getElem_mem h1)
  have hb:=hd _ (List.getElem_mem h1)
  have hdr:l.drop i=l[i]::l.drop (i+1):=List.drop_eq_getElem_cons h1
  rw[hdr]
  simp only[Tm.depthL]
  unfold DepP at hC
  generalize Tm.depth l[i]=c at hC hb ⊢
  have hI:=ih (i+1) (Nat.max d c) (by omega) (by omega) (Nat.max_le.2 ⟨hd0,hb⟩)
  have e1:Nat.max (Nat.max d c) (Tm.depthL (l.drop (i+1)))=Nat.max d (Nat.max c (Tm.depthL (l.drop (i+1)))):=Nat.max_assoc ..
  rw[e1] at hI
  have e2:(if (c:Int) > (d:Int) then (c:Int) else (d:Int))=((Nat.max d c:Nat):Int):=by
   have:Nat.max d c=max d c:=rfl
   rw[this]
   split <;> omega
  generalize l[i]=x at hx hC
  obtain⟨kx,nx,sx,ax⟩:=x
  refine At.tree (Z6h Z5) (Z7K (Tm.cellsL l) l.length d i kx nx sx (Tm.cellsL ax) c (Nat.max d c:Nat)) ?_
  simp only[SS,Z0C,if_true,e2]
  exact⟨fun _=>⟨⟨by omega,hx⟩,hC,by omega,hI⟩,fun h=>by omega⟩
end Go.Proofs.YtecgehidegnmnaaGreatDoor
/- Valid; the text of a number. -/
namespace Go.Proofs.YtecgehidegnmnaaGreatDoor
open Go.Sx
theorem ZdZ: ∀ x:Tm,x.wf 281474976710656->x.depth<=1000000000->DepP x
 | .mk k n s l,hx,hd=>by
  simp only[Tm.wf] at hx
  obtain⟨hk,hn1,hn2,hs,hl,hw⟩:=hx
  simp only[Tm.depth] at hd
  have hel: ∀ x∈l,x.depth<=Tm.depthL l:=by
   clear hl hw hd
   induction l with
   | nil=>intro x hx; cases hx
   | cons a r ih =>
    intro x hx
    simp only[Tm.depthL]
    rcases List.mem_cons.1 hx with rfl | hx
    ·exact Nat.le_max_left ..
    ·exact Nat.le_trans (ih x hx) (Nat.le_max_right ..)
  have hA:=ZjH l hl (fun x hx=>ZdZ x (Z5s.1 hw x hx) (Nat.le_trans (hel x hx) (by omega))) (fun x hx=>Nat.le_trans (hel x hx) (by omega)) _ 0 0 rfl (Nat.zero_le _) (Nat.zero_le _)
  refine FnOK.tree Z7 fp43 (Z6h Z5) (Zhq k n s (Tm.cellsL l)) ?_
  rw[Z0Y,Z0C]
  have e:Nat.max 0 (Tm.depthL (l.drop 0))=Tm.depthL l:=Nat.zero_max _
  rw[e] at hA
  exact hA
termination_by x=>SizeOf.sizeOf x
decreasing_by
 have:=List.sizeOf_lt_of_mem hx
 simp only[Tm.mk.sizeOf_spec]
 omega
end Go.Proofs.YtecgehidegnmnaaGreatDoor
/- The parser: fits; trees of terms. -/
namespace Go.Proofs.YtecgehidegnmnaaGreatDoor
open Go.Sx
open Go.Sx.Lx (Tk Zq)
def asmP (r:D):PT:=fun f xs=>some (.ok (FK f xs r) r [])
theorem ZP (r:D):(asmP r).OK:=by intro f xs rt h; cases h; exact fun hp=>hp
noncomputable def PFit (ts:List Tk) (i m a d k n:Int) (s:LU) (l:LD) (so:Bool) (r1 r2 r3:LD):Tr:=Ow (FK 43 [dA (tC k n s l)] (dI d)) (brT (decide (m<d)) (Rt (D.pan (Value.iface 114 (Value.agg #[valV (dI a),valV (dI 5)]))) (psO ts i so r1 r2 r3)) (Rt (dA (tC k n s l)) (psO ts i so r1 r2 r3)))
theorem Zho (ts:List Tk) (i m a d k n:Int) (s:LU) (l:LD) (so:Bool) (r1 r2 r3:LD):gC (ctr (asmP (dI d))) 10 rs90 sc90 [] [dP 0 0,dA (tC k n s l),dI m,dI a] [] (psO ts i so r1 r2 r3)=PFit ts i m a d k n s l so r1 r2 r3:=by kernel_rfl
noncomputable def PNam (ts:List Tk) (i j1 j2 j3 j4:Int) (so b1 c b3 b4:Bool) (s:LU) (l:LD) (v1 v3 v4:Value) (r1 r2 r3:LD):Tr:=brT b1 (Ow (CQ 97 [dP 0 0,dU 1] (psO ts i so r1 r2 r3) (dS s) (psO ts j1 so r1 r2 r3)) (Ow (CQ 66 [dP 0 0,dL [[dS [40]]] []] (psO ts j1 so r1 r2 r3) (dB c) (psO ts j2 so r1 r2 r3)) (brT c (brT b3 (Ow (CQ 166 [dP 0 0,dI 8,dS [44],dF 91 [dP 0 0] []] (psO ts j2 so r1 r2 r3) (dL l []) (psO ts j3 so r1 r2 r3)) (brT b4 (Ow (CQ 68 [dP 0 0,dS [41]] (psO ts j3 so r1 r2 r3) (D.tuple []) (psO ts j4 so r1 r2 r3)) (Rt (dA [dU 4,dI 0,dS s,dL l []]) (psO ts j4 so r1 r2 r3))) (Ow (CQ 68 [dP 0 0,dS [41]] (psO ts j3 so r1 r2 r3) (D.pan v4) []) (Rt (D.pan v4) [])))) (Ow (CQ 166 [dP 0 0,dI 8,dS [44],dF 91 [dP 0 0] []] (psO ts j2 so r1 r2 r3) (D.pan v3) []) (Rt (D.pan v3) []))) (Rt (dA [dU 2,dI 0,dS s,dL [] []]) (psO ts j2 so r1 r2 r3))))) (Ow (CQ 97 [dP 0 0,dU 1] (psO ts i so r1 r2 r3) (D.pan v1) []) (Rt (D.pan v1) []))
theorem Zhh (ts:List Tk) (i j1 j2 j3 j4:Int) (so b1 c b3 b4:Bool) (s:LU) (l:LD) (v1 v3 v4:Value) (r1 r2 r3:LD):goT Tryz.prog { F:=fun x=>libT,C:=fun n=>if n=7 then psB b1 (dS s) (psO ts j1 so r1 r2 r3) v1 else if n=13 then psQ (dB c) (psO ts j2 so r1 r2 r3) else if n=17 then psB b3 (dL l []) (psO ts j3 so r1 r2 r3) v3 else psB b4 (D.tuple []) (psO ts j4 so r1 r2 r3) v4,E:=noE } 10 (finF false 10 ZfD) 2000 [Fr.sc ZeQ] { tm:=Zv 0 ([]++[dP 0 0]++[]),ob:=psO ts i so r1 r2 r3 }=PNam ts i j1 j2 j3 j4 so b1 c b3 b4 s l v1 v3 v4 r1 r2 r3:=by kernel_rfl
noncomputable def PChA (ts:List Tk) (i j:Int) (g:Nat) (b so:Bool) (es ext:LD) (k n:Int) (s:LU) (l:LD) (v:Value) (r1 r2 r3:LD):Tr:=brT b (Ow (CallL Tryz.prog (dF g [dP 0 0] []) [] (psO ts i so r1 r2 r3) fun r0 ob0=>r0=dA (tC k n s l)/\ob0=(psO ts j so r1 r2 r3)) (Jm (cut Z2l 0) { tm:=[(0,dP 0 0),(1,dF g [dP 0 0] []),(2,dL es ext),(6,dP 10 0),(7,dP 11 0)],ob:=[(0,oC [dL (List.map Zq ts) [],dI j,dV 1,dV 2,dV 3,dB so]),(1,oR true 20 42 r1),(2,oR true 5 53 r2),(3,oR true 2 138 r3),(10,oC [dU 0,dI 0,dS [],D.nils]),(11,oC (tC k n s l))] })) (Ow (CallL Tryz.prog (dF g [dP 0 0] []) [] (psO ts i so r1 r2 r3) fun r0 ob0=>r0=D.pan v/\ob0=[]) (Rt (D.pan v) []))
theorem Zhu (ts:List Tk) (i j:Int) (g:Nat) (b so:Bool) (es ext:LD) (k n:Int) (s:LU) (l:LD) (v:Value) (r1 r2 r3:LD):gC (ctr libT (psB b (dA (tC k n s l)) (psO ts j so r1 r2 r3) v)) 10 Z4Y Z2l [] [dP 0 0,dF g [dP 0 0] [],dL es ext] [] (psO ts i so r1 r2 r3)=PChA ts i j g b so es ext k n s l v r1 r2 r3:=by kernel_rfl
def ZiR (ts:List Tk) (i:Int) (g:Nat) (es ext:LD) (so:Bool) (t:List D) (r1 r2 r3:LD):St:=⟨[(0,.ptr 0 0),(1,.func (.func g) [.ptr 0 0] []),(2,.slice es ext),(6,.ptr 10 0),(7,.ptr 11 0)],psO ts i so r1 r2 r3++[(10,.cells [.int .u8 0,.int .i64 0,.str [],.nils]),(11,.cells t)]⟩
noncomputable def Zkh (ts:List Tk) (i j:Int) (g:Nat) (b c so:Bool) (es ext:LD) (hk ho:Int) (hs:LU) (k n k' n':Int) (s s':LU) (l l':LD) (v:Value) (r1 r2 r3:LD):Tr:=Ow (CQ 63 [dP 0 0,dL es ext] (psO ts i so r1 r2 r3) (dB c) (psO ts i so r1 r2 r3)) (brT c (Ow (CQ 58 [dP 0 0] (psO ts i so r1 r2 r3) (dA [dU hk,dS hs,dI ho]) (psO ts i so r1 r2 r3)) (I8 (i+(1:Int)) (brT b (Ow (CallL Tryz.prog (dF g [dP 0 0] []) [] [(0,oC [dL (List.map Zq ts) [],dI (i+(1:Int)),dV 1,dV 2,dV 3,dB so]),(1,oR true 20 42 r1),(2,oR true 5 53 r2),(3,oR true 2 138 r3)] fun r0 ob0=>r0=dA (tC k' n' s' l')/\ob0=(psO ts j so r1 r2 r3)) (Jm (cut Z2l 0) { tm:=[(0,dP 0 0),(1,dF g [dP 0 0] []),(2,dL es ext),(6,dP 10 0),(7,dP 11 0)],ob:=[(0,oC [dL (List.map Zq ts) [],dI j,dV 1,dV 2,dV 3,dB so]),(1,oR true 20 42 r1),(2,oR true 5 53 r2),(3,oR true 2 138 r3),(10,oC [dU 0,dI 0,dS [],D.nils]),(11,oC [dU 5,dI 0,dS hs,dL [(tC k n s l),(tC k' n' s' l')] []])] })) (Ow (CallL Tryz.prog (dF g [dP 0 0] []) [] [(0,oC [dL (List.map Zq ts) [],dI (i+(1:Int)),dV 1,dV 2,dV 3,dB so]),(1,oR true 20 42 r1),(2,oR true 5 53 r2),(3,oR true 2 138 r3)] fun r0 ob0=>r0=D.pan v/\ob0=[]) (Rt (D.pan v) []))))) (Rt (dA (tC k n s l)) (psO ts i so r1 r2 r3)))
theorem Zdl (ts:List Tk) (i j:Int) (g:Nat) (b c so:Bool) (es ext:LD) (hk ho:Int) (hs:LU) (k n k' n':Int) (s s':LU) (l l':LD) (v:Value) (r1 r2 r3:LD):goT Tryz.prog { F:=fun x=>libT,C:=fun n=>if n=15 then psQ (dB c) (psO ts i so r1 r2 r3) else if n=19 then psQ (dA [dU hk,dS hs,dI ho]) (psO ts i so r1 r2 r3) else psB b (dA (tC k' n' s' l')) (psO ts j so r1 r2 r3) v,E:=noE } 10 (finF false 10 Z4Y) 2000 (cut Z2l 0) (ZiR ts i g es ext so (tC k n s l) r1 r2 r3)=Zkh ts i j g b c so es ext hk ho hs k n k' n' s s' l l' v r1 r2 r3:=by kernel_rfl
noncomputable def PChB (ts:List Tk) (i j:Int) (g:Nat) (b so:Bool) (es ext:LD) (k n:Int) (s:LU) (l:LD) (v:Value) (r1 r2 r3:LD):Tr:=brT b (Ow (CallL Tryz.prog (dF g [] [dP 0 0]) [] [(0,oC [dP 1 0]),(1,oC [dL (List.map Zq ts) [],dI i,dV 2,dV 3,dV 4,dB so]),(2,oR true 20 42 r1),(3,oR true 5 53 r2),(4,oR true 2 138 r3)] fun r0 ob0=>r0=dA (tC k n s l)/\ob0=[(0,oC [dP 1 0]),(1,oC [dL (List.map Zq ts) [],dI j,dV 2,dV 3,dV 4,dB so]),(2,oR true 20 42 r1),(3,oR true 5 53 r2),(4,oR true 2 138 r3)]) (Jm (cut Z2l 0) { tm:=[(0,dP 0 0),(1,dF g [] [dP 1 0]),(2,dL es ext),(6,dP 10 0),(7,dP 11 0)],ob:=[(0,oC [dL (List.map Zq ts) [],dI j,dV 2,dV 3,dV 4,dB so]),(1,oC [dP 0 0]),(2,oR true 20 42 r1),(3,oR true 5 53 r2),(4,oR true 2 138 r3),(10,oC [dU 0,dI 0,dS [],D.nils]),(11,oC (tC k n s l))] })) (Ow (CallL Tryz.prog (dF g [] [dP 0 0]) [] [(0,oC [dP 1 0]),(1,oC [dL (List.map Zq ts) [],dI i,dV 2,dV 3,dV 4,dB so]),(2,oR true 20 42 r1),(3,oR true 5 53 r2),(4,oR true 2 138 r3)] fun r0 ob0=>r0=D.pan v/\ob0=[]) (Rt (D.pan v) []))
theorem Zht (ts:List Tk) (i j:Int) (g:Nat) (b so:Bool) (es ext:LD) (k n:Int) (s:LU) (l:LD) (v:Value) (r1 r2 r3:LD):gC (ctr libT (psB b (dA (tC k n s l)) (psQ0 ts j so r1 r2 r3) v)) 10 Z4Y Z2l [] [dP 0 0,dF g [] [dP 1 0],dL es ext] [] (psO1 ts i so r1 r2 r3)=PChB ts i j g b so es ext k n s l v r1 r2 r3:=by kernel_rfl
def ZiQ (ts:List Tk) (i:Int) (g:Nat) (es ext:LD) (so:Bool) (t:List D) (r1 r2 r3:LD):St:=⟨[(0,.ptr 0 0),(1,.func (.func g) [] [.ptr 1 0]),(2,.slice es ext),(6,.ptr 10 0),(7,.ptr 11 0)],psO1 ts i so r1 r2 r3++[(10,.cells [.int .u8 0,.int .i64 0,.str [],.nils]),(11,.cells t)]⟩
noncomputable def Zkg (ts:List Tk) (i j:Int) (g:Nat) (b c so:Bool) (es ext:LD) (hk ho:Int) (hs:LU) (k n k' n':Int) (s s':LU) (l l':LD) (v:Value) (r1 r2 r3:LD):Tr:=Ow (CQ 63 [dP 0 0,dL es ext] (psO ts i so r1 r2 r3) (dB c) (psO ts i so r1 r2 r3)) (brT c (Ow (CQ 58 [dP 0 0] (psO ts i so r1 r2 r3) (dA [dU hk,dS hs,dI ho]) (psO ts i so r1 r2 r3)) (I8 (i+(1:Int)) (brT b (Ow (CallL Tryz.prog (dF g [] [dP 0 0]) [] [(0,oC [dP 1 0]),(1,oC [dL (List.map Zq ts) [],dI (i+(1:Int)),dV 2,dV 3,dV 4,dB so]),(2,oR true 20 42 r1),(3,oR true 5 53 r2),(4,oR true 2 138 r3)] fun r0 ob0=>r0=dA (tC k' n' s' l')/\ob0=[(0,oC [dP 1 0]),(1,oC [dL (List.map Zq ts) [],dI j,dV 2,dV 3,dV 4,dB so]),(2,oR true 20 42 r1),(3,oR true 5 53 r2),(4,oR true 2 138 r3)]) (Jm (cut Z2l 0) { tm:=[(0,dP 0 0),(1,dF g [] [dP 1 0]),(2,dL es ext),(6,dP 10 0),(7,dP 11 0)],ob:=[(0,oC [dL (List.map Zq ts) [],dI j,dV 2,dV 3,dV 4,dB so]),(1,oC [dP 0 0]),(2,oR true 20 42 r1),(3,oR true 5 53 r2),(4,oR true 2 138 r3),(10,oC [dU 0,dI 0,dS [],D.nils]),(11,oC [dU 5,dI 0,dS hs,dL [(tC k n s l),(tC k' n' s' l')] []])] })) (Ow (CallL Tryz.prog (dF g [] [dP 0 0]) [] [(0,oC [dP 1 0]),(1,oC [dL (List.map Zq ts) [],dI (i+(1:Int)),dV 2,dV 3,dV 4,dB so]),(2,oR true 20 42 r1),(3,oR true 5 53 r2),(4,oR true 2 138 r3)] fun r0 ob0=>r0=D.pan v/\ob0=[]) (Rt (D.pan v) []))))) (Rt (dA (tC k n s l)) (psO1 ts i so r1 r2 r3)))
theorem Zdk (ts:List Tk) (i j:Int) (g:Nat) (b c so:Bool) (es ext:LD) (hk ho:Int) (hs:LU) (k n k' n':Int) (s s':LU) (l l':LD) (v:Value) (r1 r2 r3:LD):goT Tryz.prog { F:=fun x=>libT,C:=fun n=>if n=15 then psQ (dB c) (psO ts i so r1 r2 r3) else if n=19 then psQ (dA [dU hk,dS hs,dI ho]) (psO ts i so r1 r2 r3) else psB b (dA (tC k' n' s' l')) (psQ0 ts j so r1 r2 r3) v,E:=noE } 10 (finF false 10 Z4Y) 2000 (cut Z2l 0) (ZiQ ts i g es ext so (tC k n s l) r1 r2 r3)=Zkg ts i j g b c so es ext hk ho hs k n k' n' s s' l l' v r1 r2 r3:=by kernel_rfl
theorem Zhd (ts:List Tk) (i j:Int) (b so:Bool) (k n:Int) (s:LU) (l:LD) (v:Value) (r1 r2 r3:LD):let A:=[dP 0 0,dF 160 [] [dP 1 0],dL [[dS [43]],[dS [45]]] []];let B:=dA (tC k n s l);let C:=psO1 ts j so r1 r2 r3;let E:=psO1 ts i so r1 r2 r3;gC (ctr libT (psB b B C v)) 10 ZfM ZeZ [] [dP 0 0] [] (psO ts i so r1 r2 r3)=(brT b (Ow (CQ 161 A E B C) (Rt B (psO ts j so r1 r2 r3))) (Ow (CQ 161 A E (D.pan v) []) (Rt (D.pan v) [])):Tr):=by intro A B C E;kernel_rfl
theorem Zhe (ts:List Tk) (i j:Int) (b so:Bool) (k n:Int) (s:LU) (l:LD) (v:Value) (r1 r2 r3:LD):let A:=[dP 0 0,dF 162 [dP 0 0] [],dL [[dS [42]],[dS [47]],[dS [92]]] []];let B:=dA (tC k n s l);let C:=psO ts j so r1 r2 r3;let E:=psO ts i so r1 r2 r3;let F:=(0,oC [dP 1 0]);gC (ctr libT (psB b B C v)) 10 Zfz ZeM [] [] [dP 0 0] (psQ0 ts i so r1 r2 r3)=(brT b (Ow (CQ 161 A E B C) (Rt B [F,(1,oC [dL (List.map Zq ts) [],dI j,dV 2,dV 3,dV 4,dB so]),(2,oR true 20 42 r1),(3,oR true 5 53 r2),(4,oR true 2 138 r3)])) (Ow (CQ 161 A E (D.pan v) []) (Rt (D.pan v) [F])):Tr):=by intro A B C E F;kernel_rfl
theorem Zhg (ts:List Tk) (i j1 j2 j3:Int) (so b1 c b3:Bool) (k n k' n':Int) (s s':LU) (l l':LD) (v1 v3:Value) (r1 r2 r3:LD):let A:=psO ts j2 so r1 r2 r3;let B:=psO ts j1 so r1 r2 r3;let G:=psO ts j3 so r1 r2 r3;let H:=tC k n s l;let I:=tC k' n' s' l';let J:=psO ts i so r1 r2 r3;goT Tryz.prog { F:=fun x=>libT,C:=fun m=>if m=5 then psB b1 (dA H) B v1 else if m=10 then psQ (dB c) A else psB b3 (dA I) G v3,E:=noE } 10 (finF false 10 rs91) 2000 [Fr.sc sc91] { tm:=Zv 0 ([]++[dP 0 0]++[]),ob:=psO ts i so r1 r2 r3 }=(brT b1 (Ow (CQ 131 [dP 0 0] J (dA H) B) (Ow (CQ 66 [dP 0 0,dL [[dS [46,46]]] []] B (dB c) A) (brT c (brT b3 (Ow (CQ 131 [dP 0 0] A (dA I) G) (Rt (dA [dU 6,dI 0,dS [],dL [H,I] []]) G)) (Ow (CQ 131 [dP 0 0] A (D.pan v3) []) (Rt (D.pan v3) []))) (Rt (dA H) A)))) (Ow (CQ 131 [dP 0 0] J (D.pan v1) []) (Rt (D.pan v1) [])):Tr):=by intro A B G H I J;kernel_rfl
end Go.Proofs.YtecgehidegnmnaaGreatDoor
