/- Own work: a layer over the kit: plain data,a walk over it,its soundness. -/
import Derived.Test.YtobgkdlghljdlaaGreatDoorMtE
import Derived.Test.YtobgkdlghljdlaaGreatDoorSx8
import Derived.Test.YtobgkdlghljdlaaGreatDoorArXpE
set_option linter.unusedSectionVars false
set_option linter.unusedVariables false
set_option linter.unusedSimpArgs false
set_option linter.deprecated false
set_option maxRecDepth 100000
/- The law of bindings: trees. -/
namespace Go.Proofs.YtobgkdlghljdlaaGreatDoor
open Go.Sx
abbrev obV (k n:Int) (s:LU) (a:LD) (kv nv:Int) (sv:LU) (av:LD):Obs:=[(0,.cells (tC k n s a)),(1,.cells (tC kv nv sv av))]
abbrev tmV (es:LD) (nm:LU):List (Nat × D):=[(2,.slice es []),(3,.str nm),(4,.ptr 0 0),(5,.ptr 1 0)]
abbrev tmT:List (Nat × D):=[(4,.ptr 0 0),(5,.ptr 1 0)]
end Go.Proofs.YtobgkdlghljdlaaGreatDoor
/- The law of bindings,but for what is awake. -/
namespace Go.Proofs.YtobgkdlghljdlaaGreatDoor
open Go.Sx
theorem ZoG (b:List Bd) (hl:b.length<=281474976710656) (hw: ∀ x∈b,x.v.wf 281474976710656): ∀ (m i:Nat) (nn:Int),b.length-i=m->i<=b.length->0<=nn →
  At Tryz.prog 0 (cut sc8 0) (hdSm (bdL b) nn i) (FinQ true 0 rs8 fun r _=>r= .bool (decide (smB (b.drop i) nn<=150))):=by
 intro m
 induction m with
 | zero =>
  intro i nn hm hi h0
  refine At.tree Z5 (Z63 (bdL b) nn i [] 0 0 [] [] 0) ?_
  rw[List.drop_eq_nil_of_le (by omega)]
  simp only[SS,ZQ,smB]
  exact⟨fun h=>by omega,fun _=>by first | rfl | trivial⟩
 | succ m ih =>
  intro i nn hm hi h0
  have h1:i<b.length:=by omega
  have hx:=Qj h1
  have hc:=ZeR b[i].v (hw _ (List.getElem_mem h1)) 150 (by decide) (by decide)
  have g1:=Z57 b[i].v 150
  have g2:=ZeS b[i].v 150 (by decide)
  have hI:=ih (i+1) (nn+b[i].v.sz 150) (by omega) (by omega) (by omega)
  have hD:smB (b.drop i) nn=if nn<=150 then smB (b.drop (i+1)) (nn+b[i].v.sz 150) else nn:=by rw[Za h1,smB]
  by_cases hn:nn<=150
  ·rw[if_pos hn] at hD
   rw[hD]
   generalize decide (smB (b.drop (i+1)) (nn+b[i].v.sz 150)<=150)=r at hI ⊢
   clear hD
   generalize b[i].v.sz 150=c at hc g1 g2 hI
   generalize b[i]=x at hx hc
   obtain⟨nm,⟨k,n,s,a⟩⟩:=x
   refine At.tree Z5 (Z63 (bdL b) nn i nm k n s (Tm.cellsL a) c) ?_
   simp only[SS,ZQ]
   exact⟨fun _=>⟨fun _=>⟨⟨by omega,hx⟩,hc,by omega,by omega,hI⟩,fun h=>by omega⟩,fun h=>by omega⟩
  ·rw[if_neg hn] at hD
   rw[hD]
   refine At.tree Z5 (Z63 (bdL b) nn i [] 0 0 [] [] 0) ?_
   simp only[SS,ZQ]
   exact⟨fun _=>⟨fun h=>by omega,fun _=>by first | rfl | trivial⟩,fun h=>by omega⟩
def smlB (b:List Bd) (l:List Tm):Bool:=decide (smB b (Tm.szL l 150 0)<=150)
theorem ZbM (b:List Bd) (l:List Tm) (hb:b.length<=281474976710656) (hw: ∀ x∈b,x.v.wf 281474976710656) (hl:l.length<=281474976710656) (hwl: ∀ x∈l,x.wf 281474976710656):FK 8 [.slice (bdL b) [],.slice (Tm.cellsL l) []] (.bool (smlB b l)):=by
 have h1:=Zdo l hl (fun x hx=>ZeR x (hwl x hx)) 150 (by decide)
 have h0:=Z1V l 150 0
 unfold smlB
 generalize Tm.szL l 150 0=c at h1 h0 ⊢
 refine FnOK.tree Z4 fp8 Z5 (Zo1 (bdL b) (Tm.cellsL l) c) ?_
 refine⟨h1, ?_⟩
 rw[Z8]
 exact ZoG b hb hw _ 0 c rfl (Nat.zero_le _) h0
theorem ZpX (c b:List Bd) (hl:c.length<=1000000) (hw: ∀ x∈c,x.wf 281474976710656) (hd: ∀ x∈c,x.v.depth<=1000000000) (hf: ∀ x∈c,x.v.few 1000) (hbl:b.length<=281474976710656) (hbw: ∀ x∈b,x.v.wf 281474976710656) (H: ∀ x∈b,getV c x.n=some x.v): ∀ (m i:Nat),b.length-i=m->i<=b.length →
  At Tryz.prog 0 (cut sc14 0) (ZlF (bdL c) (bdL b) i) (FinQ true 0 rs14 fun r _=>r= .bool true):=by
 intro m
 induction m with
 | zero =>
  intro i hm hi
  refine At.tree Z5 (Zbd (bdL c) (bdL b) i [] 0 0 [] []) ?_
  simp only[SS,ZQ]
  exact⟨fun h=>by omega,fun _=>by first | rfl | trivial⟩
 | succ m ih =>
  intro i hm hi
  have h1:i<b.length:=by omega
  have hx:=Qj h1
  have hg:=Zgy c hl hw hd hf b[i].n
  have hm':=List.getElem_mem h1
  rw[H _ hm'] at hg
  have he:=Z3X b[i].v b[i].v (hbw _ hm') (hbw _ hm')
  rw[Z2p.2 rfl] at he
  have hI:=ih (i+1) (by omega) (by omega)
  generalize b[i]=x at hx hg he
  obtain⟨nm,⟨k,n,s,a⟩⟩:=x
  refine At.tree Z5 (Zbd (bdL c) (bdL b) i nm k n s (Tm.cellsL a)) ?_
  simp only[SS,ZQ]
  exact⟨fun _=>⟨⟨by omega,hx⟩,hg,⟨by omega,hx⟩,he,by omega,hI⟩,fun h=>by omega⟩
theorem Z88 (c b:List Bd) (hl:c.length<=1000000) (hw: ∀ x∈c,x.wf 281474976710656) (hd: ∀ x∈c,x.v.depth<=1000000000) (hf: ∀ x∈c,x.v.few 1000) (hbl:b.length<=281474976710656) (hbw: ∀ x∈b,x.v.wf 281474976710656) (H: ∀ x∈b,getV c x.n=some x.v):FK 14 [.slice (bdL c) [],.slice (bdL b) []] (.bool true):=by
 refine FnOK.tree Z4 fp14 Z5 (Zo6 (bdL c) (bdL b)) ?_
 rw[Z8]
 exact ZpX c b hl hw hd hf hbl hbw H _ 0 rfl (Nat.zero_le _)
end Go.Proofs.YtobgkdlghljdlaaGreatDoor
/- MatchOrder,but for what is awake. -/
namespace Go.Proofs.YtobgkdlghljdlaaGreatDoor
open Go.Sx
theorem Zck (n m:Int) (hm:0<m/\m<=1000000000): ∃ k:Nat,(k:Int)<m/\FK 9 [.int .i64 n,.int .i64 m] (.int .i64 k):=by
 have h1:=Int.tmod_lt_of_pos n hm.1
 have h2: -m<n.tmod m:=Int.neg_lt_of_neg_lt (by have:=Int.tmod_lt_of_pos (-n) hm.1; rw[Int.neg_tmod] at this; omega)
 refine⟨(if n.tmod m<0 then n.tmod m+m else n.tmod m).toNat,by split <;> omega, ?_⟩
 rw[show (((if n.tmod m<0 then n.tmod m+m else n.tmod m).toNat:Nat):Int)=(if n.tmod m<0 then n.tmod m+m else n.tmod m) from by split <;> omega]
 refine FnOK.tree Z4 fp9 Z5 (Zoe n m) ?_
 simp only[SS]
 exact⟨fun h=>by omega,fun _=>⟨by omega,fun h=>⟨by omega,by rw[if_pos h]⟩,fun h=>by rw[if_neg h]⟩⟩
theorem Zk5 (x:Bd) (hx:x.v.wf 281474976710656):FK 36 [.agg x.c,.agg x.c] (.bool true):=by
 have h:=Zk7 x.v x.v hx hx
 unfold SaP at h
 rw[Z2p.2 rfl] at h
 obtain⟨m,⟨k,n,s,a⟩⟩:=x
 refine FnOK.tree Z4 fp36 Z5 (ZiN m k n s (Tm.cellsL a) m k n s (Tm.cellsL a) true) ?_
 simp only[SS]
 exact⟨h,fun h2=>absurd trivial h2⟩
theorem Zk6 (l:List Bd) (hl:l.length<=1000000) (hw: ∀ x∈l,x.v.wf 281474976710656): ∀ (m i:Nat),l.length-i=m->i<=l.length →
  At Tryz.prog 0 (cut sc11 0) (hdSb (bdL l) (bdL l) i) (FinQ true 0 rs11 fun r _=>r= .bool true):=by
 intro m
 induction m with
 | zero =>
  intro i hm hi
  refine At.tree Z5 (Zbf (bdL l) (bdL l) i [] 0 0 [] [] [] 0 0 [] [] true) ?_
  simp only[SS,ZQ]
  exact⟨fun h=>by omega,fun _=>by first | trivial | rfl⟩
 | succ m ih =>
  intro i hm hi
  have h1:i<l.length:=by omega
  have hx:=Qj h1
  have hC:=Zk5 l[i] (hw _ (List.getElem_mem h1))
  have hI:=ih (i+1) (by omega) (by omega)
  generalize l[i]=x at hx hC
  obtain⟨m,⟨k,n,s,a⟩⟩:=x
  refine At.tree Z5 (Zbf (bdL l) (bdL l) i m k n s (Tm.cellsL a) m k n s (Tm.cellsL a) true) ?_
  simp only[SS,ZQ]
  exact⟨fun _=>⟨⟨by omega,hx⟩,⟨by omega,hx⟩,hC,fun h=>(by cases h),by omega,hI⟩,fun h=>by omega⟩
theorem Zk4 (l:List Bd) (hl:l.length<=1000000) (hw: ∀ x∈l,x.v.wf 281474976710656):FK 11 [.slice (bdL l) [],.slice (bdL l) []] (.bool true):=by
 refine FnOK.tree Z4 fp11 Z5 (Zod (bdL l) (bdL l)) ?_
 simp only[SS]
 first | exact Zk6 l hl hw _ 0 rfl (Nat.zero_le _) | exact⟨fun h=>absurd trivial h,Zk6 l hl hw _ 0 rfl (Nat.zero_le _)⟩
theorem Zds {b:List Bd} {l:List Tm} (hl: ∀ x∈l,x.wf 281474976710656) (hb: ∀ x∈b,x.wf 281474976710656) (hB:b.length<=150) (h:smlB b l=true):(∀ x∈l,TmB x)/\Tm.cntL l<=150/\l.length<=150/\BdB b:=by
 have h:=of_decide_eq_true h
 obtain⟨h1,h2⟩:=Zdt b _ (Z1V l 150 0) h
 have h3:=Z58 (N:=1000) l 150 0 (by decide) h1
 have hf:=ZM.1 h3.1
 have hd:=Z1W l 150 0 h1
 have hc:=Z59 l 150 0 h1
 refine⟨fun x hx=>⟨hl x hx,hf x hx, ?_⟩,by omega,by omega,⟨by omega,hb,fun x hx=>⟨(hb x hx).2,Zdp x.v 150 (by decide) (h2 x hx), ?_⟩⟩⟩
 ·have:=Z0P hx
  omega
 ·have:=Z6f x.v 150 (h2 x hx)
  omega
theorem Zlm {p v:List Tm} {b c:List Bd} (hp: ∀ x∈p,TmB x) (hv: ∀ x∈v,TmB x) (hb:BdB b) (h:lstB p v b=some c):(∀ x∈c,x.v.wf 281474976710656/\TmB x.v)/\c.length<=b.length+Tm.cntL p:=by
 unfold lstB at h
 split at h
 ·split at h
  ·rename_i q hq
   split at h
   ·cases h
    obtain⟨w,h1,h2,h3⟩:=Z3F hq
    obtain⟨q1,q2⟩:=Z1L Z01 Z01 p v w hp hv h1
    have q3:=Z1M p v w h1
    obtain⟨q4,q5⟩:=Z1h h2
    refine⟨fun x hx=> ?_,by omega⟩
    rcases q5 x hx with hx | hx
    ·exact⟨(hb.tm x hx).1,hb.tm x hx⟩
    ·have:=q1 _ hx
     exact⟨this.1,this⟩
   ·cases h
  ·cases h
 ·cases h
end Go.Proofs.YtobgkdlghljdlaaGreatDoor
/- MatchSound,MatchFinds: trees of the small functions. -/
namespace Go.Proofs.YtobgkdlghljdlaaGreatDoor
open Go.Sx
theorem Znm (k n:Int) (s:LU) (a:LD):let A:=[(1,dP 0 0),(3,dV 1),(4,dI (0:Int))];let B:=tC k n s a;let C:=Rt (D.own 1 9 []) [];let E:=cut sc17 0;gP (mCtr []) rs17 sc17 [dA B]=(brT (decide (k=(5:Int))) C (brT (decide (k=(6:Int))) C (brT (decide (k=(3:Int))) (Ow (Zd 1 [[dS s]]/\1<=1073741824) (Jm E { tm:=A,ob:=[(0,oC B),(1,oR true 1 9 [[dS s]])] })) (Jm E { tm:=A,ob:=[(0,oC B),(1,oR true 1 9 [])] }))):Tr):=by intro A B C E;kernel_rfl
def hdOu (k n:Int) (s:LU) (a row:LD) (i:Int):St:=⟨[(1,.ptr 0 0),(3,.vec 1),(4,.int .i64 i)],[(0,.cells (tC k n s a)),(1,.arr true 1 9 row)]⟩
theorem ZaN (k n:Int) (s:LU) (a row:LD) (i:Nat) (kx nx:Int) (sx:LU) (ax r:LD):let A:=((↑i:Int)+(1:Int));let B:=tC kx nx sx ax;let C:=cut sc17 0;gH (mCtr [(34,dL r [])] [(32,tC kx nx sx ax)]) 0 true rs17 C (hdOu k n s a row (↑i:Int))=(brT (decide ((↑i:Int)<(↑(List.length a):Int))) (Ow ((0:Int)<=(↑i:Int)/\a[Int.toNat (↑i:Int)]? = some B) (Ow (FK 17 [dA B] (dL r [])) (Ow (Zd 1 r/\List.length row+List.length r<=1073741824) (I8 A (Jm C { tm:=[(1,dP 0 0),(3,dV 1),(4,dI A)],ob:=[(0,oC (tC k n s a)),(1,oR true 1 9 (row++r))] }))))) (Rt (D.own 1 9 row) []):Tr):=by intro A B C;kernel_rfl
theorem Znn (es:LD) (s:LU):gP (mCtr []) rs19 sc19 [dL es [],dS s]=(Jm (cut sc19 0) { tm:=[(0,dL es []),(1,dS s),(5,dI (0:Int))],ob:=[] }:Tr):=by kernel_rfl
def hdHa (es:LD) (s:LU) (i:Int):St:=⟨[(0,.slice es []),(1,.str s),(5,.int .i64 i)],[]⟩
theorem ZaO (es:LD) (s:LU) (i:Nat) (t:LU):let A:=((↑i:Int)+(1:Int));let B:=cut sc19 0;gH (mCtr [] [(14,[dS t])]) 0 true rs19 B (hdHa es s (↑i:Int))=(brT (decide ((↑i:Int)<(↑(List.length es):Int))) (Ow ((0:Int)<=(↑i:Int)/\es[Int.toNat (↑i:Int)]? = some [dS t]) (brT (decide (t=s)) (Rt (dB true) []) (I8 A (Jm B { tm:=[(0,dL es []),(1,dS s),(5,dI A)],ob:=[] })))) (Rt (dB false) []):Tr):=by intro A B;kernel_rfl
end Go.Proofs.YtobgkdlghljdlaaGreatDoor
/- MatchFinds: trees. -/
namespace Go.Proofs.YtobgkdlghljdlaaGreatDoor
open Go.Sx
theorem Zer (k n:Int) (s:LU) (a vs:LD):let A:=Ow (FK 65 [dA (tC k n s a)] (dL vs [])) (Rt (dL vs []) []);let B:=tC k n s a;gP (mCtr [(14,dL vs [])]) rs29 sc29 [dA B]=(brT (decide (k=(5:Int))) A (brT (decide (k=(6:Int))) A (Jm (cut sc29 0) { tm:=[(1,dP 0 0),(3,dV 1),(4,dI (0:Int))],ob:=[(0,oC B),(1,oR true 1 9 [])] })):Tr):=by intro A B;kernel_rfl
def hdIn (k n:Int) (s:LU) (a row:LD) (i:Int):St:=⟨[(1,.ptr 0 0),(3,.vec 1),(4,.int .i64 i)],[(0,.cells (tC k n s a)),(1,.arr true 1 9 row)]⟩
theorem Zbi (k n:Int) (s:LU) (a row:LD) (i:Nat) (kx nx:Int) (sx:LU) (ax r:LD):let A:=((↑i:Int)+(1:Int));let B:=tC kx nx sx ax;let C:=cut sc29 0;gH (mCtr [(28,dL r [])] [(26,tC kx nx sx ax)]) 0 true rs29 C (hdIn k n s a row (↑i:Int))=(brT (decide ((↑i:Int)<(↑(List.length a):Int))) (Ow ((0:Int)<=(↑i:Int)/\a[Int.toNat (↑i:Int)]? = some B) (Ow (FK 29 [dA B] (dL r [])) (Ow (Zd 1 r/\List.length row+List.length r<=1073741824) (I8 A (Jm C { tm:=[(1,dP 0 0),(3,dV 1),(4,dI A)],ob:=[(0,oC (tC k n s a)),(1,oR true 1 9 (row++r))] }))))) (Rt (D.own 1 9 row) []):Tr):=by intro A B C;kernel_rfl
abbrev tmF (es:LD) (pick:Int):List (Nat × D):=[(1,.slice es []),(2,.int .i64 pick),(3,.ptr 0 0)]
theorem Zqa (k n:Int) (s:LU) (a es:LD) (pick:Int):gP (mCtr []) rs6 sc6 [dA (tC k n s a),dL es [],dI pick]=(Jm (frg sc6 0) { tm:=[(1,dL es []),(2,dI pick),(3,dP 0 0)],ob:=[(0,oC (tC k n s a))] }:Tr):=by kernel_rfl
theorem Znw (k n:Int) (s:LU) (a es:LD) (pick:Int):let A:=[(0,oC (tC k n s a))];gH (mCtr [(19,dB true)]) 0 true rs6 (frg sc6 0) { tm:=tmF es pick,ob:=A }=(Ow (FK 7 [] (dB true)) (Jm (frg sc6 1) { tm:=[(1,dL es []),(2,dI pick),(3,dP 0 0)],ob:=A }):Tr):=by intro A;kernel_rfl
theorem Znv (k n:Int) (s:LU) (a es:LD) (pick:Int) (b pv bv:Bool):let A:=Rt (dB true) [];let B:=tC k n s a;gH (mCtr [(24,dB b),(33,dB pv),(38,dB bv)]) 0 true rs6 (frg sc6 1) { tm:=tmF es pick,ob:=[(0,oC B)] }=(Ow (FK 8 [dL es [],dL [B] []] (dB b)) (brT (!b) A (brT (decide ((150:Int)<(↑(List.length es):Int))) A (Ow (FK 15 [dA B] (dB pv)) (brT (!pv) A (Ow (FK 13 [dL es []] (dB bv)) (brT (!bv) A (Jm (frg sc6 2) { tm:=[(1,dL es []),(2,dI pick),(3,dP 0 0)],ob:=[(0,oC B)] }))))))):Tr):=by intro A B;kernel_rfl
theorem Znu (k n:Int) (s:LU) (a es:LD) (pick kt nt:Int) (st:LU) (ta:LD):gH (mCtr [(43,dA (tC kt nt st ta))]) 0 true rs6 (frg sc6 2) { tm:=tmF es pick,ob:=[(0,oC (tC k n s a))] }=(Ow (FK 20 [dA (tC k n s a),dL es []] (dA (tC kt nt st ta))) (Jm (frg sc6 3) { tm:=[(1,dL es []),(2,dI pick),(3,dP 0 0),(7,dP 1 0)],ob:=(obV k n s a kt nt st ta) }):Tr):=by kernel_rfl
theorem Znt (k n:Int) (s:LU) (a es:LD) (pick kt nt:Int) (st:LU) (ta l:LD) (e:Int):gH (mCtr [(46,D.tuple [dL l [],dI e])]) 0 true rs6 (frg sc6 3) { tm:=tmF es pick++[(7,dP 1 0)],ob:=(obV k n s a kt nt st ta) }=(Ow (FK 22 [dA (tC kt nt st ta)] (D.tuple [dL l [],dI e])) (Jm (frg sc6 4) { tm:=[(1,dL es []),(2,dI pick),(3,dP 0 0),(8,dL l []),(9,dI e)],ob:=[(0,oC (tC k n s a))] }):Tr):=by kernel_rfl
theorem ZaP (k n:Int) (s:LU) (a es:LD) (pick:Int) (l:LD) (e:Int):let A:=[(0,oC (tC k n s a))];let B:=Rt (dB true) [];let C:=(8,dL l []);gH (mCtr []) 0 true rs6 (frg sc6 4) { tm:=tmF es pick++[C,(9,dI e)],ob:=A }=(brT (!decide (e=(0:Int))) B (brT (decide ((↑(List.length l):Int)=(0:Int))) B (Jm (frg sc6 5) { tm:=[(1,dL es []),(2,dI pick),(3,dP 0 0),C],ob:=A })):Tr):=by intro A B C;kernel_rfl
theorem Zns (k n:Int) (s:LU) (a es:LD) (pick:Int) (l:LD) (i:Nat) (kv nv:Int) (sv:LU) (av:LD):gH (mCtr [(60,dI (↑i:Int))] [(61,tC kv nv sv av)]) 0 true rs6 (frg sc6 5) { tm:=tmF es pick++[(8,dL l [])],ob:=[(0,oC (tC k n s a))] }=(Ow (FK 9 [dI pick,dI (↑(List.length l):Int)] (dI (↑i:Int))) (Ow ((0:Int)<=(↑i:Int)/\l[Int.toNat (↑i:Int)]? = some (tC kv nv sv av)) (Jm (frg sc6 6) { tm:=[(1,dL es []),(3,dP 0 0),(10,dP 1 0)],ob:=(obV k n s a kv nv sv av) })):Tr):=by kernel_rfl
theorem Znr (k n:Int) (s:LU) (a es:LD) (kv nv:Int) (sv:LU) (av:LD):gH (mCtr []) 0 true rs6 (frg sc6 6) { tm:=[(1,dL es []),(3,dP 0 0),(10,dP 1 0)],ob:=(obV k n s a kv nv sv av) }=(Jm (frg sc6 7) { tm:=[(1,dL es []),(3,dP 0 0),(10,dP 1 0),(11,dV 2)],ob:=[(0,oC (tC k n s a)),(1,oC (tC kv nv sv av)),(2,oR true 5 45 [])] }:Tr):=by kernel_rfl
abbrev tmF7 (es:LD):List (Nat × D):=[(1,.slice es []),(3,.ptr 0 0),(10,.ptr 1 0),(11,.vec 2)]
theorem Znq (k n:Int) (s:LU) (a es:LD) (kv nv:Int) (sv:LU) (av row vs js:LD):let A:=[(0,oC (tC k n s a)),(1,oC (tC kv nv sv av)),(2,oR true 5 45 row)];let B:=[dA (tC k n s a)];gH (mCtr [(64,dL vs []),(66,dL js [])]) 0 true rs6 (frg sc6 7) { tm:=tmF7 es,ob:=A }=(Ow (FK 17 B (dL vs [])) (Ow (FK 29 B (dL js [])) (Jm (frg sc6 8) { tm:=[(1,dL es []),(3,dP 0 0),(10,dP 1 0),(11,dV 2),(12,dL vs []),(13,dL js [])],ob:=A })):Tr):=by intro A B;kernel_rfl
theorem Znp (k n:Int) (s:LU) (a es:LD) (kv nv:Int) (sv:LU) (av row vs js:LD):let A:=[(0,oC (tC k n s a)),(1,oC (tC kv nv sv av)),(2,oR true 5 45 row)];let B:=(12,dL vs []);let C:=(13,dL js []);gH (mCtr []) 0 true rs6 (frg sc6 8) { tm:=tmF7 es++[B,C],ob:=A }=(Jm (cut sc6 0) { tm:=[(1,dL es []),(3,dP 0 0),(10,dP 1 0),(11,dV 2),B,C,(14,dI (0:Int))],ob:=A }:Tr):=by intro A B C;kernel_rfl
theorem Ze9 (k n:Int) (s:LU) (a es:LD) (kv nv:Int) (sv:LU) (av row vs js:LD) (i:Nat) (m:LU) (kb nb:Int) (sb:LU) (ab:LD) (h1 h2:Bool):let A:=[(1,dL es []),(3,dP 0 0),(10,dP 1 0),(11,dV 2),(12,dL vs []),(13,dL js []),(14,dI ((↑i:Int)+(1:Int)))];let B:=[(0,oC (tC k n s a)),(1,oC (tC kv nv sv av)),(2,oR true 5 45 row)];let C:=bC m kb nb sb ab;let E:=((↑i:Int)+(1:Int));let F:=cut sc6 0;gH (mCtr [(79,dB h1),(87,dB h2)] [(76,bC m kb nb sb ab),(84,bC m kb nb sb ab),(93,bC m kb nb sb ab)]) 0 true rs6 F { tm:=tmF7 es++[(12,dL vs []),(13,dL js []),(14,dI (↑i:Int))],ob:=B }=(brT (decide ((↑i:Int)<(↑(List.length es):Int))) (Ow ((0:Int)<=(↑i:Int)/\es[Int.toNat (↑i:Int)]? = some C) (Ow (FK 19 [dL js [],dS m] (dB h1)) (brT h1 (Ow ((0:Int)<=(↑i:Int)/\es[Int.toNat (↑i:Int)]? = some C) (Ow (FK 19 [dL vs [],dS m] (dB h2)) (brT (!h2) (Ow ((0:Int)<=(↑i:Int)/\es[Int.toNat (↑i:Int)]? = some C) (Ow (Zd 5 [C]/\List.length row+1<=1073741824) (I8 E (Jm F { tm:=A,ob:=[(0,oC (tC k n s a)),(1,oC (tC kv nv sv av)),(2,oR true 5 45 (row++[C]))] })))) (I8 E (Jm F { tm:=A,ob:=B }))))) (I8 E (Jm F { tm:=A,ob:=B }))))) (Jm (frg sc6 9) { tm:=[(1,dL es []),(3,dP 0 0),(10,dP 1 0),(11,dV 2)],ob:=B }):Tr):=by intro A B C E F;kernel_rfl
theorem Zno (k n:Int) (s:LU) (a es:LD) (kv nv:Int) (sv:LU) (av row cs:LD) (ok:Bool):gH (mCtr [(101,D.tuple [dL cs [],dB ok])]) 0 true rs6 (frg sc6 9) { tm:=tmF7 es,ob:=[(0,oC (tC k n s a)),(1,oC (tC kv nv sv av)),(2,oR true 5 45 row)] }=(Ow (FK 12 [dA (tC k n s a),dA (tC kv nv sv av),dL row []] (D.tuple [dL cs [],dB ok])) (Jm (frg sc6 10) { tm:=[(1,dL es []),(3,dP 0 0),(10,dP 1 0),(15,dL cs []),(16,dB ok)],ob:=(obV k n s a kv nv sv av) }):Tr):=by kernel_rfl
theorem ZhS (k n:Int) (s:LU) (a es:LD) (kv nv:Int) (sv:LU) (av cs:LD) (ok ex:Bool):let A:=obV k n s a kv nv sv av;let B:=Rt (dB false) [];let C:=(1,dL es []);let E:=(10,dP 1 0);gH (mCtr [(109,dB ex)]) 0 true rs6 (frg sc6 10) { tm:=[C,(3,dP 0 0),E,(15,dL cs []),(16,dB ok)],ob:=A }=(brT (!ok) B (Ow (FK 14 [dL es [],dL cs []] (dB ex)) (brT (!ex) B (Jm (frg sc6 11) { tm:=[C,(3,dP 0 0),E],ob:=A }))):Tr):=by intro A B C E;kernel_rfl
theorem ZhR (k n:Int) (s:LU) (a es:LD) (kv nv:Int) (sv:LU) (av ds:LD) (ok:Bool):gH (mCtr [(116,D.tuple [dL ds [],dB ok])]) 0 true rs6 (frg sc6 11) { tm:=[(1,dL es []),(3,dP 0 0),(10,dP 1 0)],ob:=(obV k n s a kv nv sv av) }=(Ow (FK 12 [dA (tC k n s a),dA (tC kv nv sv av),dL es []] (D.tuple [dL ds [],dB ok])) (Jm (frg sc6 12) { tm:=[(1,dL es []),(17,dL ds []),(18,dB ok)],ob:=[] }):Tr):=by kernel_rfl
theorem ZhQ (es ds:LD) (ok b:Bool):gH (mCtr [(123,dB b)]) 0 true rs6 (frg sc6 12) { tm:=[(1,dL es []),(17,dL ds []),(18,dB ok)],ob:=[] }=(brT ok (Ow (FK 11 [dL ds [],dL es []] (dB b)) (Rt (dB b) [])) (Rt (dB false) []):Tr):=by kernel_rfl
end Go.Proofs.YtobgkdlghljdlaaGreatDoor
