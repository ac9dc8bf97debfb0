/- Own work: a layer over the kit: plain data,a walk over it,its soundness. -/
import Derived.Test.YtobgkdlghljdlaaGreatDoorMtE
import Derived.Test.YtobgkdlghljdlaaGreatDoorSx8
import Derived.Test.YtobgkdlghljdlaaGreatDoorArXpE
import Derived.Test.YtobgkdlghljdlaaGreatDoorArOpB
import Derived.Test.YtobgkdlghljdlaaGreatDoorSx11
set_option linter.unusedSectionVars false
set_option linter.unusedVariables false
set_option linter.unusedSimpArgs false
set_option linter.deprecated false
set_option maxRecDepth 100000
/- The law of bindings: trees. -/
namespace Go.Proofs.YtobgkdlghljdlaaGreatDoor
open Go.Sx
abbrev obV (k n:Int) (s:LU) (a:LD) (kv nv:Int) (sv:LU) (av:LD):Obs:=[(0,.cells (tC k n s a)),(1,.cells (tC kv nv sv av))]
abbrev tmV (es:LD) (nm:LU):List (Nat × D):=[(2,.slice es []),(3,.str nm),(4,.ptr 0 0),(5,.ptr 1 0)]
abbrev tmT:List (Nat × D):=[(4,.ptr 0 0),(5,.ptr 1 0)]
end Go.Proofs.YtobgkdlghljdlaaGreatDoor
/- The law of bindings,but for what is awake. -/
namespace Go.Proofs.YtobgkdlghljdlaaGreatDoor
open Go.Sx
theorem Zns (b:List Bd) (hl:b.length<=281474976710656) (hw: ∀ x∈b,x.v.wf 281474976710656): ∀ (m i:Nat) (nn:Int),b.length-i=m->i<=b.length->0<=nn →
  At Tryz.prog 0 (cut sc8 0) (hdSm (bdL b) nn i) (FinQ true 0 rs8 fun r _=>r= .bool (decide (smB (b.drop i) nn<=150))):=by
 intro m
 induction m with
 | zero =>
  intro i nn hm hi h0
  refine At.tree Z5 (Z5M (bdL b) nn i [] 0 0 [] [] 0) ?_
  rw[List.drop_eq_nil_of_le (by omega)]
  simp only[SS,Q6,smB]
  exact⟨fun h=>by omega,fun _=>by first | rfl | trivial⟩
 | succ m ih =>
  intro i nn hm hi h0
  have h1:i<b.length:=by omega
  have hx:=QG h1
  have hc:=ZdQ b[i].v (hw _ (List.getElem_mem h1)) 150 (by decide) (by decide)
  have g1:=Z4S b[i].v 150
  have g2:=ZdR b[i].v 150 (by decide)
  have hI:=ih (i+1) (nn+b[i].v.sz 150) (by omega) (by omega) (by omega)
  have hD:smB (b.drop i) nn=if nn<=150 then smB (b.drop (i+1)) (nn+b[i].v.sz 150) else nn:=by rw[Za h1,smB]
  by_cases hn:nn<=150
  ·rw[if_pos hn] at hD
   rw[hD]
   generalize decide (smB (b.drop (i+1)) (nn+b[i].v.sz 150)<=150)=r at hI ⊢
   clear hD
   generalize b[i].v.sz 150=c at hc g1 g2 hI
   generalize b[i]=x at hx hc
   obtain⟨nm,⟨k,n,s,a⟩⟩:=x
   refine At.tree Z5 (Z5M (bdL b) nn i nm k n s (Tm.cellsL a) c) ?_
   simp only[SS,Q6]
   exact⟨fun _=>⟨fun _=>⟨⟨by omega,hx⟩,hc,by omega,by omega,hI⟩,fun h=>by omega⟩,fun h=>by omega⟩
  ·rw[if_neg hn] at hD
   rw[hD]
   refine At.tree Z5 (Z5M (bdL b) nn i [] 0 0 [] [] 0) ?_
   simp only[SS,Q6]
   exact⟨fun _=>⟨fun h=>by omega,fun _=>by first | rfl | trivial⟩,fun h=>by omega⟩
def smlB (b:List Bd) (l:List Tm):Bool:=decide (smB b (Tm.szL l 150 0)<=150)
theorem ZaX (b:List Bd) (l:List Tm) (hb:b.length<=281474976710656) (hw: ∀ x∈b,x.v.wf 281474976710656) (hl:l.length<=281474976710656) (hwl: ∀ x∈l,x.wf 281474976710656):FK 8 [.slice (bdL b) [],.slice (Tm.cellsL l) []] (.bool (smlB b l)):=by
 have h1:=Zct l hl (fun x hx=>ZdQ x (hwl x hx)) 150 (by decide)
 have h0:=Z1R l 150 0
 unfold smlB
 generalize Tm.szL l 150 0=c at h1 h0 ⊢
 refine FnOK.tree Z4 fp8 Z5 (ZmJ (bdL b) (Tm.cellsL l) c) ?_
 refine⟨h1, ?_⟩
 rw[Z9]
 exact Zns b hb hw _ 0 c rfl (Nat.zero_le _) h0
end Go.Proofs.YtobgkdlghljdlaaGreatDoor
/- MatchOrder,but for what is awake. -/
namespace Go.Proofs.YtobgkdlghljdlaaGreatDoor
open Go.Sx
theorem Zbt (n m:Int) (hm:0<m/\m<=1000000000): ∃ k:Nat,(k:Int)<m/\FK 9 [.int .i64 n,.int .i64 m] (.int .i64 k):=by
 have h1:=Int.tmod_lt_of_pos n hm.1
 have h2: -m<n.tmod m:=Int.neg_lt_of_neg_lt (by have:=Int.tmod_lt_of_pos (-n) hm.1; rw[Int.neg_tmod] at this; omega)
 refine⟨(if n.tmod m<0 then n.tmod m+m else n.tmod m).toNat,by split <;> omega, ?_⟩
 rw[show (((if n.tmod m<0 then n.tmod m+m else n.tmod m).toNat:Nat):Int)=(if n.tmod m<0 then n.tmod m+m else n.tmod m) from by split <;> omega]
 refine FnOK.tree Z4 fp9 Z5 (ZmV n m) ?_
 simp only[SS]
 exact⟨fun h=>by omega,fun _=>⟨by omega,fun h=>⟨by omega,by rw[if_pos h]⟩,fun h=>by rw[if_neg h]⟩⟩
theorem ZiX (x:Bd) (hx:x.v.wf 281474976710656):FK 36 [.agg x.c,.agg x.c] (.bool true):=by
 have h:=ZiZ x.v x.v hx hx
 unfold SaP at h
 rw[Z4w.2 rfl] at h
 obtain⟨m,⟨k,n,s,a⟩⟩:=x
 refine FnOK.tree Z4 fp36 Z5 (ZhD m k n s (Tm.cellsL a) m k n s (Tm.cellsL a) true) ?_
 simp only[SS]
 exact⟨h,fun h2=>absurd trivial h2⟩
theorem ZiY (l:List Bd) (hl:l.length<=1000000) (hw: ∀ x∈l,x.v.wf 281474976710656): ∀ (m i:Nat),l.length-i=m->i<=l.length →
  At Tryz.prog 0 (cut sc11 0) (hdSb (bdL l) (bdL l) i) (FinQ true 0 rs11 fun r _=>r= .bool true):=by
 intro m
 induction m with
 | zero =>
  intro i hm hi
  refine At.tree Z5 (Zat (bdL l) (bdL l) i [] 0 0 [] [] [] 0 0 [] [] true) ?_
  simp only[SS,Q6]
  exact⟨fun h=>by omega,fun _=>by first | trivial | rfl⟩
 | succ m ih =>
  intro i hm hi
  have h1:i<l.length:=by omega
  have hx:=QG h1
  have hC:=ZiX l[i] (hw _ (List.getElem_mem h1))
  have hI:=ih (i+1) (by omega) (by omega)
  generalize l[i]=x at hx hC
  obtain⟨m,⟨k,n,s,a⟩⟩:=x
  refine At.tree Z5 (Zat (bdL l) (bdL l) i m k n s (Tm.cellsL a) m k n s (Tm.cellsL a) true) ?_
  simp only[SS,Q6]
  exact⟨fun _=>⟨⟨by omega,hx⟩,⟨by omega,hx⟩,hC,fun h=>(by cases h),by omega,hI⟩,fun h=>by omega⟩
theorem ZcC (l:List Bd) (hl:l.length<=1000000) (hw: ∀ x∈l,x.v.wf 281474976710656):FK 11 [.slice (bdL l) [],.slice (bdL l) []] (.bool true):=by
 refine FnOK.tree Z4 fp11 Z5 (ZmU (bdL l) (bdL l)) ?_
 simp only[SS]
 first | exact ZiY l hl hw _ 0 rfl (Nat.zero_le _) | exact⟨fun h=>absurd trivial h,ZiY l hl hw _ 0 rfl (Nat.zero_le _)⟩
theorem Zii {b:List Bd} {l:List Tm} (hl: ∀ x∈l,x.wf 281474976710656) (hb: ∀ x∈b,x.wf 281474976710656) (hB:b.length<=150) (h:smlB b l=true):(∀ x∈l,TmB x)/\Tm.cntL l<=150/\l.length<=150/\BdB b:=by
 have h:=of_decide_eq_true h
 obtain⟨h1,h2⟩:=Zcx b _ (Z1R l 150 0) h
 have h3:=Z4T (N:=1000) l 150 0 (by decide) h1
 have hf:=ZL.1 h3.1
 have hd:=Z1S l 150 0 h1
 have hc:=Z4U l 150 0 h1
 refine⟨fun x hx=>⟨hl x hx,hf x hx, ?_⟩,by omega,by omega,⟨by omega,hb,fun x hx=>⟨(hb x hx).2,Zcu x.v 150 (by decide) (h2 x hx), ?_⟩⟩⟩
 ·have:=Z0I hx
  omega
 ·have:=Z5Y x.v 150 (h2 x hx)
  omega
theorem Z3R (a b:List Tm):Tm.cntL (a++b)=Tm.cntL a+Tm.cntL b:=by
 induction a with
 | nil=>simp[Tm.cntL]
 | cons x r ih=>simp only[List.cons_append,Tm.cntL,ih]; omega
theorem Z38 (a:List Tm) (k:Nat):(Tm.cellsL a).drop k=Tm.cellsL (a.drop k):=by simp[Zp]
theorem Z36 (a:List Tm) (k:Nat):(Tm.cellsL a).take k=Tm.cellsL (a.take k):=by simp[Zp]
theorem Zke {p v:List Tm} {b c:List Bd} (hp: ∀ x∈p,TmB x) (hv: ∀ x∈v,TmB x) (hb:BdB b) (h:lstB p v b=some c):(∀ x∈c,x.v.wf 281474976710656/\TmB x.v)/\c.length<=b.length+Tm.cntL p:=by
 unfold lstB at h
 split at h
 ·split at h
  ·rename_i q hq
   split at h
   ·cases h
    obtain⟨w,h1,h2,h3⟩:=Z5d hq
    obtain⟨q1,q2⟩:=Z1F QW QW p v w hp hv h1
    have q3:=Z1G p v w h1
    obtain⟨q4,q5⟩:=Z1N h2
    refine⟨fun x hx=> ?_,by omega⟩
    rcases q5 x hx with hx | hx
    ·exact⟨(hb.tm x hx).1,hb.tm x hx⟩
    ·have:=q1 _ hx
     exact⟨this.1,this⟩
   ·cases h
  ·cases h
 ·cases h
def AtO (i:Nat) (s:St):Prop:=At Tryz.prog 0 (frg sc3 i) s (FinQ true 0 rs3 fun r _=>r= .bool true)
theorem Zkf (ps qs:LU) (a c a' c':List Tm) (b:List Bd) (ha: ∀ x∈a,TmB x) (hc: ∀ x∈c,TmB x) (ha': ∀ x∈a',TmB x) (hc': ∀ x∈c',TmB x) (la:a.length<=150) (lc:c.length<=150) (la':a'.length<=150) (lc':c'.length<=150) (na:Tm.cntL a<=150) (na':Tm.cntL a'<=150) (hb:BdB b) (hB:b.length<=150)
  (he:lstB a' c' b=lstB a c b):AtO 6 ⟨Zia (bdL b),Zk2 ps (Tm.cellsL a) qs (Tm.cellsL c) (Tm.cellsL a') (Tm.cellsL c')⟩:=by
 have h1:=Z6p ps qs a c b ha hc (by omega) (by omega) (by omega) hb
 have h2:=Z6p ps qs a' c' b ha' hc' (by omega) (by omega) (by omega) hb
 have e:mtaB ps qs a' c' b=mtaB ps qs a c b:=by unfold mtaB; rw[he]
 rw[e] at h2
 have hS: ∀ x,mtaB ps qs a c b=some x->FK 11 [.slice (bdL x) [],.slice (bdL x) []] (.bool true):=fun x hx=>by
  unfold mtaB at hx
  split at hx
  ·obtain⟨w1,w2⟩:=Zke ha hc hb hx
   exact ZcC x (by omega) fun y hy=>(w1 y hy).1
  ·cases hx
 cases hq:mtaB ps qs a c b with
 | some x =>
  rw[hq] at h1 h2
  have h3:=hS x hq
  refine At.tree Z5 (Zdn ps (Tm.cellsL a) qs (Tm.cellsL c) (bdL b) (Tm.cellsL a') (Tm.cellsL c') (bdL x) true) ?_
  refine⟨h1, ?_⟩
  rw[Z9]
  refine At.tree Z5 (Zdm ps qs (bdL b) (Tm.cellsL a') (Tm.cellsL c') (bdL x) true (bdL x) true) ?_
  refine⟨h2, ?_⟩
  rw[Z9]
  refine At.tree Z5 (Zdl (bdL x) true (bdL x) true true) ?_
  exact⟨h3,rfl⟩
 | none =>
  rw[hq] at h1 h2
  have h3:=ZcC [] (by decide) (fun x hx=>by cases hx)
  refine At.tree Z5 (Zdn ps (Tm.cellsL a) qs (Tm.cellsL c) (bdL b) (Tm.cellsL a') (Tm.cellsL c') [] false) ?_
  refine⟨h1, ?_⟩
  rw[Z9]
  refine At.tree Z5 (Zdm ps qs (bdL b) (Tm.cellsL a') (Tm.cellsL c') [] false [] false) ?_
  refine⟨h2, ?_⟩
  rw[Z9]
  refine At.tree Z5 (Zdl [] false [] false true) ?_
  exact⟨h3,rfl⟩
theorem QH (l:List Tm):Zc 4 (Tm.cellsL l):=Z1t l
theorem Zbo (hw:FK 7 [] (.bool true)) (ps qs:LU) (a c:List Tm) (b:List Bd) (turn:Int) (ha: ∀ x∈a,x.wf 281474976710656) (hc: ∀ x∈c,x.wf 281474976710656) (la:a.length<=500000000) (lc:c.length<=500000000) (hbw: ∀ x∈b,x.wf 281474976710656) (hbl:b.length<=281474976710656) :
  FK 3 [atD ps a,atD qs c,.slice (bdL b) [],.int .i64 turn] (.bool true):=by
 have hac: ∀ x∈a++c,x.wf 281474976710656:=fun x hx=>(List.mem_append.1 hx).elim (ha x) (hc x)
 have hs:=ZaX b (a++c) hbl (fun x hx=>(hbw x hx).2) (by rw[List.length_append]; omega) hac
 have hbe:=Q6 b
 have e0:Tm.cellsL (a++c)=[]++Tm.cellsL a++Tm.cellsL c:=by rw[ZH]; rfl
 rw[e0] at hs
 refine FnOK.tree Z4 fp3 Z5 (ZoR ps (Tm.cellsL a) qs (Tm.cellsL c) (bdL b) turn) ?_
 rw[Z9]
 refine At.tree Z5 (Zn1 ps (Tm.cellsL a) qs (Tm.cellsL c) (bdL b) turn) ?_
 refine⟨hw, ?_⟩
 rw[Z9]
 have h2:smlB b (a++c)=true->b.length<=150->a.length=c.length->a.length≠0->AtO 2 ⟨tmAt (bdL b) turn,obAt ps (Tm.cellsL a) qs (Tm.cellsL c)⟩:=fun e hB hl h0=>by
  obtain⟨s1,s2,s3,s4⟩:=Zii hac hbw hB e
  rw[Z3R] at s2
  rw[List.length_append] at s3
  obtain⟨k,hk,hP⟩:=Zbt turn a.length (by omega)
  have hA: ∀ x∈a,TmB x:=fun x hx=>s1 x (List.mem_append_left _ hx)
  have hC: ∀ x∈c,TmB x:=fun x hx=>s1 x (List.mem_append_right _ hx)
  have hA': ∀ x∈a.drop k++a.take k,TmB x:=fun x hx=>(List.mem_append.1 hx).elim (fun h=>hA x (List.mem_of_mem_drop h)) fun h=>hA x (List.mem_of_mem_take h)
  have hC': ∀ x∈c.drop k++c.take k,TmB x:=fun x hx=>(List.mem_append.1 hx).elim (fun h=>hC x (List.mem_of_mem_drop h)) fun h=>hC x (List.mem_of_mem_take h)
  have hn:Tm.cntL (a.drop k++a.take k)=Tm.cntL a:=by
   rw[Z3R,Nat.add_comm,<- Z3R,List.take_append_drop]
  have h6:=Zkf ps qs a c (a.drop k++a.take k) (c.drop k++c.take k) b hA hC hA' hC' (by omega) (by omega) (by rw[List.length_append,List.length_drop,List.length_take]; omega) (by rw[List.length_append,List.length_drop,List.length_take]; omega) (by omega) (by omega) s4 hB (ZfC a c b k hl)
  have l1:=Z1 a
  have l2:=Z1 c
  rw[<- l1] at hP
  refine At.tree Z5 (ZmZ ps (Tm.cellsL a) qs (Tm.cellsL c) (bdL b) turn k) ?_
  refine⟨hP, ?_⟩
  rw[Z9]
  refine At.tree Z5 (ZmY ps (Tm.cellsL a) qs (Tm.cellsL c) (bdL b) k) ?_
  rw[Z9]
  refine At.tree Z5 (ZmX ps (Tm.cellsL a) qs (Tm.cellsL c) (bdL b) k (Tm.cellsL (a.drop k)) [] (Tm.cellsL (a.take k)) (Tm.cellsL (a.drop k))) ?_
  rw[List.append_nil,Int.toNat_natCast,Int.toNat_natCast,List.take_length,List.drop_length,List.drop_zero,Z36,Z38,List.nil_append]
  refine⟨⟨QH a,by omega,by omega,by omega⟩,⟨rfl,rfl⟩,⟨QH _,by rw[Z1,List.length_drop]; omega⟩,⟨QH a,by omega,by omega,by omega⟩,⟨rfl,rfl⟩,⟨QH _,by rw[Z1,Z1,List.length_drop,List.length_take]; omega⟩, ?_⟩
  rw[Z9,<- ZH]
  refine At.tree Z5 (ZmW ps (Tm.cellsL a) qs (Tm.cellsL c) (bdL b) (Tm.cellsL (a.drop k++a.take k)) k (Tm.cellsL (c.drop k)) [] (Tm.cellsL (c.take k)) (Tm.cellsL (c.drop k))) ?_
  rw[List.append_nil,Int.toNat_natCast,Int.toNat_natCast,List.take_length,List.drop_length,List.drop_zero,Z36,Z38,List.nil_append]
  refine⟨⟨QH c,by omega,by omega,by omega⟩,⟨rfl,rfl⟩,⟨QH _,by rw[Z1,List.length_drop]; omega⟩,⟨QH c,by omega,by omega,by omega⟩,⟨rfl,rfl⟩,⟨QH _,by rw[Z1,Z1,List.length_drop,List.length_take]; omega⟩, ?_⟩
  rw[Z9,<- ZH]
  exact h6
 generalize smlB b (a++c)=sm at hs h2
 refine At.tree Z5 (Zn0 ps (Tm.cellsL a) qs (Tm.cellsL c) (bdL b) turn sm) ?_
 refine⟨⟨QH a,by rw[Z1]; omega⟩,⟨QH c,by rw[List.nil_append,Z1,Z1]; omega⟩,hs, ?_⟩
 cases sm
 ·rfl
 ·simp only[SS,hbe,Z1]
  refine⟨fun h=>(by first | trivial | cases h),fun _=>trivial,fun h=>⟨fun _=>trivial,fun hl=>⟨fun _=>trivial,fun h0=> ?_⟩⟩⟩
  exact h2 rfl (by omega) (by omega) (by omega)
end Go.Proofs.YtobgkdlghljdlaaGreatDoor
/- What awake calls: the table. -/
namespace Go.Proofs.YtobgkdlghljdlaaGreatDoor
open Go.Sx
set_option maxRecDepth 100000
def Zoz:List D->Option Tm
 | [.int .u8 k,.int .i64 n,.str s,.slice [] []]=>if 0<=k then some (.mk k.toNat n s []) else none
 | _=>none
def Zln:LD->Option (List Tm)
 | []=>some []
 | e::r=>match Zoz e,Zln r with
  | some t,some l=>some (t::l)
  | _,_=>none
def ZcI:LD->Option (List (List Tm))
 | []=>some []
 | [.slice es []]::r=>match Zln es,ZcI r with
  | some l,some L=>some (l::L)
  | _,_=>none
 | _=>none
def resO:List Int->Option (List Int)
 | []=>some []
 | [n]=>some [n]
 | [a,b,c]=>if a=2/\b=4/\c=6 then some [2,4,6] else none
 | _=>none
def accO (s:LU) (L:List (List Tm)):List Int:=(Zb (opB s) (L.map Zd) 0 (List.replicate L.length 0,[])).2
def opF (f:FuncId) (xs:List D):Option D:=if f=88 then (match xs with
 | [.str s,.slice es ext]=>(match ZcI es with
  | some L=>if L.length<=1000/\(L.all fun l=>decide (l.length<=1000))=true/\(accO s L).length<=1000 then (match resO (accO s L) with
   | some res=>some (.own 4 35 (numC res))
   | none=>none) else none
  | none=>none)
 | _=>none) else libF f xs
abbrev nT (n:Int):List D:=[.int .u8 1,.int .i64 n,.str [],.slice [] []]
abbrev aT:List D:=[.int .u8 2,.int .i64 0,.str [97],.slice [] []]
abbrev oT (o:LU) (a b:List D):List D:=[.int .u8 5,.int .i64 0,.str o,.slice [a,b] []]
abbrev fT (a b:List D):List D:=[.int .u8 4,.int .i64 0,.str [102],.slice [a,b] []]
abbrev rT (a b:List D):List D:=[.int .u8 6,.int .i64 0,.str [],.slice [a,b] []]
abbrev bigT:List D:=fT (rT (nT 1) (nT 2)) (oT [42] (rT (nT 1) (nT 3)) (nT 2))
abbrev sixT:LD:=[fT (nT 1) (nT 2),fT (nT 1) (nT 4),fT (nT 1) (nT 6),fT (nT 2) (nT 2),fT (nT 2) (nT 4),fT (nT 2) (nT 6)]
abbrev f1T:List D:=fT (oT [45] (oT [42] (nT 2) (nT 3)) (nT 1)) aT
abbrev noT:D:= .tuple [.agg [.int .u8 0,.int .i64 0,.str [],.slice [] []],.bool false]
end Go.Proofs.YtobgkdlghljdlaaGreatDoor
/- Terms that awake reads. -/
namespace Go.Proofs.YtobgkdlghljdlaaGreatDoor
open Go.Sx
abbrev vT (s:LU):List D:=[.int .u8 3,.int .i64 0,.str s,.slice [] []]
abbrev xT:List D:=vT [88]
abbrev yT:List D:=vT [89]
abbrev gT (a:List D):List D:=[.int .u8 4,.int .i64 0,.str [103],.slice [a] []]
end Go.Proofs.YtobgkdlghljdlaaGreatDoor
