/- Own work: a layer over the kit: plain data,a walk over it,its soundness. -/
import Derived.Test.YtobgkdlghljdlaaGreatDoorSame
import Derived.Test.YtobgkdlghljdlaaGreatDoorSx8
set_option linter.unusedSectionVars false
set_option linter.unusedVariables false
set_option linter.unusedSimpArgs false
set_option linter.deprecated false
set_option maxRecDepth 100000
/- Bindings: valid,find,get,copied. -/
namespace Go.Proofs.YtobgkdlghljdlaaGreatDoor
open Go.Sx
theorem Qb (a b:List Tm):Tm.cellsL (a++b)=Tm.cellsL a++Tm.cellsL b:=by simp[Zs]
theorem Zlr (a b:LU):(Op.bytesLess a b || decide (a=b))= !decide (b<a):=by
 rw[blt,Bool.eq_iff_iff]
 simp only[Bool.or_eq_true,decide_eq_true_eq,Bool.not_eq_true',decide_eq_false_iff_not]
 constructor
 ·rintro (h | rfl)
  ·exact fun h2=>Z32 a (List.lt_trans h h2)
  ·exact Z32 a
 ·intro h
  by_cases e:a=b
  ·exact .inr e
  ·exact .inl (Zcj (List.not_lt.1 h) e)
def prvB (l:List Bd):Nat->Option (LU)
 | 0=>none
 | i+1=>(l[i]?).map Bd.n
theorem Zli (l:List Bd) (hl:l.length<=1000000) (hw: ∀ x∈l,x.wf 281474976710656) (hd: ∀ x∈l,x.v.depth<=1000000000): ∀ (m i:Nat),l.length-i=m->i<=l.length →
  At Tryz.prog 0 (cut sc13 0) (hdVa (bdL l) l.length i) (FinQ true 0 rs13 fun r _=>r= .bool (okB (prvB l i) (l.drop i))):=by
 intro m
 induction m with
 | zero =>
  intro i hm hi
  refine At.tree Z5 (Z62 (bdL l) l.length i [] 0 0 [] [] [] 0 0 [] [] true true) ?_
  rw[List.drop_eq_nil_of_le (by omega)]
  simp only[SS]
  exact⟨fun h=>by omega,fun _=>rfl⟩
 | succ m ih =>
  intro i hm hi
  have h1:i<l.length:=by omega
  have hx:=Qj h1
  have hmx:=List.getElem_mem h1
  have hwx:=hw _ hmx
  have hv:=Z1T l[i].n (by have:=hwx.1; omega)
  have hu:=Z6b l[i].v hwx.2 (hd _ hmx)
  have hI:=ih (i+1) (by omega) (by omega)
  have hp:prvB l (i+1)=some l[i].n:=by simp[prvB,h1]
  rw[hp] at hI
  rw[Za h1]
  simp only[okB]
  have huv:(l[i].v.all Tm.plain && l[i].v.valid)=l[i].v.value:=rfl
  rw[huv] at hu
  cases i with
  | zero =>
   simp only[prvB]
   generalize Lx.variableB l[0].n=v at hv ⊢
   generalize Tm.value l[0].v=w at hu ⊢
   generalize l[0]=x at hx hv hu hI
   obtain⟨m',⟨k,n,s,a⟩⟩:=x
   refine At.tree Z5 (Z62 (bdL l) l.length 0 m' k n s (Tm.cellsL a) [] 0 0 [] [] v w) ?_
   simp only[SS]
   refine⟨fun _=>⟨⟨by omega,hx⟩,hv,fun h=>by rw[h]; rfl,fun h=>⟨hu,fun h2=>by rw[h,h2]; rfl,fun h2=>⟨fun h3=>by omega,fun _=>⟨by omega, ?_⟩⟩⟩⟩,fun h=>by omega⟩
   rw[h,h2]; exact hI
  | succ j =>
   have h2:j<l.length:=by omega
   have hy:=Qj h2
   have hq:prvB l (j+1)=some l[j].n:=by simp[prvB,h2]
   rw[hq]
   simp only
   have ej:(((j+1:Nat):Int)-1).toNat=j:=by omega
   generalize Lx.variableB l[j+1].n=v at hv ⊢
   generalize Tm.value l[j+1].v=w at hu ⊢
   generalize l[j+1]=x at hx hv hu hI
   generalize l[j]=y at hy
   obtain⟨m',⟨k,n,s,a⟩⟩:=x
   obtain⟨m2,⟨k2,n2,s2,a2⟩⟩:=y
   refine At.tree Z5 (Z62 (bdL l) l.length (j+1) m' k n s (Tm.cellsL a) m2 k2 n2 s2 (Tm.cellsL a2) v w) ?_
   rw[Zlr]
   simp only[SS,ej]
   refine⟨fun _=>⟨⟨by omega,hx⟩,hv,fun h=>by rw[h]; rfl,fun h=>⟨hu,fun h2=>by rw[h,h2]; rfl,fun h2=>⟨fun _=>⟨by omega,⟨by omega,hy⟩,fun h3=> ?_,fun h3=>⟨by omega, ?_⟩⟩,fun h3=>by omega⟩⟩⟩,fun h=>by omega⟩
   ·rw[h,h2,decide_eq_false h3]; rfl
   ·rw[h,h2,decide_eq_true h3]; exact hI
theorem Z6G (l:List Bd) (hl:l.length<=1000000) (hw: ∀ x∈l,x.wf 281474976710656) (hd: ∀ x∈l,x.v.depth<=1000000000):FK 13 [.slice (bdL l) []] (.bool (ZT l)):=by
 refine FnOK.tree Z4 fp13 Z5 (ZnZ (bdL l)) ?_
 rw[Z8,ZQ]
 exact Zli l hl hw hd _ 0 rfl (Nat.zero_le _)
theorem half (i j:Nat) (h:i+j<9223372036854775808):shI false IntKind.u64 (IntKind.u64.wrap ((i:Int)+(j:Int))) 1=(((i+j) / 2:Nat):Int):=by
 have e:IntKind.u64.wrap ((i:Int)+(j:Int))=(i:Int)+(j:Int):=by
  rw[IntKind.wrap_u64]; omega
 rw[e]
 unfold shI
 have e2:(min (1:Int).toNat IntKind.u64.bits)=1:=rfl
 rw[e2]
 simp only[Bool.false_eq_true,if_false]
 rw[Int.fdiv_eq_ediv_of_nonneg _ (by decide)]
 omega
theorem Zn8 (a b:LU):decide (Lib.compareBytes a b<0)=decide (a<b):=by
 rw[Z4T,blt]
 by_cases h:a<b
 ·simp[h]
 ·simp only[h,decide_false,Bool.false_eq_true,if_false]
  split <;> decide
theorem ZhD (a b:LU):decide (Lib.compareBytes a b=0)=decide (a=b):=by
 rw[Bool.eq_iff_iff,decide_eq_true_eq,decide_eq_true_eq,Z44]
theorem ZdY (x:Bd) (t:LU):CF 112 [.agg x.c,.str t] [] fun r ob=>r= .int .i64 (Lib.compareBytes x.n t)/\ob=[]:=by
 have hc:FK 96 [.str x.n,.str t] (.int .i64 (Lib.compareBytes x.n t)):=by
  have:=Z1 96 [.str x.n,.str t] _ rfl
  exact this trivial
 obtain⟨m,⟨k,n,s,a⟩⟩:=x
 refine CallL.tree Z4 Zmj Z5 (Zo5 m k n s (Tm.cellsL a) t (Lib.compareBytes m t)) ?_
 exact⟨hc,rfl,rfl⟩
def fndD (l:List Bd) (t:LU):D:= .tuple [.int .i64 (posB l t),.bool (getB l t).isSome]
theorem Zq7 (l:List Bd) (t:LU) (hl:l.length<=1000000) (hs:srtB l): ∀ (m i j:Nat),j-i<=m->i<=posB l t->posB l t<=j->j<=l.length →
  At Tryz.prog 0 (cut Z5f 0) (hdBs (bdL l) t l.length i j) (FinQ false 0 Z7O fun r ob=>r=fndD l t/\ob=[]):=by
 have hend: ∀ i j:Nat,i=posB l t->j=posB l t->posB l t<=l.length->At Tryz.prog 0 (cut Z5f 0) (hdBs (bdL l) t l.length i j) (FinQ false 0 Z7O fun r ob=>r=fndD l t/\ob=[]):=fun i j hi hj hp=>by
  subst hj
  have hg:=Z1a (s:=t) hs
  by_cases hlt:posB l t<l.length
  ·have hx:=Qj hlt
   have hc:=ZdY l[posB l t] t
   rw[List.getElem?_eq_getElem hlt] at hg
   simp only at hg
   have hf:(getB l t).isSome=decide (l[posB l t].n=t):=by
    rw[hg]
    by_cases e:l[posB l t].n=t
    ·rw[if_pos e]; simp[e]
    ·rw[if_neg e]; simp[e]
   unfold fndD
   rw[hf,<- ZhD]
   generalize Lib.compareBytes l[posB l t].n t=c at hc ⊢
   generalize l[posB l t]=x at hx hc
   obtain⟨m,⟨k,n,s,a⟩⟩:=x
   refine At.tree Z5 (Z66 (bdL l) t l.length i (posB l t) m k n s (Tm.cellsL a) c) ?_
   subst hi
   simp only[SS]
   exact⟨fun h=>by omega,fun _=>⟨fun _=>⟨⟨by omega,hx⟩,hc⟩,fun h=>by omega⟩⟩
  ·have e0:l[posB l t]? = none:=List.getElem?_eq_none (by omega)
   rw[e0] at hg
   have hf:(getB l t).isSome=false:=by rw[hg]; rfl
   unfold fndD
   rw[hf]
   refine At.tree Z5 (Z66 (bdL l) t l.length i (posB l t) [] 0 0 [] [] 0) ?_
   subst hi
   simp only[SS]
   exact⟨fun h=>by omega,fun _=>⟨fun h=>by omega,fun _=>by first | rfl | trivial⟩⟩
 intro m
 induction m with
 | zero=>intro i j hm hi hj hjl; exact hend i j (by omega) (by omega) (by omega)
 | succ m ih =>
  intro i j hm hi hj hjl
  by_cases hij:i<j
  ·obtain⟨h,hh⟩: ∃ h,h=(i+j) / 2:=⟨_,rfl⟩
   have hhl:h<l.length:=by omega
   have hx:=Qj hhl
   have hc:=ZdY l[h] t
   have hiff:=Z6x (s:=t) hs h hhl
   have hneg:=Zn8 l[h].n t
   have hI1:=ih (h+1) j
   have hI2:=ih i h
   have hhf:=half i j (by omega)
   rw[<- hh] at hhf
   generalize Lib.compareBytes l[h].n t=c at hc hneg
   have hdec:decide (c<0)=decide (h<posB l t):=by
    rw[hneg,Bool.eq_iff_iff,decide_eq_true_eq,decide_eq_true_eq]; exact hiff
   clear hneg hiff
   generalize l[h]=x at hx hc
   obtain⟨m',⟨k,n,s,a⟩⟩:=x
   refine At.tree Z5 (Z66 (bdL l) t l.length i j m' k n s (Tm.cellsL a) c) ?_
   rw[hhf,hdec]
   simp only[SS]
   refine⟨fun _=>⟨by omega,by decide,by omega,⟨by omega,hx⟩,hc,fun h1=>⟨by omega, ?_⟩,fun h1=> ?_⟩,fun h=>by omega⟩
   ·exact hI1 (by omega) (by omega) hj hjl
   ·exact hI2 (by omega) hi (by omega) (by omega)
  ·exact hend i j (by omega) (by omega) (by omega)
theorem Zq6 (l:List Bd) (t:LU) (hl:l.length<=1000000) (hs:srtB l):CF 111 [.slice (bdL l) [],.str t,.func (.func 112) [] []] [] fun r ob=>r=fndD l t/\ob=[]:=by
 refine CallL.tree Z4 Zmk Z5 (Zo9 (bdL l) t) ?_
 rw[Z8,ZQ]
 exact Zq7 l t hl hs _ 0 l.length (Nat.le_refl _) (Nat.zero_le _) (Z5r l t) (Nat.le_refl _)
theorem Z3T (l:List Bd) (t:LU) (hl:l.length<=1000000) (hs:srtB l):FK 82 [.slice (bdL l) [],.str t] (fndD l t):=by
 refine FnOK.tree Z4 fp82 Z5 (Zo4 (bdL l) t (posB l t) (getB l t).isSome) ?_
 exact⟨Zq6 l t hl hs,rfl⟩
theorem Z8C (l:List Bd) (t:LU) (hl:l.length<=1000000) (hs:srtB l):CF 42 [.ptr 0 0,.str t] (obT (bdL l)) fun r ob=>r=opD (getB l t)/\ob=obT (bdL l):=by
 have hf:=Z3T l t hl hs
 unfold fndD at hf
 have hg:=Z1a (s:=t) hs
 by_cases hlt:posB l t<l.length
 ·have hx:=Qj hlt
  rw[List.getElem?_eq_getElem hlt] at hg
  simp only at hg
  by_cases e:l[posB l t].n=t
  ·rw[if_pos e] at hg
   rw[hg] at hf ⊢
   generalize l[posB l t]=x at hx
   obtain⟨m,⟨k,n,s,a⟩⟩:=x
   refine CallL.tree Z4 fp42 Z5 (Zbc (bdL l) t (posB l t) true m k n s (Tm.cellsL a)) ?_
   exact⟨hf,⟨by omega,by rw[Int.toNat_natCast]; exact hx⟩,rfl,rfl⟩
  ·rw[if_neg e] at hg
   rw[hg] at hf ⊢
   refine CallL.tree Z4 fp42 Z5 (Zbc (bdL l) t (posB l t) false [] 0 0 [] []) ?_
   exact⟨hf,rfl,rfl⟩
 ·have e0:l[posB l t]? = none:=List.getElem?_eq_none (by omega)
  rw[e0] at hg
  simp only at hg
  rw[hg] at hf ⊢
  refine CallL.tree Z4 fp42 Z5 (Zbc (bdL l) t (posB l t) false [] 0 0 [] []) ?_
  exact⟨hf,rfl,rfl⟩
def T0P (x:Tm):Prop:=CF 45 [f0,.agg x.cells] [] fun r ob=>r= .agg x.cells/\ob=[]
theorem ZoO (l:List Tm) (hl:l.length<=1000) (H: ∀ x∈l,T0P x): ∀ (m i:Nat),l.length-i=m->i<=l.length →
  At Tryz.prog 0 (cut sc85 0) (hdT0 (Tm.cellsL l) (Tm.cellsL (l.take i)) l.length i) (FinQ false 0 rs85 fun r ob=>r= .vec 0/\ob=[]++[(0,.arr true 4 35 (Tm.cellsL l))]):=by
 intro m
 induction m with
 | zero =>
  intro i hm hi
  refine At.tree Z5 (Zba (Tm.cellsL l) (Tm.cellsL (l.take i)) l.length i 0 0 [] [] 0 0 [] []) ?_
  rw[List.take_of_length_le (show l.length<=i by omega)]
  simp only[SS]
  exact⟨fun h=>by omega,fun _=>by first | rfl | exact⟨rfl,rfl⟩ | trivial⟩
 | succ m ih =>
  intro i hm hi
  have h1:i<l.length:=by omega
  have hx:=Zh h1
  have hC:=H _ (List.getElem_mem h1)
  have hI:=ih (i+1) (by omega) (by omega)
  have ht:Tm.cellsL (l.take (i+1))=Tm.cellsL (l.take i)++[l[i].cells]:=by
   rw[List.take_add_one,List.getElem?_eq_getElem h1,Qb]; rfl
  rw[ht] at hI
  unfold T0P at hC
  generalize l[i]=x at hx hC hI
  obtain⟨kx,nx,sx,ax⟩:=x
  refine At.tree Z5 (Zba (Tm.cellsL l) (Tm.cellsL (l.take i)) l.length i kx nx sx (Tm.cellsL ax) kx nx sx (Tm.cellsL ax)) ?_
  simp only[SS,Z3,List.length_take]
  exact⟨fun _=>⟨⟨by omega,hx⟩,hC,⟨by simp[Zd],by omega⟩,by omega,hI⟩,fun h=>by omega⟩
theorem Zq5 (x:Tm):CallL Tryz.prog f0 [.agg x.cells] [] fun r ob=>r=opD none/\ob=[]:=by
 obtain⟨k,n,s,a⟩:=x
 refine CallL.tree Z4 fp83 Z5 (Zo8 k n s (Tm.cellsL a)) ?_
 exact⟨rfl,rfl⟩
theorem Zjl: ∀ x:Tm,x.few 1000->T0P x
 | .mk k n s l,hx=>by
  simp only[Tm.few] at hx
  obtain⟨hl,hw⟩:=hx
  have hA:=ZoO l hl (fun x hx=>Zjl x (ZM.1 hw x hx)) _ 0 rfl (Nat.zero_le _)
  have hS:CF 85 [f0,.slice (Tm.cellsL l) []] [] fun r ob=>r= .slice (Tm.cellsL l) []/\ob=[]:=by
   refine CallL.vecR (ob0:=[]) (k:=0) (sz:=4) (e:=35) rfl ?_
   refine CallL.tree Z4 fp85 Z5 (Zo3 (Tm.cellsL l)) ?_
   rw[Z8,Z3]
   exact hA
  have h1:=Zq5 (.mk k n s l)
  refine CallL.tree Z4 fp45 Z5 (Zo0 k n s (Tm.cellsL l) (Tm.cellsL l) 0 0 [] [] false) ?_
  exact⟨h1,hS,rfl,rfl⟩
termination_by x=>SizeOf.sizeOf x
decreasing_by
 have:=List.sizeOf_lt_of_mem hx
 simp only[Tm.mk.sizeOf_spec]
 omega
theorem Z2c (x:Tm) (hx:x.few 1000):FK 43 [.agg x.cells] (.agg x.cells):=by
 have h:=Zjl x hx
 unfold T0P at h
 obtain⟨k,n,s,l⟩:=x
 refine FnOK.tree Z4 fp43 Z5 (Zo7 k n s (Tm.cellsL l) k n s (Tm.cellsL l)) ?_
 exact⟨h,rfl⟩
theorem Zq8 (l:List Bd) (hl:l.length<=1000000) (hs:srtB l) (x:Tm):CallL Tryz.prog fA [.agg x.cells] (obP (bdL l)) fun r ob=>r=opD (match x with | .mk k n s a=>if k=3 then getB l s else none)/\ob=obP (bdL l):=by
 obtain⟨k,n,s,a⟩:=x
 have hg:=Z8C l s hl hs
 have e3:((k:Int)=3)=(k=3):=propext (by omega)
 simp only
 by_cases h3:k=3
 ·rw[if_pos h3]
  cases hq:getB l s with
  | none =>
   rw[hq] at hg
   refine CallL.tree Z4 Z5I Z5 (Zbe (bdL l) k n s (Tm.cellsL a) 0 0 [] [] false) ?_
   simp only[SS,e3]
   exact⟨fun h=>absurd h3 h,fun _=>⟨hg,by first | rfl | exact⟨rfl,rfl⟩ | trivial⟩⟩
  | some v =>
   rw[hq] at hg
   obtain⟨kv,nv,sv,av⟩:=v
   refine CallL.tree Z4 Z5I Z5 (Zbe (bdL l) k n s (Tm.cellsL a) kv nv sv (Tm.cellsL av) true) ?_
   simp only[SS,e3]
   exact⟨fun h=>absurd h3 h,fun _=>⟨hg,by first | rfl | exact⟨rfl,rfl⟩ | trivial⟩⟩
 ·rw[if_neg h3]
  refine CallL.tree Z4 Z5I Z5 (Zbe (bdL l) k n s (Tm.cellsL a) 0 0 [] [] false) ?_
  simp only[SS,e3]
  exact⟨fun _=>by first | rfl | exact⟨rfl,rfl⟩ | trivial,fun h=>absurd h h3⟩
def TaP (b:List Bd) (x:Tm):Prop:=CF 45 [fA,.agg x.cells] (obP (bdL b)) fun r ob=>r= .agg (x.ap b).cells/\ob=obP (bdL b)
theorem ZoI (b:List Bd) (l:List Tm) (hl:l.length<=1000) (H: ∀ x∈l,TaP b x): ∀ (m i:Nat),l.length-i=m->i<=l.length →
  At Tryz.prog 2 (cut sc85 0) (hdTA (bdL b) (Tm.cellsL l) (Tm.cellsL ((l.take i).map (Tm.ap b))) l.length i) (FinQ false 2 rs85 fun r ob=>r= .vec 2/\ob=obP (bdL b)++[(2,.arr true 4 35 (Tm.cellsL (l.map (Tm.ap b))))]):=by
 intro m
 induction m with
 | zero =>
  intro i hm hi
  refine At.tree Z5 (Zb9 (bdL b) (Tm.cellsL l) (Tm.cellsL ((l.take i).map (Tm.ap b))) l.length i 0 0 [] [] 0 0 [] []) ?_
  rw[List.take_of_length_le (show l.length<=i by omega)]
  simp only[SS]
  exact⟨fun h=>by omega,fun _=>by first | rfl | exact⟨rfl,rfl⟩ | trivial⟩
 | succ m ih =>
  intro i hm hi
  have h1:i<l.length:=by omega
  have hx:=Zh h1
  have hC:=H _ (List.getElem_mem h1)
  have hI:=ih (i+1) (by omega) (by omega)
  have ht:Tm.cellsL ((l.take (i+1)).map (Tm.ap b))=Tm.cellsL ((l.take i).map (Tm.ap b))++[(l[i].ap b).cells]:=by
   rw[List.take_add_one,List.getElem?_eq_getElem h1,List.map_append,Qb]; rfl
  rw[ht] at hI
  unfold TaP at hC
  generalize Tm.ap b l[i]=y at hC hI
  generalize l[i]=x at hx hC
  obtain⟨kx,nx,sx,ax⟩:=x
  obtain⟨ky,ny,sy,ay⟩:=y
  refine At.tree Z5 (Zb9 (bdL b) (Tm.cellsL l) (Tm.cellsL ((l.take i).map (Tm.ap b))) l.length i kx nx sx (Tm.cellsL ax) ky ny sy (Tm.cellsL ay)) ?_
  simp only[SS,Z3,List.length_take,List.length_map]
  exact⟨fun _=>⟨⟨by omega,hx⟩,hC,⟨by simp[Zd],by omega⟩,by omega,hI⟩,fun h=>by omega⟩
theorem Zjk (b:List Bd) (hbl:b.length<=1000000) (hs:srtB b) (hb: ∀ x∈b,x.v.few 1000): ∀ x:Tm,x.few 1000->TaP b x
 | .mk k n s l,hx=>by
  simp only[Tm.few] at hx
  obtain⟨hl,hw⟩:=hx
  have hA:=ZoI b l hl (fun x hx=>Zjk b hbl hs hb x (ZM.1 hw x hx)) _ 0 rfl (Nat.zero_le _)
  have hS:CF 85 [fA,.slice (Tm.cellsL l) []] (obP (bdL b)) fun r ob=>r= .slice (Tm.cellsL (l.map (Tm.ap b))) []/\ob=obP (bdL b):=by
   refine CallL.vecR (ob0:=obP (bdL b)) (k:=2) (sz:=4) (e:=35) rfl ?_
   refine CallL.tree Z4 fp85 Z5 (Zo2 (bdL b) (Tm.cellsL l)) ?_
   rw[Z8,Z3]
   exact hA
  have h1:=Zq8 b hbl hs (.mk k n s l)
  unfold TaP
  rw[Tm.ap,Z2F,apK]
  have hno:(if k=3 then getB b s else none)=none->CF 45 [fA,.agg (Tm.mk k n s l).cells] (obP (bdL b)) fun r ob=>r= .agg (Tm.mk k n s (l.map (Tm.ap b))).cells/\ob=obP (bdL b):=fun h=>by
   simp only[h] at h1
   refine CallL.tree Z4 fp45 Z5 (Zej (bdL b) k n s (Tm.cellsL l) (Tm.cellsL (l.map (Tm.ap b))) 0 0 [] [] false) ?_
   exact⟨h1,hS,rfl,rfl⟩
  by_cases h3:k=3
  ·rw[if_pos h3]
   cases hq:getB b s with
   | none=>exact hno (by rw[if_pos h3]; exact hq)
   | some v =>
    simp only[if_pos h3,hq] at h1
    have hc:=Z2c v (hb _ (ZI hq))
    obtain⟨kv,nv,sv,av⟩:=v
    refine CallL.tree Z4 fp45 Z5 (Zej (bdL b) k n s (Tm.cellsL l) [] kv nv sv (Tm.cellsL av) true) ?_
    exact⟨h1,hc,rfl,rfl⟩
  ·rw[if_neg h3]
   exact hno (if_neg h3)
termination_by x=>SizeOf.sizeOf x
decreasing_by
 have:=List.sizeOf_lt_of_mem hx
 simp only[Tm.mk.sizeOf_spec]
 omega
theorem Zn9:ayQ.OK:=by
 intro d xs ob rt h
 unfold ayQ at h
 split at h
 ·split at h
  ·rename_i hf
   subst hf
   cases h
   intro _
   exact CallL.tree Z4 fp84 Z5 (Zoa _) ⟨rfl,rfl⟩
  ·cases h
 ·cases h
def vldB (b:List Bd):List Bd:=if ZT b=true then b else []
theorem Znb (b:List Bd) (hl:b.length<=1000000) (hw: ∀ x∈b,x.wf 281474976710656) (hd: ∀ x∈b,x.v.depth<=1000000000):CF 44 [.slice (bdL b) []] [] fun r ob=>r=fA/\ob=obP (bdL (vldB b)):=by
 have hv:=Z6G b hl hw hd
 unfold vldB
 generalize ZT b=v at hv ⊢
 refine CallL.tree Z4 fp44 (Zp Zn9) (Zob (bdL b) v) ?_
 cases v
 ·exact⟨hv,trivial,rfl,rfl⟩
 ·exact⟨hv,trivial,rfl,rfl⟩
theorem Z7y (b:List Bd):srtB (vldB b)/\(∀ x∈vldB b,x∈b)/\(vldB b).length<=b.length/\ ∀ x∈vldB b,x.v.value=true:=by
 unfold vldB
 by_cases h:ZT b=true
 ·rw[if_pos h]
  have:=Qo.1 h
  exact⟨this.1,fun x hx=>hx,Nat.le_refl _,fun x hx=>(this.2 x hx).2⟩
 ·rw[if_neg h]
  exact⟨List.Pairwise.nil,fun x hx=>(by cases hx),Nat.zero_le _,fun x hx=>(by cases hx)⟩
theorem Z09 (b:List Bd) (hl:b.length<=1000000) (hw: ∀ x∈b,x.wf 281474976710656) (hd: ∀ x∈b,x.v.depth<=1000000000) (hf: ∀ x∈b,x.v.few 1000) (x:Tm) (hx:x.few 1000):FK 20 [.agg x.cells,.slice (bdL b) []] (.agg (x.ap (vldB b)).cells):=by
 have h1:=Znb b hl hw hd
 obtain⟨p1,p2,p3,_⟩:=Z7y b
 have h2:=Zjk (vldB b) (by omega) p1 (fun y hy=>hf y (p2 y hy)) x hx
 unfold TaP at h2
 generalize x.ap (vldB b)=y at h2 ⊢
 obtain⟨k,n,s,a⟩:=x
 obtain⟨kv,nv,sv,av⟩:=y
 refine FnOK.tree Z4 fp20 (Zp (Zd5 _ _)) (Zoc (bdL b) (bdL (vldB b)) k n s (Tm.cellsL a) kv nv sv (Tm.cellsL av)) ?_
 exact⟨h1,h2,rfl⟩
theorem Zgy (b:List Bd) (hl:b.length<=1000000) (hw: ∀ x∈b,x.wf 281474976710656) (hd: ∀ x∈b,x.v.depth<=1000000000) (hf: ∀ x∈b,x.v.few 1000) (t:LU):FK 18 [.slice (bdL b) [],.str t] (opD (getV b t)):=by
 have hv:=Z6G b hl hw hd
 unfold getV
 by_cases h:ZT b=true
 ·rw[h] at hv
  rw[if_pos h]
  have hg:=Z8C b t hl (Qo.1 h).1
  cases hq:getB b t with
  | none =>
   rw[hq] at hg
   have hc:=Z2c (.mk 0 0 [] []) ⟨Nat.zero_le _,trivial⟩
   refine FnOK.tree Z4 fp18 Z5 (Zbb (bdL b) t true false 0 0 [] []) ?_
   exact⟨hv,hg,hc,rfl⟩
  | some v =>
   rw[hq] at hg
   have hc:=Z2c v (hf _ (ZI hq))
   obtain⟨kv,nv,sv,av⟩:=v
   refine FnOK.tree Z4 fp18 Z5 (Zbb (bdL b) t true true kv nv sv (Tm.cellsL av)) ?_
   exact⟨hv,hg,hc,rfl⟩
 ·rw[Bool.eq_false_iff.2 h] at hv
  rw[if_neg h]
  refine FnOK.tree Z4 fp18 Z5 (Zbb (bdL b) t false false 0 0 [] []) ?_
  exact⟨hv,rfl⟩
end Go.Proofs.YtobgkdlghljdlaaGreatDoor
/- Binding a name: trees. -/
namespace Go.Proofs.YtobgkdlghljdlaaGreatDoor
open Go.Sx
abbrev obB (es v:LD) (c:List D):Obs:=[(0,.cells [.slice es []]),(1,.cells c)]
theorem Zo1 (es tv:LD) (c:Int):gP (mCtr [(8,dI c)]) rs8 sc8 [dL es [],dL tv []]=(Ow (FK 33 [dL tv [],dI (150:Int)] (dI c)) (Jm (cut sc8 0) { tm:=[(0,dL es []),(5,dI c),(6,dI (0:Int))],ob:=[] }):Tr):=by kernel_rfl
def hdSm (es:LD) (n i:Int):St:=⟨[(0,.slice es []),(5,.int .i64 n),(6,.int .i64 i)],[]⟩
theorem Z63 (es:LD) (nn:Int) (i:Nat) (m:LU) (k n:Int) (s:LU) (a:LD) (c:Int):let A:=(150:Int);let B:=((↑i:Int)+(1:Int));let C:=cut sc8 0;gH (mCtr [(25,dI c)] [(22,bC m k n s a)]) 0 true rs8 C (hdSm es nn (↑i:Int))=(brT (decide ((↑i:Int)<(↑(List.length es):Int))) (brT (decide (nn<=A)) (Ow ((0:Int)<=(↑i:Int)/\es[Int.toNat (↑i:Int)]? = some (bC m k n s a)) (Ow (FK 34 [dA (tC k n s a),dI A] (dI c)) (I8 (nn+c) (I8 B (Jm C { tm:=[(0,dL es []),(5,dI (nn+c)),(6,dI B)],ob:=[] }))))) (Rt (dB (decide (nn<=A))) [])) (Rt (dB (decide (nn<=A))) []):Tr):=by intro A B C;kernel_rfl
theorem Zo6 (cs es:LD):gP (mCtr []) rs14 sc14 [dL cs [],dL es []]=(Jm (cut sc14 0) { tm:=[(0,dL cs []),(1,dL es []),(5,dI (0:Int))],ob:=[] }:Tr):=by kernel_rfl
def ZlF (cs es:LD) (i:Int):St:=⟨[(0,.slice cs []),(1,.slice es []),(5,.int .i64 i)],[]⟩
theorem Zbd (cs es:LD) (i:Nat) (m:LU) (k n:Int) (s:LU) (a:LD):let A:=tC k n s a;let B:=((↑i:Int)+(1:Int));let C:=[dA A,dB true];let E:=bC m k n s a;let F:=cut sc14 0;gH (mCtr [(21,D.tuple C),(33,dB true)] [(18,bC m k n s a),(30,bC m k n s a)]) 0 true rs14 F (ZlF cs es (↑i:Int))=(brT (decide ((↑i:Int)<(↑(List.length es):Int))) (Ow ((0:Int)<=(↑i:Int)/\es[Int.toNat (↑i:Int)]? = some E) (Ow (FK 18 [dL cs [],dS m] (D.tuple C)) (Ow ((0:Int)<=(↑i:Int)/\es[Int.toNat (↑i:Int)]? = some E) (Ow (FK 27 [dA A,dA A] (dB true)) (I8 B (Jm F { tm:=[(0,dL cs []),(1,dL es []),(5,dI B)],ob:=[] })))))) (Rt (dB true) []):Tr):=by intro A B C E F;kernel_rfl
end Go.Proofs.YtobgkdlghljdlaaGreatDoor
