/- Own work: a layer over the kit: plain data,a walk over it,its soundness. -/
import Derived.Test.YtobgkdlghljdlaaGreatDoorSame
import Derived.Test.YtobgkdlghljdlaaGreatDoorSx8
set_option linter.unusedSectionVars false
set_option linter.unusedVariables false
set_option linter.unusedSimpArgs false
set_option linter.deprecated false
set_option maxRecDepth 100000
/- Bindings: valid,find,get,copied. -/
namespace Go.Proofs.YtobgkdlghljdlaaGreatDoor
open Go.Sx
theorem ZH (a b:List Tm):Tm.cellsL (a++b)=Tm.cellsL a++Tm.cellsL b:=by simp[Zp]
theorem Zkk (a b:LU):(Op.bytesLess a b || decide (a=b))= !decide (b<a):=by
 rw[blt,Bool.eq_iff_iff]
 simp only[Bool.or_eq_true,decide_eq_true_eq,Bool.not_eq_true',decide_eq_false_iff_not]
 constructor
 ·rintro (h | rfl)
  ·exact fun h2=>Z2Q a (List.lt_trans h h2)
  ·exact Z2Q a
 ·intro h
  by_cases e:a=b
  ·exact .inr e
  ·exact .inl (Zkd (List.not_lt.1 h) e)
def prvB (l:List Bd):Nat->Option (LU)
 | 0=>none
 | i+1=>(l[i]?).map Bd.n
theorem Zk9 (l:List Bd) (hl:l.length<=1000000) (hw: ∀ x∈l,x.wf 281474976710656) (hd: ∀ x∈l,x.v.depth<=1000000000): ∀ (m i:Nat),l.length-i=m->i<=l.length →
  At Tryz.prog 0 (cut sc13 0) (hdVa (bdL l) l.length i) (FinQ true 0 rs13 fun r _=>r= .bool (okB (prvB l i) (l.drop i))):=by
 intro m
 induction m with
 | zero =>
  intro i hm hi
  refine At.tree Z5 (Z5L (bdL l) l.length i [] 0 0 [] [] [] 0 0 [] [] true true) ?_
  rw[List.drop_eq_nil_of_le (by omega)]
  simp only[SS]
  exact⟨fun h=>by omega,fun _=>rfl⟩
 | succ m ih =>
  intro i hm hi
  have h1:i<l.length:=by omega
  have hx:=QG h1
  have hmx:=List.getElem_mem h1
  have hwx:=hw _ hmx
  have hv:=Z1P l[i].n (by have:=hwx.1; omega)
  have hu:=Z5U l[i].v hwx.2 (hd _ hmx)
  have hI:=ih (i+1) (by omega) (by omega)
  have hp:prvB l (i+1)=some l[i].n:=by simp[prvB,h1]
  rw[hp] at hI
  rw[Za h1]
  simp only[okB]
  have huv:(l[i].v.all Tm.plain && l[i].v.valid)=l[i].v.value:=rfl
  rw[huv] at hu
  cases i with
  | zero =>
   simp only[prvB]
   generalize Lx.variableB l[0].n=v at hv ⊢
   generalize Tm.value l[0].v=w at hu ⊢
   generalize l[0]=x at hx hv hu hI
   obtain⟨m',⟨k,n,s,a⟩⟩:=x
   refine At.tree Z5 (Z5L (bdL l) l.length 0 m' k n s (Tm.cellsL a) [] 0 0 [] [] v w) ?_
   simp only[SS]
   refine⟨fun _=>⟨⟨by omega,hx⟩,hv,fun h=>by rw[h]; rfl,fun h=>⟨hu,fun h2=>by rw[h,h2]; rfl,fun h2=>⟨fun h3=>by omega,fun _=>⟨by omega, ?_⟩⟩⟩⟩,fun h=>by omega⟩
   rw[h,h2]; exact hI
  | succ j =>
   have h2:j<l.length:=by omega
   have hy:=QG h2
   have hq:prvB l (j+1)=some l[j].n:=by simp[prvB,h2]
   rw[hq]
   simp only
   have ej:(((j+1:Nat):Int)-1).toNat=j:=by omega
   generalize Lx.variableB l[j+1].n=v at hv ⊢
   generalize Tm.value l[j+1].v=w at hu ⊢
   generalize l[j+1]=x at hx hv hu hI
   generalize l[j]=y at hy
   obtain⟨m',⟨k,n,s,a⟩⟩:=x
   obtain⟨m2,⟨k2,n2,s2,a2⟩⟩:=y
   refine At.tree Z5 (Z5L (bdL l) l.length (j+1) m' k n s (Tm.cellsL a) m2 k2 n2 s2 (Tm.cellsL a2) v w) ?_
   rw[Zkk]
   simp only[SS,ej]
   refine⟨fun _=>⟨⟨by omega,hx⟩,hv,fun h=>by rw[h]; rfl,fun h=>⟨hu,fun h2=>by rw[h,h2]; rfl,fun h2=>⟨fun _=>⟨by omega,⟨by omega,hy⟩,fun h3=> ?_,fun h3=>⟨by omega, ?_⟩⟩,fun h3=>by omega⟩⟩⟩,fun h=>by omega⟩
   ·rw[h,h2,decide_eq_false h3]; rfl
   ·rw[h,h2,decide_eq_true h3]; exact hI
theorem ZcP (l:List Bd) (hl:l.length<=1000000) (hw: ∀ x∈l,x.wf 281474976710656) (hd: ∀ x∈l,x.v.depth<=1000000000):FK 13 [.slice (bdL l) []] (.bool (Z08 l)):=by
 refine FnOK.tree Z4 fp13 Z5 (ZmH (bdL l)) ?_
 rw[Z9,Q6]
 exact Zk9 l hl hw hd _ 0 rfl (Nat.zero_le _)
theorem half (i j:Nat) (h:i+j<9223372036854775808):shI false IntKind.u64 (IntKind.u64.wrap ((i:Int)+(j:Int))) 1=(((i+j) / 2:Nat):Int):=by
 have e:IntKind.u64.wrap ((i:Int)+(j:Int))=(i:Int)+(j:Int):=by
  rw[IntKind.wrap_u64]; omega
 rw[e]
 unfold shI
 have e2:(min (1:Int).toNat IntKind.u64.bits)=1:=rfl
 rw[e2]
 simp only[Bool.false_eq_true,if_false]
 rw[Int.fdiv_eq_ediv_of_nonneg _ (by decide)]
 omega
theorem Zm3 (a b:LU):decide (Lib.compareBytes a b<0)=decide (a<b):=by
 rw[Z4F,blt]
 by_cases h:a<b
 ·simp[h]
 ·simp only[h,decide_false,Bool.false_eq_true,if_false]
  split <;> decide
theorem Zgy (a b:LU):decide (Lib.compareBytes a b=0)=decide (a=b):=by
 rw[Bool.eq_iff_iff,decide_eq_true_eq,decide_eq_true_eq,Z3T]
theorem Zd0 (x:Bd) (t:LU):CF 112 [.agg x.c,.str t] [] fun r ob=>r= .int .i64 (Lib.compareBytes x.n t)/\ob=[]:=by
 have hc:FK 96 [.str x.n,.str t] (.int .i64 (Lib.compareBytes x.n t)):=by
  have:=Z2 96 [.str x.n,.str t] _ rfl
  exact this trivial
 obtain⟨m,⟨k,n,s,a⟩⟩:=x
 refine CallL.tree Z4 Zlc Z5 (ZmN m k n s (Tm.cellsL a) t (Lib.compareBytes m t)) ?_
 exact⟨hc,rfl,rfl⟩
def fndD (l:List Bd) (t:LU):D:= .tuple [.int .i64 (posB l t),.bool (getB l t).isSome]
theorem ZoN (l:List Bd) (t:LU) (hl:l.length<=1000000) (hs:srtB l): ∀ (m i j:Nat),j-i<=m->i<=posB l t->posB l t<=j->j<=l.length →
  At Tryz.prog 0 (cut Z4Z 0) (hdBs (bdL l) t l.length i j) (FinQ false 0 Z7n fun r ob=>r=fndD l t/\ob=[]):=by
 have hend: ∀ i j:Nat,i=posB l t->j=posB l t->posB l t<=l.length->At Tryz.prog 0 (cut Z4Z 0) (hdBs (bdL l) t l.length i j) (FinQ false 0 Z7n fun r ob=>r=fndD l t/\ob=[]):=fun i j hi hj hp=>by
  subst hj
  have hg:=Z13 (s:=t) hs
  by_cases hlt:posB l t<l.length
  ·have hx:=QG hlt
   have hc:=Zd0 l[posB l t] t
   rw[List.getElem?_eq_getElem hlt] at hg
   simp only at hg
   have hf:(getB l t).isSome=decide (l[posB l t].n=t):=by
    rw[hg]
    by_cases e:l[posB l t].n=t
    ·rw[if_pos e]; simp[e]
    ·rw[if_neg e]; simp[e]
   unfold fndD
   rw[hf,<- Zgy]
   generalize Lib.compareBytes l[posB l t].n t=c at hc ⊢
   generalize l[posB l t]=x at hx hc
   obtain⟨m,⟨k,n,s,a⟩⟩:=x
   refine At.tree Z5 (Z5P (bdL l) t l.length i (posB l t) m k n s (Tm.cellsL a) c) ?_
   subst hi
   simp only[SS]
   exact⟨fun h=>by omega,fun _=>⟨fun _=>⟨⟨by omega,hx⟩,hc⟩,fun h=>by omega⟩⟩
  ·have e0:l[posB l t]? = none:=List.getElem?_eq_none (by omega)
   rw[e0] at hg
   have hf:(getB l t).isSome=false:=by rw[hg]; rfl
   unfold fndD
   rw[hf]
   refine At.tree Z5 (Z5P (bdL l) t l.length i (posB l t) [] 0 0 [] [] 0) ?_
   subst hi
   simp only[SS]
   exact⟨fun h=>by omega,fun _=>⟨fun h=>by omega,fun _=>by first | rfl | trivial⟩⟩
 intro m
 induction m with
 | zero=>intro i j hm hi hj hjl; exact hend i j (by omega) (by omega) (by omega)
 | succ m ih =>
  intro i j hm hi hj hjl
  by_cases hij:i<j
  ·obtain⟨h,hh⟩: ∃ h,h=(i+j) / 2:=⟨_,rfl⟩
   have hhl:h<l.length:=by omega
   have hx:=QG hhl
   have hc:=Zd0 l[h] t
   have hiff:=Z6c (s:=t) hs h hhl
   have hneg:=Zm3 l[h].n t
   have hI1:=ih (h+1) j
   have hI2:=ih i h
   have hhf:=half i j (by omega)
   rw[<- hh] at hhf
   generalize Lib.compareBytes l[h].n t=c at hc hneg
   have hdec:decide (c<0)=decide (h<posB l t):=by
    rw[hneg,Bool.eq_iff_iff,decide_eq_true_eq,decide_eq_true_eq]; exact hiff
   clear hneg hiff
   generalize l[h]=x at hx hc
   obtain⟨m',⟨k,n,s,a⟩⟩:=x
   refine At.tree Z5 (Z5P (bdL l) t l.length i j m' k n s (Tm.cellsL a) c) ?_
   rw[hhf,hdec]
   simp only[SS]
   refine⟨fun _=>⟨by omega,by decide,by omega,⟨by omega,hx⟩,hc,fun h1=>⟨by omega, ?_⟩,fun h1=> ?_⟩,fun h=>by omega⟩
   ·exact hI1 (by omega) (by omega) hj hjl
   ·exact hI2 (by omega) hi (by omega) (by omega)
  ·exact hend i j (by omega) (by omega) (by omega)
theorem ZoM (l:List Bd) (t:LU) (hl:l.length<=1000000) (hs:srtB l):CF 111 [.slice (bdL l) [],.str t,.func (.func 112) [] []] [] fun r ob=>r=fndD l t/\ob=[]:=by
 refine CallL.tree Z4 Zld Z5 (ZmQ (bdL l) t) ?_
 rw[Z9,Q6]
 exact ZoN l t hl hs _ 0 l.length (Nat.le_refl _) (Nat.zero_le _) (Z5a l t) (Nat.le_refl _)
theorem Z3H (l:List Bd) (t:LU) (hl:l.length<=1000000) (hs:srtB l):FK 82 [.slice (bdL l) [],.str t] (fndD l t):=by
 refine FnOK.tree Z4 fp82 Z5 (ZmM (bdL l) t (posB l t) (getB l t).isSome) ?_
 exact⟨ZoM l t hl hs,rfl⟩
theorem ZdM (l:List Bd) (t:LU) (hl:l.length<=1000000) (hs:srtB l):CF 42 [.ptr 0 0,.str t] (obT (bdL l)) fun r ob=>r=opD (getB l t)/\ob=obT (bdL l):=by
 have hf:=Z3H l t hl hs
 unfold fndD at hf
 have hg:=Z13 (s:=t) hs
 by_cases hlt:posB l t<l.length
 ·have hx:=QG hlt
  rw[List.getElem?_eq_getElem hlt] at hg
  simp only at hg
  by_cases e:l[posB l t].n=t
  ·rw[if_pos e] at hg
   rw[hg] at hf ⊢
   generalize l[posB l t]=x at hx
   obtain⟨m,⟨k,n,s,a⟩⟩:=x
   refine CallL.tree Z4 fp42 Z5 (Zar (bdL l) t (posB l t) true m k n s (Tm.cellsL a)) ?_
   exact⟨hf,⟨by omega,by rw[Int.toNat_natCast]; exact hx⟩,rfl,rfl⟩
  ·rw[if_neg e] at hg
   rw[hg] at hf ⊢
   refine CallL.tree Z4 fp42 Z5 (Zar (bdL l) t (posB l t) false [] 0 0 [] []) ?_
   exact⟨hf,rfl,rfl⟩
 ·have e0:l[posB l t]? = none:=List.getElem?_eq_none (by omega)
  rw[e0] at hg
  simp only at hg
  rw[hg] at hf ⊢
  refine CallL.tree Z4 fp42 Z5 (Zar (bdL l) t (posB l t) false [] 0 0 [] []) ?_
  exact⟨hf,rfl,rfl⟩
def T0P (x:Tm):Prop:=CF 45 [f0,.agg x.cells] [] fun r ob=>r= .agg x.cells/\ob=[]
theorem ZnA (l:List Tm) (hl:l.length<=1000) (H: ∀ x∈l,T0P x): ∀ (m i:Nat),l.length-i=m->i<=l.length →
  At Tryz.prog 0 (cut sc85 0) (hdT0 (Tm.cellsL l) (Tm.cellsL (l.take i)) l.length i) (FinQ false 0 rs85 fun r ob=>r= .vec 0/\ob=[]++[(0,.arr true 4 35 (Tm.cellsL l))]):=by
 intro m
 induction m with
 | zero =>
  intro i hm hi
  refine At.tree Z5 (Zaq (Tm.cellsL l) (Tm.cellsL (l.take i)) l.length i 0 0 [] [] 0 0 [] []) ?_
  rw[List.take_of_length_le (show l.length<=i by omega)]
  simp only[SS]
  exact⟨fun h=>by omega,fun _=>by first | rfl | exact⟨rfl,rfl⟩ | trivial⟩
 | succ m ih =>
  intro i hm hi
  have h1:i<l.length:=by omega
  have hx:=Zg h1
  have hC:=H _ (List.getElem_mem h1)
  have hI:=ih (i+1) (by omega) (by omega)
  have ht:Tm.cellsL (l.take (i+1))=Tm.cellsL (l.take i)++[l[i].cells]:=by
   rw[List.take_add_one,List.getElem?_eq_getElem h1,ZH]; rfl
  rw[ht] at hI
  unfold T0P at hC
  generalize l[i]=x at hx hC hI
  obtain⟨kx,nx,sx,ax⟩:=x
  refine At.tree Z5 (Zaq (Tm.cellsL l) (Tm.cellsL (l.take i)) l.length i kx nx sx (Tm.cellsL ax) kx nx sx (Tm.cellsL ax)) ?_
  simp only[SS,Z1,List.length_take]
  exact⟨fun _=>⟨⟨by omega,hx⟩,hC,⟨by simp[Zc],by omega⟩,by omega,hI⟩,fun h=>by omega⟩
theorem ZoL (x:Tm):CallL Tryz.prog f0 [.agg x.cells] [] fun r ob=>r=opD none/\ob=[]:=by
 obtain⟨k,n,s,a⟩:=x
 refine CallL.tree Z4 fp83 Z5 (ZmP k n s (Tm.cellsL a)) ?_
 exact⟨rfl,rfl⟩
theorem Zid: ∀ x:Tm,x.few 1000->T0P x
 | .mk k n s l,hx=>by
  simp only[Tm.few] at hx
  obtain⟨hl,hw⟩:=hx
  have hA:=ZnA l hl (fun x hx=>Zid x (ZL.1 hw x hx)) _ 0 rfl (Nat.zero_le _)
  have hS:CF 85 [f0,.slice (Tm.cellsL l) []] [] fun r ob=>r= .slice (Tm.cellsL l) []/\ob=[]:=by
   refine CallL.vecR (ob0:=[]) (k:=0) (sz:=4) (e:=35) rfl ?_
   refine CallL.tree Z4 fp85 Z5 (ZmL (Tm.cellsL l)) ?_
   rw[Z9,Z1]
   exact hA
  have h1:=ZoL (.mk k n s l)
  refine CallL.tree Z4 fp45 Z5 (ZmI k n s (Tm.cellsL l) (Tm.cellsL l) 0 0 [] [] false) ?_
  exact⟨h1,hS,rfl,rfl⟩
termination_by x=>SizeOf.sizeOf x
decreasing_by
 have:=List.sizeOf_lt_of_mem hx
 simp only[Tm.mk.sizeOf_spec]
 omega
theorem Z5f (x:Tm) (hx:x.few 1000):FK 43 [.agg x.cells] (.agg x.cells):=by
 have h:=Zid x hx
 unfold T0P at h
 obtain⟨k,n,s,l⟩:=x
 refine FnOK.tree Z4 fp43 Z5 (ZmO k n s (Tm.cellsL l) k n s (Tm.cellsL l)) ?_
 exact⟨h,rfl⟩
theorem ZoO (l:List Bd) (hl:l.length<=1000000) (hs:srtB l) (x:Tm):CallL Tryz.prog fA [.agg x.cells] (obP (bdL l)) fun r ob=>r=opD (match x with | .mk k n s a=>if k=3 then getB l s else none)/\ob=obP (bdL l):=by
 obtain⟨k,n,s,a⟩:=x
 have hg:=ZdM l s hl hs
 have e3:((k:Int)=3)=(k=3):=propext (by omega)
 simp only
 by_cases h3:k=3
 ·rw[if_pos h3]
  cases hq:getB l s with
  | none =>
   rw[hq] at hg
   refine CallL.tree Z4 Z5s Z5 (Zas (bdL l) k n s (Tm.cellsL a) 0 0 [] [] false) ?_
   simp only[SS,e3]
   exact⟨fun h=>absurd h3 h,fun _=>⟨hg,by first | rfl | exact⟨rfl,rfl⟩ | trivial⟩⟩
  | some v =>
   rw[hq] at hg
   obtain⟨kv,nv,sv,av⟩:=v
   refine CallL.tree Z4 Z5s Z5 (Zas (bdL l) k n s (Tm.cellsL a) kv nv sv (Tm.cellsL av) true) ?_
   simp only[SS,e3]
   exact⟨fun h=>absurd h3 h,fun _=>⟨hg,by first | rfl | exact⟨rfl,rfl⟩ | trivial⟩⟩
 ·rw[if_neg h3]
  refine CallL.tree Z4 Z5s Z5 (Zas (bdL l) k n s (Tm.cellsL a) 0 0 [] [] false) ?_
  simp only[SS,e3]
  exact⟨fun _=>by first | rfl | exact⟨rfl,rfl⟩ | trivial,fun h=>absurd h h3⟩
def TaP (b:List Bd) (x:Tm):Prop:=CF 45 [fA,.agg x.cells] (obP (bdL b)) fun r ob=>r= .agg (x.ap b).cells/\ob=obP (bdL b)
theorem Znu (b:List Bd) (l:List Tm) (hl:l.length<=1000) (H: ∀ x∈l,TaP b x): ∀ (m i:Nat),l.length-i=m->i<=l.length →
  At Tryz.prog 2 (cut sc85 0) (hdTA (bdL b) (Tm.cellsL l) (Tm.cellsL ((l.take i).map (Tm.ap b))) l.length i) (FinQ false 2 rs85 fun r ob=>r= .vec 2/\ob=obP (bdL b)++[(2,.arr true 4 35 (Tm.cellsL (l.map (Tm.ap b))))]):=by
 intro m
 induction m with
 | zero =>
  intro i hm hi
  refine At.tree Z5 (Zap (bdL b) (Tm.cellsL l) (Tm.cellsL ((l.take i).map (Tm.ap b))) l.length i 0 0 [] [] 0 0 [] []) ?_
  rw[List.take_of_length_le (show l.length<=i by omega)]
  simp only[SS]
  exact⟨fun h=>by omega,fun _=>by first | rfl | exact⟨rfl,rfl⟩ | trivial⟩
 | succ m ih =>
  intro i hm hi
  have h1:i<l.length:=by omega
  have hx:=Zg h1
  have hC:=H _ (List.getElem_mem h1)
  have hI:=ih (i+1) (by omega) (by omega)
  have ht:Tm.cellsL ((l.take (i+1)).map (Tm.ap b))=Tm.cellsL ((l.take i).map (Tm.ap b))++[(l[i].ap b).cells]:=by
   rw[List.take_add_one,List.getElem?_eq_getElem h1,List.map_append,ZH]; rfl
  rw[ht] at hI
  unfold TaP at hC
  generalize Tm.ap b l[i]=y at hC hI
  generalize l[i]=x at hx hC
  obtain⟨kx,nx,sx,ax⟩:=x
  obtain⟨ky,ny,sy,ay⟩:=y
  refine At.tree Z5 (Zap (bdL b) (Tm.cellsL l) (Tm.cellsL ((l.take i).map (Tm.ap b))) l.length i kx nx sx (Tm.cellsL ax) ky ny sy (Tm.cellsL ay)) ?_
  simp only[SS,Z1,List.length_take,List.length_map]
  exact⟨fun _=>⟨⟨by omega,hx⟩,hC,⟨by simp[Zc],by omega⟩,by omega,hI⟩,fun h=>by omega⟩
theorem Zic (b:List Bd) (hbl:b.length<=1000000) (hs:srtB b) (hb: ∀ x∈b,x.v.few 1000): ∀ x:Tm,x.few 1000->TaP b x
 | .mk k n s l,hx=>by
  simp only[Tm.few] at hx
  obtain⟨hl,hw⟩:=hx
  have hA:=Znu b l hl (fun x hx=>Zic b hbl hs hb x (ZL.1 hw x hx)) _ 0 rfl (Nat.zero_le _)
  have hS:CF 85 [fA,.slice (Tm.cellsL l) []] (obP (bdL b)) fun r ob=>r= .slice (Tm.cellsL (l.map (Tm.ap b))) []/\ob=obP (bdL b):=by
   refine CallL.vecR (ob0:=obP (bdL b)) (k:=2) (sz:=4) (e:=35) rfl ?_
   refine CallL.tree Z4 fp85 Z5 (ZmK (bdL b) (Tm.cellsL l)) ?_
   rw[Z9,Z1]
   exact hA
  have h1:=ZoO b hbl hs (.mk k n s l)
  unfold TaP
  rw[Tm.ap,Z3X,apK]
  have hno:(if k=3 then getB b s else none)=none->CF 45 [fA,.agg (Tm.mk k n s l).cells] (obP (bdL b)) fun r ob=>r= .agg (Tm.mk k n s (l.map (Tm.ap b))).cells/\ob=obP (bdL b):=fun h=>by
   simp only[h] at h1
   refine CallL.tree Z4 fp45 Z5 (Zdj (bdL b) k n s (Tm.cellsL l) (Tm.cellsL (l.map (Tm.ap b))) 0 0 [] [] false) ?_
   exact⟨h1,hS,rfl,rfl⟩
  by_cases h3:k=3
  ·rw[if_pos h3]
   cases hq:getB b s with
   | none=>exact hno (by rw[if_pos h3]; exact hq)
   | some v =>
    simp only[if_pos h3,hq] at h1
    have hc:=Z5f v (hb _ (Qb hq))
    obtain⟨kv,nv,sv,av⟩:=v
    refine CallL.tree Z4 fp45 Z5 (Zdj (bdL b) k n s (Tm.cellsL l) [] kv nv sv (Tm.cellsL av) true) ?_
    exact⟨h1,hc,rfl,rfl⟩
  ·rw[if_neg h3]
   exact hno (if_neg h3)
termination_by x=>SizeOf.sizeOf x
decreasing_by
 have:=List.sizeOf_lt_of_mem hx
 simp only[Tm.mk.sizeOf_spec]
 omega
theorem Zm4:ayQ.OK:=by
 intro d xs ob rt h
 unfold ayQ at h
 split at h
 ·split at h
  ·rename_i hf
   subst hf
   cases h
   intro _
   exact CallL.tree Z4 fp84 Z5 (ZmR _) ⟨rfl,rfl⟩
  ·cases h
 ·cases h
def vldB (b:List Bd):List Bd:=if Z08 b=true then b else []
theorem Zm6 (b:List Bd) (hl:b.length<=1000000) (hw: ∀ x∈b,x.wf 281474976710656) (hd: ∀ x∈b,x.v.depth<=1000000000):CF 44 [.slice (bdL b) []] [] fun r ob=>r=fA/\ob=obP (bdL (vldB b)):=by
 have hv:=ZcP b hl hw hd
 unfold vldB
 generalize Z08 b=v at hv ⊢
 refine CallL.tree Z4 fp44 (Zn Zm4) (ZmS (bdL b) v) ?_
 cases v
 ·exact⟨hv,trivial,rfl,rfl⟩
 ·exact⟨hv,trivial,rfl,rfl⟩
theorem Z77 (b:List Bd):srtB (vldB b)/\(∀ x∈vldB b,x∈b)/\(vldB b).length<=b.length/\ ∀ x∈vldB b,x.v.value=true:=by
 unfold vldB
 by_cases h:Z08 b=true
 ·rw[if_pos h]
  have:=Z1d.1 h
  exact⟨this.1,fun x hx=>hx,Nat.le_refl _,fun x hx=>(this.2 x hx).2⟩
 ·rw[if_neg h]
  exact⟨List.Pairwise.nil,fun x hx=>(by cases hx),Nat.zero_le _,fun x hx=>(by cases hx)⟩
theorem Z0A (b:List Bd) (hl:b.length<=1000000) (hw: ∀ x∈b,x.wf 281474976710656) (hd: ∀ x∈b,x.v.depth<=1000000000) (hf: ∀ x∈b,x.v.few 1000) (x:Tm) (hx:x.few 1000):FK 20 [.agg x.cells,.slice (bdL b) []] (.agg (x.ap (vldB b)).cells):=by
 have h1:=Zm6 b hl hw hd
 obtain⟨p1,p2,p3,_⟩:=Z77 b
 have h2:=Zic (vldB b) (by omega) p1 (fun y hy=>hf y (p2 y hy)) x hx
 unfold TaP at h2
 generalize x.ap (vldB b)=y at h2 ⊢
 obtain⟨k,n,s,a⟩:=x
 obtain⟨kv,nv,sv,av⟩:=y
 refine FnOK.tree Z4 fp20 (Zn (Zcd _ _)) (ZmT (bdL b) (bdL (vldB b)) k n s (Tm.cellsL a) kv nv sv (Tm.cellsL av)) ?_
 exact⟨h1,h2,rfl⟩
end Go.Proofs.YtobgkdlghljdlaaGreatDoor
/- Binding a name: trees. -/
namespace Go.Proofs.YtobgkdlghljdlaaGreatDoor
open Go.Sx
abbrev obB (es v:LD) (c:List D):Obs:=[(0,.cells [.slice es []]),(1,.cells c)]
theorem ZmJ (es tv:LD) (c:Int):gP (mCtr [(8,dI c)]) rs8 sc8 [dL es [],dL tv []]=(Ow (FK 33 [dL tv [],dI (150:Int)] (dI c)) (Jm (cut sc8 0) { tm:=[(0,dL es []),(5,dI c),(6,dI (0:Int))],ob:=[] }):Tr):=by kernel_rfl
def hdSm (es:LD) (n i:Int):St:=⟨[(0,.slice es []),(5,.int .i64 n),(6,.int .i64 i)],[]⟩
theorem Z5M (es:LD) (nn:Int) (i:Nat) (m:LU) (k n:Int) (s:LU) (a:LD) (c:Int):let A:=(150:Int);let B:=((↑i:Int)+(1:Int));let C:=cut sc8 0;gH (mCtr [(25,dI c)] [(22,bC m k n s a)]) 0 true rs8 C (hdSm es nn (↑i:Int))=(brT (decide ((↑i:Int)<(↑(List.length es):Int))) (brT (decide (nn<=A)) (Ow ((0:Int)<=(↑i:Int)/\es[Int.toNat (↑i:Int)]? = some (bC m k n s a)) (Ow (FK 34 [dA (tC k n s a),dI A] (dI c)) (I8 (nn+c) (I8 B (Jm C { tm:=[(0,dL es []),(5,dI (nn+c)),(6,dI B)],ob:=[] }))))) (Rt (dB (decide (nn<=A))) [])) (Rt (dB (decide (nn<=A))) []):Tr):=by intro A B C;kernel_rfl
end Go.Proofs.YtobgkdlghljdlaaGreatDoor
