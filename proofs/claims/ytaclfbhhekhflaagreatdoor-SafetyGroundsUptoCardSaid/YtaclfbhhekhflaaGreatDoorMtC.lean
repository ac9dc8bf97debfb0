/- Own work: a layer over the kit: plain data,a walk over it,its soundness. -/
import Derived.Test.YtaclfbhhekhflaaGreatDoorArOp
import Derived.Test.YtaclfbhhekhflaaGreatDoorSx8
set_option linter.all false
set_option maxRecDepth 100000
/- Bindings: valid,find,get,copied. -/
noncomputable section
namespace Go.Proofs.YtaclfbhhekhflaaGreatDoor
open Go.Sx
theorem Qc (a b:List Tm):Tm.cellsL (a++b)=Tm.cellsL a++Tm.cellsL b:=by simp[Zn]
theorem Zqj (a b:LU):(Op.bytesLess a b ||decide (a=b))= !decide (b<a):=by
 rw[blt,Bool.eq_iff_iff];simp only[Bool.or_eq_true,decide_eq_true_eq,Bool.not_eq_true',decide_eq_false_iff_not];constructor
 ·rintro (h|rfl)
  ·exactλh2=>Z4M a (List.lt_trans h h2)
  ·exact Z4M a
 ·intro h;by_cases e:a=b
  ·exact .inr e
  ·exact .inl (ZcX (List.not_lt.1 h) e)
def prvB (l:List Bd):Nat->Option (LU)
 |0=>none
 |i+1=>(l[i]?).map Bd.n
theorem Zqb (l:List Bd) (hl:l.length<=1000000) (z: ∀ x∈l,x.wf 281474976710656) (t: ∀ x∈l,x.v.depth<=1000000000): ∀ (m i:Nat),l.length-i=m->i<=l.length →
  At Tryz.prog 0 (cut sc32 0) (hdVa (bdL l) l.length i) (FinQ true 0 rs32 λr _=>r=.bool (okB (prvB l i) (l.drop i))):=by
 intro m;induction m with
 |zero =>
  intro i hm hi;refine At.tree Zf (Z8K (bdL l) l.length i [] 0 0 [] [] [] 0 0 [] [] true true) ?_;rw[List.drop_eq_nil_of_le (by omega)];simp only[SS];exact⟨λh=>by omega,λ_=>rfl⟩
 |succ m A =>
  intro i hm hi;have h1:i<l.length:=by omega
  have hx:=Z1f h1;have e:=List.getElem_mem h1;have f:=z _ e;have hv:=Z0D l[i].n (by have:=f.1;omega);have b:=Z8R l[i].v f.2 (t _ e);have d:=A (i+1) (by omega) (by omega);have hp:prvB l (i+1)=some l[i].n:=by simp[prvB,h1]
  rw[hp] at d;rw[Zc h1];simp only[okB];have g:(l[i].v.all Tm.plain && l[i].v.valid)=l[i].v.value:=rfl;rw[g] at b;cases i with
  |zero =>
   simp only[prvB];generalize Lx.Zk l[0].n=v at hv ⊢;generalize Tm.value l[0].v=w at b ⊢;generalize l[0]=x at hx hv b d;obtain⟨m',⟨k,n,s,a⟩⟩:=x;refine At.tree Zf (Z8K (bdL l) l.length 0 m' k n s (Tm.cellsL a) [] 0 0 [] [] v w) ?_;simp only[SS];refine⟨λ_=>⟨⟨by omega,hx⟩,hv,λh=>by rw[h];rfl,λh=>⟨b,λh2=>by rw[h,h2];rfl,λh2=>⟨λc=>by omega,λ_=>⟨by omega,?_⟩⟩⟩⟩,λh=>by omega⟩;rw[h,h2];exact d
  |succ j =>
   have h2:j<l.length:=by omega
   have o:=Z1f h2;have u:prvB l (j+1)=some l[j].n:=by simp[prvB,h2]
   rw[u];simp only;have q:(((j+1:Nat):Int)-1).toNat=j:=by omega
   generalize Lx.Zk l[j+1].n=v at hv ⊢;generalize Tm.value l[j+1].v=w at b ⊢;generalize l[j+1]=x at hx hv b d;generalize l[j]=y at o;obtain⟨m',⟨k,n,s,a⟩⟩:=x;obtain⟨B,⟨k2,C,D,p⟩⟩:=y;refine At.tree Zf (Z8K (bdL l) l.length (j+1) m' k n s (Tm.cellsL a) B k2 C D (Tm.cellsL p) v w) ?_;rw[Zqj];simp only[SS,q];refine⟨λ_=>⟨⟨by omega,hx⟩,hv,λh=>by rw[h];rfl,λh=>⟨b,λh2=>by rw[h,h2];rfl,λh2=>⟨λ_=>⟨by omega,⟨by omega,o⟩,λc=>?_,λc=>⟨by omega,?_⟩⟩,λc=>by omega⟩⟩⟩,λh=>by omega⟩
   ·rw[h,h2,decide_eq_false c];rfl
   ·rw[h,h2,decide_eq_true c];exact d
theorem ZcS (l:List Bd) (hl:l.length<=1000000) (b: ∀ x∈l,x.wf 281474976710656) (a: ∀ x∈l,x.v.depth<=1000000000):FK 32 [.slice (bdL l) []] (.bool (ZP l)):=by
 refine FnOK.tree Z3 fp32 Zf (ZsE (bdL l)) ?_;rw[Z6,Z1e];exact Zqb l hl b a _ 0 rfl (Nat.zero_le _)
theorem half (i j:Nat) (h:i+j<9223372036854775808):shI false IntKind.u64 (IntKind.u64.wrap ((i:Int)+(j:Int))) 1=(((i+j) / 2:Nat):Int):=by
 have e:IntKind.u64.wrap ((i:Int)+(j:Int))=(i:Int)+(j:Int):=by
  rw[IntKind.wrap_u64];omega
 rw[e];unfold shI;have a:(min (1:Int).toNat IntKind.u64.bits)=1:=rfl;rw[a];simp only[Bool.false_eq_true,if_false];rw[Int.fdiv_eq_ediv_of_nonneg _ (by decide)];omega
theorem Zs7 (a b:LU):decide (Lib.compareBytes a b<0)=decide (a<b):=by
 rw[Z7e,blt];by_cases h:a<b
 ·simp[h]
 ·simp only[h,decide_false,Bool.false_eq_true,if_false];split<;>decide
theorem ZlS (a b:LU):decide (Lib.compareBytes a b=0)=decide (a=b):=by
 rw[Bool.eq_iff_iff,decide_eq_true_eq,decide_eq_true_eq,Z61]
theorem ZhS (x:Bd) (t:LU):CF 88 [.agg x.c,.str t] [] λr ob=>r=.int .i64 (Lib.compareBytes x.n t)/\ob=[]:=by
 have hc:FK 89 [.str x.n,.str t] (.int .i64 (Lib.compareBytes x.n t)):=by
  have:=Z1 89 [.str x.n,.str t] _ rfl;exact this trivial
 obtain⟨m,⟨k,n,s,a⟩⟩:=x;refine CallL.tree Z3 fp88 Zf (ZsL m k n s (Tm.cellsL a) t (Lib.compareBytes m t)) ?_;exact⟨hc,rfl,rfl⟩
def fndD (l:List Bd) (t:LU):D:=.tuple [.int .i64 (posB l t),.bool (getB l t).isSome]
theorem Zvt (l:List Bd) (t:LU) (hl:l.length<=1000000) (hs:srtB l): ∀ (m i j:Nat),j-i<=m->i<=posB l t->posB l t<=j->j<=l.length →
  At Tryz.prog 0 (cut sc87 0) (hdBs (bdL l) t l.length i j) (FinQ false 0 rs87 λr ob=>r=fndD l t/\ob=[]):=by
 have d: ∀ i j:Nat,i=posB l t->j=posB l t->posB l t<=l.length->At Tryz.prog 0 (cut sc87 0) (hdBs (bdL l) t l.length i j) (FinQ false 0 rs87 λr ob=>r=fndD l t/\ob=[]):=λi j hi w hp=>by
  subst w;have o:=Z3m (s:=t) hs;by_cases v:posB l t<l.length
  ·have hx:=Z1f v;have hc:=ZhS l[posB l t] t;rw[List.getElem?_eq_getElem v] at o;simp only at o;have hf:(getB l t).isSome=decide (l[posB l t].n=t):=by
    rw[o];by_cases e:l[posB l t].n=t
    ·rw[if_pos e];simp[e]
    ·rw[if_neg e];simp[e]
   unfold fndD;rw[hf,<- ZlS];generalize Lib.compareBytes l[posB l t].n t=c at hc ⊢;generalize l[posB l t]=x at hx hc;obtain⟨m,⟨k,n,s,a⟩⟩:=x;refine At.tree Zf (Z8L (bdL l) t l.length i (posB l t) m k n s (Tm.cellsL a) c) ?_;subst hi;simp only[SS];exact⟨λh=>by omega,λ_=>⟨λ_=>⟨⟨by omega,hx⟩,hc⟩,λh=>by omega⟩⟩
  ·have B:l[posB l t]? = none:=List.getElem?_eq_none (by omega);rw[B] at o;have hf:(getB l t).isSome=false:=by rw[o];rfl
   unfold fndD;rw[hf];refine At.tree Zf (Z8L (bdL l) t l.length i (posB l t) [] 0 0 [] [] 0) ?_;subst hi;simp only[SS];exact⟨λh=>by omega,λ_=>⟨λh=>by omega,λ_=>by first|rfl|trivial⟩⟩
 intro m;induction m with
 |zero=>intro i j hm hi w u;exact d i j (by omega) (by omega) (by omega)
 |succ m A =>
  intro i j hm hi w u;by_cases C:i<j
  ·obtain⟨h,hh⟩: ∃ h,h=(i+j) / 2:=⟨_,rfl⟩;have q:h<l.length:=by omega
   have hx:=Z1f q;have hc:=ZhS l[h] t;have f:=Z9i (s:=t) hs h q;have b:=Zs7 l[h].n t;have y:=A (h+1) j;have z:=A i h;have p:=half i j (by omega);rw[<- hh] at p;generalize Lib.compareBytes l[h].n t=c at hc b;have g:decide (c<0)=decide (h<posB l t):=by
    rw[b,Bool.eq_iff_iff,decide_eq_true_eq,decide_eq_true_eq];exact f
   clear b f;generalize l[h]=x at hx hc;obtain⟨m',⟨k,n,s,a⟩⟩:=x;refine At.tree Zf (Z8L (bdL l) t l.length i j m' k n s (Tm.cellsL a) c) ?_;rw[p,g];simp only[SS];refine⟨λ_=>⟨by omega,by decide,by omega,⟨by omega,hx⟩,hc,λh1=>⟨by omega,?_⟩,λh1=>?_⟩,λh=>by omega⟩
   ·exact y (by omega) (by omega) w u
   ·exact z (by omega) hi (by omega) (by omega)
  ·exact d i j (by omega) (by omega) (by omega)
theorem Zvs (l:List Bd) (t:LU) (hl:l.length<=1000000) (hs:srtB l):CF 87 [.slice (bdL l) [],.str t,.func (.func 88) [] []] [] λr ob=>r=fndD l t/\ob=[]:=by
 refine CallL.tree Z3 fp87 Zf (ZsO (bdL l) t) ?_;rw[Z6,Z1e];exact Zvt l t hl hs _ 0 l.length (Nat.le_refl _) (Nat.zero_le _) (Zcy l t) (Nat.le_refl _)
theorem Z8g (l:List Bd) (t:LU) (hl:l.length<=1000000) (hs:srtB l):FK 57 [.slice (bdL l) [],.str t] (fndD l t):=by
 refine FnOK.tree Z3 fp57 Zf (ZsK (bdL l) t (posB l t) (getB l t).isSome) ?_;exact⟨Zvs l t hl hs,rfl⟩
theorem ZbK (l:List Bd) (t:LU) (hl:l.length<=1000000) (hs:srtB l):CF 39 [.ptr 0 0,.str t] (obT (bdL l)) λr ob=>r=opD (getB l t)/\ob=obT (bdL l):=by
 have hf:=Z8g l t hl hs;unfold fndD at hf;have b:=Z3m (s:=t) hs;by_cases c:posB l t<l.length
 ·have hx:=Z1f c;rw[List.getElem?_eq_getElem c] at b;simp only at b;by_cases e:l[posB l t].n=t
  ·rw[if_pos e] at b;rw[b] at hf ⊢;generalize l[posB l t]=x at hx;obtain⟨m,⟨k,n,s,a⟩⟩:=x;refine CallL.tree Z3 fp39 Zf (ZeJ (bdL l) t (posB l t) true m k n s (Tm.cellsL a)) ?_;exact⟨hf,⟨by omega,by rw[Int.toNat_natCast];exact hx⟩,rfl,rfl⟩
  ·rw[if_neg e] at b;rw[b] at hf ⊢;refine CallL.tree Z3 fp39 Zf (ZeJ (bdL l) t (posB l t) false [] 0 0 [] []) ?_;exact⟨hf,rfl,rfl⟩
 ·have d:l[posB l t]? = none:=List.getElem?_eq_none (by omega);rw[d] at b;simp only at b;rw[b] at hf ⊢;refine CallL.tree Z3 fp39 Zf (ZeJ (bdL l) t (posB l t) false [] 0 0 [] []) ?_;exact⟨hf,rfl,rfl⟩
def T0P (x:Tm):Prop:=CF 60 [f0,.agg x.cells] [] λr ob=>r=.agg x.cells/\ob=[]
theorem ZtZ (l:List Tm) (hl:l.length<=1000) (H: ∀ x∈l,T0P x): ∀ (m i:Nat),l.length-i=m->i<=l.length →
  At Tryz.prog 0 (cut sc92 0) (hdT0 (Tm.cellsL l) (Tm.cellsL (l.take i)) l.length i) (FinQ false 0 rs92 λr ob=>r=.vec 0/\ob=[]++[(0,.arr true 4 25 (Tm.cellsL l))]):=by
 intro m;induction m with
 |zero =>
  intro i hm hi;refine At.tree Zf (ZeF (Tm.cellsL l) (Tm.cellsL (l.take i)) l.length i 0 0 [] [] 0 0 [] []) ?_;rw[List.take_of_length_le (show l.length<=i by omega)];simp only[SS];exact⟨λh=>by omega,λ_=>by first|rfl|exact⟨rfl,rfl⟩|trivial⟩
 |succ m g =>
  intro i hm hi;have h1:i<l.length:=by omega
  have hx:=ZN h1;have a:=H _ (List.getElem_mem h1);have b:=g (i+1) (by omega) (by omega);have f:Tm.cellsL (l.take (i+1))=Tm.cellsL (l.take i)++[l[i].cells]:=by
   rw[List.take_add_one,List.getElem?_eq_getElem h1,Qc];rfl
  rw[f] at b;unfold T0P at a;generalize l[i]=x at hx a b;obtain⟨d,nx,e,c⟩:=x;refine At.tree Zf (ZeF (Tm.cellsL l) (Tm.cellsL (l.take i)) l.length i d nx e (Tm.cellsL c) d nx e (Tm.cellsL c)) ?_;simp only[SS,Z5,List.length_take];exact⟨λ_=>⟨⟨by omega,hx⟩,a,⟨by simp[Ze],by omega⟩,by omega,b⟩,λh=>by omega⟩
theorem Zvr (x:Tm):CallL Tryz.prog f0 [.agg x.cells] [] λr ob=>r=opD none/\ob=[]:=by
 obtain⟨k,n,s,a⟩:=x;refine CallL.tree Z3 fp65 Zf (ZsN k n s (Tm.cellsL a)) ?_;exact⟨rfl,rfl⟩
theorem Zo5: ∀ x:Tm,x.few 1000->T0P x
 |.mk k n s l,hx=>by
  simp only[Tm.few] at hx;obtain⟨hl,c⟩:=hx;have a:=ZtZ l hl (λx hx=>Zo5 x (Qu.1 c x hx)) _ 0 rfl (Nat.zero_le _);have b:CF 92 [f0,.slice (Tm.cellsL l) []] [] λr ob=>r=.slice (Tm.cellsL l) []/\ob=[]:=by
   refine CallL.vecR (ob0:=[]) (k:=0) (sz:=4) (e:=25) rfl ?_;refine CallL.tree Z3 fp92 Zf (ZsH (Tm.cellsL l)) ?_;rw[Z6,Z5];exact a
  have h1:=Zvr (.mk k n s l);refine CallL.tree Z3 fp60 Zf (ZsF k n s (Tm.cellsL l) (Tm.cellsL l) 0 0 [] [] false) ?_;exact⟨h1,b,rfl,rfl⟩
termination_by x=>SizeOf.sizeOf x
decreasing_by
 have:=List.sizeOf_lt_of_mem hx;simp only[Tm.mk.sizeOf_spec];omega
theorem Z3O (x:Tm) (hx:x.few 1000):FK 40 [.agg x.cells] (.agg x.cells):=by
 have h:=Zo5 x hx;unfold T0P at h;obtain⟨k,n,s,l⟩:=x;refine FnOK.tree Z3 fp40 Zf (ZsM k n s (Tm.cellsL l) k n s (Tm.cellsL l)) ?_;exact⟨h,rfl⟩
theorem Zvv (l:List Bd) (hl:l.length<=1000000) (hs:srtB l) (x:Tm):CallL Tryz.prog fA [.agg x.cells] (obP (bdL l)) λr ob=>r=opD (match x with|.mk k n s a=>if k=3 then getB l s else none)/\ob=obP (bdL l):=by
 obtain⟨k,n,s,a⟩:=x;have c:=ZbK l s hl hs;have d:((k:Int)=3)=(k=3):=propext (by omega);simp only;by_cases b:k=3
 ·rw[if_pos b];cases e:getB l s with
  |none =>
   rw[e] at c;refine CallL.tree Z3 Zgr Zf (ZeL (bdL l) k n s (Tm.cellsL a) 0 0 [] [] false) ?_;simp only[SS,d];exact⟨λh=>absurd b h,λ_=>⟨c,by first|rfl|exact⟨rfl,rfl⟩|trivial⟩⟩
  |some v =>
   rw[e] at c;obtain⟨g,i,j,f⟩:=v;refine CallL.tree Z3 Zgr Zf (ZeL (bdL l) k n s (Tm.cellsL a) g i j (Tm.cellsL f) true) ?_;simp only[SS,d];exact⟨λh=>absurd b h,λ_=>⟨c,by first|rfl|exact⟨rfl,rfl⟩|trivial⟩⟩
 ·rw[if_neg b];refine CallL.tree Z3 Zgr Zf (ZeL (bdL l) k n s (Tm.cellsL a) 0 0 [] [] false) ?_;simp only[SS,d];exact⟨λ_=>by first|rfl|exact⟨rfl,rfl⟩|trivial,λh=>absurd h b⟩
def TaP (b:List Bd) (x:Tm):Prop:=CF 60 [fA,.agg x.cells] (obP (bdL b)) λr ob=>r=.agg (x.ap b).cells/\ob=obP (bdL b)
theorem ZtT (b:List Bd) (l:List Tm) (hl:l.length<=1000) (H: ∀ x∈l,TaP b x): ∀ (m i:Nat),l.length-i=m->i<=l.length →
  At Tryz.prog 2 (cut sc92 0) (hdTA (bdL b) (Tm.cellsL l) (Tm.cellsL ((l.take i).map (Tm.ap b))) l.length i) (FinQ false 2 rs92 λr ob=>r=.vec 2/\ob=obP (bdL b)++[(2,.arr true 4 25 (Tm.cellsL (l.map (Tm.ap b))))]):=by
 intro m;induction m with
 |zero =>
  intro i hm hi;refine At.tree Zf (ZeE (bdL b) (Tm.cellsL l) (Tm.cellsL ((l.take i).map (Tm.ap b))) l.length i 0 0 [] [] 0 0 [] []) ?_;rw[List.take_of_length_le (show l.length<=i by omega)];simp only[SS];exact⟨λh=>by omega,λ_=>by first|rfl|exact⟨rfl,rfl⟩|trivial⟩
 |succ m g =>
  intro i hm hi;have h1:i<l.length:=by omega
  have hx:=ZN h1;have a:=H _ (List.getElem_mem h1);have c:=g (i+1) (by omega) (by omega);have f:Tm.cellsL ((l.take (i+1)).map (Tm.ap b))=Tm.cellsL ((l.take i).map (Tm.ap b))++[(l[i].ap b).cells]:=by
   rw[List.take_add_one,List.getElem?_eq_getElem h1,List.map_append,Qc];rfl
  rw[f] at c;unfold TaP at a;generalize Tm.ap b l[i]=y at a c;generalize l[i]=x at hx a;obtain⟨j,nx,o,d⟩:=x;obtain⟨k,n,p,e⟩:=y;refine At.tree Zf (ZeE (bdL b) (Tm.cellsL l) (Tm.cellsL ((l.take i).map (Tm.ap b))) l.length i j nx o (Tm.cellsL d) k n p (Tm.cellsL e)) ?_;simp only[SS,Z5,List.length_take,List.length_map];exact⟨λ_=>⟨⟨by omega,hx⟩,a,⟨by simp[Ze],by omega⟩,by omega,c⟩,λh=>by omega⟩
theorem Zo4 (b:List Bd) (c:b.length<=1000000) (hs:srtB b) (g: ∀ x∈b,x.v.few 1000): ∀ x:Tm,x.few 1000->TaP b x
 |.mk k n s l,hx=>by
  simp only[Tm.few] at hx;obtain⟨hl,o⟩:=hx;have j:=ZtT b l hl (λx hx=>Zo4 b c hs g x (Qu.1 o x hx)) _ 0 rfl (Nat.zero_le _);have m:CF 92 [fA,.slice (Tm.cellsL l) []] (obP (bdL b)) λr ob=>r=.slice (Tm.cellsL (l.map (Tm.ap b))) []/\ob=obP (bdL b):=by
   refine CallL.vecR (ob0:=obP (bdL b)) (k:=2) (sz:=4) (e:=25) rfl ?_;refine CallL.tree Z3 fp92 Zf (ZsG (bdL b) (Tm.cellsL l)) ?_;rw[Z6,Z5];exact j
  have h1:=Zvv b c hs (.mk k n s l);unfold TaP;rw[Tm.ap,Zel,apK];have d:(if k=3 then getB b s else none)=none->CF 60 [fA,.agg (Tm.mk k n s l).cells] (obP (bdL b)) λr ob=>r=.agg (Tm.mk k n s (l.map (Tm.ap b))).cells/\ob=obP (bdL b):=λh=>by
   simp only[h] at h1;refine CallL.tree Z3 fp60 Zf (Zi8 (bdL b) k n s (Tm.cellsL l) (Tm.cellsL (l.map (Tm.ap b))) 0 0 [] [] false) ?_;exact⟨h1,m,rfl,rfl⟩
  by_cases a:k=3
  ·rw[if_pos a];cases f:getB b s with
   |none=>exact d (by rw[if_pos a];exact f)
   |some v =>
    simp only[if_pos a,f] at h1;have hc:=Z3O v (g _ (Z1a f));obtain⟨p,q,t,i⟩:=v;refine CallL.tree Z3 fp60 Zf (Zi8 (bdL b) k n s (Tm.cellsL l) [] p q t (Tm.cellsL i) true) ?_;exact⟨h1,hc,rfl,rfl⟩
  ·rw[if_neg a];exact d (if_neg a)
termination_by x=>SizeOf.sizeOf x
decreasing_by
 have:=List.sizeOf_lt_of_mem hx;simp only[Tm.mk.sizeOf_spec];omega
theorem Zs8:ayQ.OK:=by
 intro d xs ob rt h;unfold ayQ at h;split at h
 ·split at h
  ·rename_i hf;subst hf;cases h;intro _;exact CallL.tree Z3 fp91 Zf (ZsV _) ⟨rfl,rfl⟩
  ·cases h
 ·cases h
def vldB (b:List Bd):List Bd:=if ZP b=true then b else []
theorem Zsa (b:List Bd) (hl:b.length<=1000000) (c: ∀ x∈b,x.wf 281474976710656) (a: ∀ x∈b,x.v.depth<=1000000000):CF 59 [.slice (bdL b) []] [] λr ob=>r=fA/\ob=obP (bdL (vldB b)):=by
 have hv:=ZcS b hl c a;unfold vldB;generalize ZP b=v at hv ⊢;refine CallL.tree Z3 fp59 (Z9 Zs8) (ZsW (bdL b) v) ?_;cases v
 ·exact⟨hv,trivial,rfl,rfl⟩
 ·exact⟨hv,trivial,rfl,rfl⟩
theorem Zar (b:List Bd):srtB (vldB b)/\(∀ x∈vldB b,x∈b)/\(vldB b).length<=b.length/\ ∀ x∈vldB b,x.v.value=true:=by
 unfold vldB;by_cases h:ZP b=true
 ·rw[if_pos h]
  have:=Q8.1 h;exact⟨this.1,λx hx=>hx,Nat.le_refl _,λx hx=>(this.2 x hx).2⟩
 ·rw[if_neg h];exact⟨List.Pairwise.nil,λx hx=>(by cases hx),Nat.zero_le _,λx hx=>(by cases hx)⟩
theorem Z1G (b:List Bd) (hl:b.length<=1000000) (e: ∀ x∈b,x.wf 281474976710656) (d: ∀ x∈b,x.v.depth<=1000000000) (hf: ∀ x∈b,x.v.few 1000) (x:Tm) (hx:x.few 1000):FK 36 [.agg x.cells,.slice (bdL b) []] (.agg (x.ap (vldB b)).cells):=by
 have h1:=Zsa b hl e d;obtain⟨i,j,m,_⟩:=Zar b;have h2:=Zo4 (vldB b) (by omega) i (λy f=>hf y (j y f)) x hx;unfold TaP at h2;generalize x.ap (vldB b)=y at h2 ⊢;obtain⟨k,n,s,a⟩:=x;obtain⟨g,h,l,c⟩:=y;refine FnOK.tree Z3 fp36 (Z9 (Zh0 _ _)) (ZsX (bdL b) (bdL (vldB b)) k n s (Tm.cellsL a) g h l (Tm.cellsL c)) ?_;exact⟨h1,h2,rfl⟩
theorem ZcU (b:List Bd) (hl:b.length<=1000000) (f: ∀ x∈b,x.wf 281474976710656) (e: ∀ x∈b,x.v.depth<=1000000000) (hf: ∀ x∈b,x.v.few 1000) (t:LU):FK 14 [.slice (bdL b) [],.str t] (opD (getV b t)):=by
 have hv:=ZcS b hl f e;unfold getV;by_cases h:ZP b=true
 ·rw[h] at hv;rw[if_pos h];have a:=ZbK b t hl (Q8.1 h).1;cases c:getB b t with
  |none =>
   rw[c] at a;have hc:=Z3O (.mk 0 0 [] []) ⟨Nat.zero_le _,trivial⟩;refine FnOK.tree Z3 fp14 Zf (ZeI (bdL b) t true false 0 0 [] []) ?_;exact⟨hv,a,hc,rfl⟩
  |some v =>
   rw[c] at a;have hc:=Z3O v (hf _ (Z1a c));obtain⟨g,i,j,d⟩:=v;refine FnOK.tree Z3 fp14 Zf (ZeI (bdL b) t true true g i j (Tm.cellsL d)) ?_;exact⟨hv,a,hc,rfl⟩
 ·rw[Bool.eq_false_iff.2 h] at hv;rw[if_neg h];refine FnOK.tree Z3 fp14 Zf (ZeI (bdL b) t false false 0 0 [] []) ?_;exact⟨hv,rfl⟩
end Go.Proofs.YtaclfbhhekhflaaGreatDoor
/- Binding a name: trees. -/
namespace Go.Proofs.YtaclfbhhekhflaaGreatDoor
open Go.Sx
abbrev obB (es v:LD) (c:List D):Obs:=[(0,.cells [.slice es []]),(1,.cells c)]
theorem Zi9 (es:LD) (t:LU) (b c:Int) (d:LU) (a:LD):gC (mCtr []) 1 rs34 sc34 [] [dP 0 0,dS t,dA (tC b c d a)] [] (obT es)=(Jm (frg sc34 0) {tm:=[(0,dP 0 0),(1,dS t),(5,dP 1 0)],ob:=[(0,oC [dL es []]),(1,oC [dU b,dI c,dS d,dL a []])]}:Tr):=by kernel_rfl
theorem Zib (es:LD) (t:LU) (c d:Int) (e:LU) (a:LD) (i:Int) (b:Bool):let A:=(0,oC [dL es []]);let B:=[dI i,dB b];gH (mCtr [(16,D.tuple B)]) 1 false rs34 (frg sc34 0) {tm:=[(0,dP 0 0),(1,dS t),(5,dP 1 0)],ob:=[A,(1,oC (tC c d e a))]}=(Ow (FK 57 [dL es [],dS t] (D.tuple B)) (Jm (frg sc34 1) {tm:=[(0,dP 0 0),(1,dS t),(5,dP 1 0),(7,dI i),(8,dB b)],ob:=[A,(1,oC [dU c,dI d,dS e,dL a []])]}):Tr):=by intro A B;kernel_rfl
theorem Zia (es:LD) (t:LU) (d f:Int) (g:LU) (c:LD) (i:Int) (b e:Bool) (m:LU) (k n:Int) (s:LU) (a:LD):let A:=(0,oC [dL es []]);let B:=[dU d,dI f,dS g,dL c []];gH (mCtr [(29,dB e)] [(25,bC m k n s a)]) 1 false rs34 (frg sc34 1) {tm:=[(0,dP 0 0),(1,dS t),(5,dP 1 0),(7,dI i),(8,dB b)],ob:=[A,(1,oC (tC d f g c))]}=(brT b (Ow ((0:Int)<=i/\es[Int.toNat i]? = some [dS m,dU k,dI n,dS s,dL a []]) (Ow (FK 58 [dA [dU k,dI n,dS s,dL a []],dA B] (dB e)) (Rt (dB e) [A]))) (Jm (frg sc34 2) {tm:=[(0,dP 0 0),(1,dS t),(5,dP 1 0),(7,dI i)],ob:=[A,(1,oC B)]}):Tr):=by intro A B;kernel_rfl
def MB2 (es:LD) (t:LU) (b c:Int) (d:LU) (a:LD) (i:Int):Tr:=I8 ((↑(List.length es):Int)+(1:Int)) (Ow ((0:Int)<=(↑(List.length es):Int)+(1:Int)/\((↑(List.length es):Int)+(1:Int))*(72:Int)<=(281474976710656:Int)/\(↑(List.length es):Int)+(1:Int)<=(1073741824:Int)) (Jm (frg sc34 3) {tm:=[(0,dP 0 0),(1,dS t),(5,dP 1 0),(7,dI i),(9,dV 2)],ob:=[(0,oC [dL es []]),(1,oC [dU b,dI c,dS d,dL a []]),(2,oR false 5 108 ([dS [],dU 0,dI 0,dS [],dL [] []]::List.replicate (List.length es) [dS [],dU 0,dI 0,dS [],dL [] []]))]}))
theorem ZsU (es:LD) (t:LU) (b c:Int) (d:LU) (a:LD) (i:Int):gH (mCtr []) 1 false rs34 (frg sc34 2) {tm:=[(0,dP 0 0),(1,dS t),(5,dP 1 0),(7,dI i)],ob:=[(0,oC [dL es []]),(1,oC (tC b c d a))]}=MB2 es t b c d a i:=by kernel_rfl
theorem ZsT (es:LD) (t:LU) (b c:Int) (d:LU) (a row A X:LD) (i:Int):let B:=[(0,dP 0 0),(1,dS t),(5,dP 1 0),(7,dI i),(9,dV 2)];let C:=(0,oC [dL es []]);let E:=Int.toNat i;gH (mCtr [] [(43,[dL A X])]) 1 false rs34 (frg sc34 3) {tm:=B,ob:=[C,(1,oC (tC b c d a)),(2,oR false 5 108 row)]}=(Ow (Ze 5 (es++[])/\(0:Int)<=(0:Int)/\(0:Int)<=i/\i<=(↑(List.length (es++[])):Int)) (Ow (List.drop 0 (List.take E (es++[]))=A/\List.drop E (es++[])=X) (Ow (badN 5 A<1) (Jm (frg sc34 4) {tm:=B,ob:=[C,(1,oC [dU b,dI c,dS d,dL a []]),(2,oR false 5 108 (cpyL row 0 A))]}))):Tr):=by intro B C E;kernel_rfl
theorem ZsS (es:LD) (t:LU) (b c:Int) (d:LU) (a row:LD) (i:Int):let A:=(0,oC [dL es []]);gH (mCtr []) 1 false rs34 (frg sc34 4) {tm:=[(0,dP 0 0),(1,dS t),(5,dP 1 0),(7,dI i),(9,dV 2)],ob:=[A,(1,oC (tC b c d a)),(2,oR false 5 108 row)]}=(Ow ((0:Int)<=i/\i<(↑(List.length row):Int)) (Ow (Int.toNat i<List.length row) (Jm (frg sc34 5) {tm:=[(0,dP 0 0),(7,dI i),(9,dV 1)],ob:=[A,(1,oR false 5 108 (List.set row (Int.toNat i) [dS t,dU b,dI c,dS d,dL a []]))]})):Tr):=by intro A;kernel_rfl
theorem ZsR (es row A X:LD) (i:Int):let B:=(↑(List.length es):Int);let C:=(0,oC [dL es []]);let E:=Int.toNat B;let F:=(i+(1:Int));gH (mCtr [] [(60,[dL A X])]) 1 false rs34 (frg sc34 5) {tm:=[(0,dP 0 0),(7,dI i),(9,dV 1)],ob:=[C,(1,oR false 5 108 row)]}=(I8 F (Ow (row≠[]/\(0:Int)<=i+(1:Int)/\i+(1:Int)<=(↑(List.length row):Int)) (Ow (Ze 5 (es++[])/\(0:Int)<=i/\i<=B/\B<=(↑(List.length (es++[])):Int)) (Ow (List.drop (Int.toNat i) (List.take E (es++[]))=A/\List.drop E (es++[])=X) (Ow (badN 5 A<1) (Jm (frg sc34 6) {tm:=[(0,dP 0 0),(9,dV 1)],ob:=[C,(1,oR false 5 108 (cpyL row (Int.toNat F) A))]}))))):Tr):=by intro B C E F;kernel_rfl
theorem ZsQ (es row:LD):let A:=(1,oR false 5 108 row);gH (mCtr []) 1 false rs34 (frg sc34 6) {tm:=[(0,dP 0 0),(9,dV 1)],ob:=[(0,oC [dL es []]),A]}=(Jm (frg sc34 7) {tm:=[],ob:=[(0,oC [dV 1]),A]}:Tr):=by intro A;kernel_rfl
theorem ZsP (row:LD):let A:=[(0,oC [dV 1]),(1,oR false 5 108 row)];gH (mCtr []) 1 false rs34 (frg sc34 7) {tm:=[],ob:=A}=(Rt (dB true) A:Tr):=by intro A;kernel_rfl
def bndQ (b:Bool) (r:D) (ob':Obs):QT:=λd xs ob=>match d with
 |.func (.func f) [] []=>if f=34 then some (.ok (CallL Tryz.prog d xs ob λr0 o=>r0=.bool b/\o=ob') (.bool b) ob') else if f=35 then some (.ok (CallL Tryz.prog d xs ob λr0 o=>r0=r/\o=ob) r ob) else none
 |_=>none
theorem Z8x (b:Bool) (r:D) (ob':Obs):(bndQ b r ob').OK:=by
 intro d xs ob rt h;unfold bndQ at h;split at h
 ·split at h
  ·cases h;exactλhp=>hp
  ·split at h
   ·cases h;exactλhp=>hp
   ·cases h
 ·cases h
theorem ZeK (es:LD) (t:LU) (e f:Int) (g:LU) (d:LD) (v1 a c b:Bool) (out:LD):let A:=Rt (D.tuple [dL [] [],dB false]) [];let B:=[(0,oC [dL es []])];let C:=[dU e,dI f,dS g,dL d []];gP (qCtr [(13,dB v1),(17,dB a),(22,dB c)] (bndQ b (dL out []) B)) rs12 sc12 [dL es [],dS t,dA (tC e f g d)]=(Ow (FK 32 [dL es []] (dB v1)) (brT (!v1) A (Ow (FK 9 [dS t] (dB a)) (brT (!a) A (Ow (FK 33 [dA C] (dB c)) (brT (!c) A (Ow (CF 34 [dP 0 0,dS t,dA C] B λr0 o=>r0=dB b/\o=B) (brT (!b) A (Ow (CF 35 [dP 0 0] B λr0 o=>r0=dL out []/\o=B) (Rt (D.tuple [dL out [],dB true]) []))))))))):Tr):=by intro A B C;kernel_rfl
theorem Zn8 (es:LD) (t:LU) (d e:Int) (f:LU) (c:LD) (v1 a b:Bool) (row out:LD):let A:=[(0,oC [dV 1]),(1,oR false 5 108 row)];let B:=Rt (D.tuple [dL [] [],dB false]) [];let C:=[dU d,dI e,dS f,dL c []];gP (qCtr [(13,dB v1),(17,dB a),(22,dB b)] (bndQ true (dL out []) A)) rs12 sc12 [dL es [],dS t,dA (tC d e f c)]=(Ow (FK 32 [dL es []] (dB v1)) (brT (!v1) B (Ow (FK 9 [dS t] (dB a)) (brT (!a) B (Ow (FK 33 [dA C] (dB b)) (brT (!b) B (Ow (CF 34 [dP 0 0,dS t,dA C] [(0,oC [dL es []])] λr0 o=>r0=dB true/\o=A) (Ow (CF 35 [dP 0 0] A λr0 o=>r0=dL out []/\o=A) (Rt (D.tuple [dL out [],dB true]) [])))))))):Tr):=by intro A B C;kernel_rfl
end Go.Proofs.YtaclfbhhekhflaaGreatDoor
