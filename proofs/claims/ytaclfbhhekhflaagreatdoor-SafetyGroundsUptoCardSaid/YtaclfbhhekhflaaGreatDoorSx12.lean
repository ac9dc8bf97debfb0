/- HOW MUCH WAS READ,AT MOST: by a bound on the bulk. -/
import Derived.Test.YtaclfbhhekhflaaGreatDoorSx11
import Derived.Test.YtaclfbhhekhflaaGreatDoorSx10
set_option linter.all false
namespace Go.Sx
open Go.RowKit Go.Deep Go.ChangeShapes Go.WideShapes
mutual
def szD:D->Nat
 |.slice es _=>szR es+1
 |_=>1
def szs:List D->Nat
 |[]=>0
 |d::r=>szD d+szs r
def szR:List (List D)->Nat
 |[]=>0
 |l::r=>szs l+szR r
end
theorem Z5f (l m:List D):szs (l++m)=szs l+szs m:=by
 induction l with
 |nil=>simp[szs]
 |cons a r b=>simp only[List.cons_append,szs,b];omega
structure Blk {H:Type} (f:DataW H->Nat):Prop where
 one: ∀ d,1<=f d
 sl: ∀ e s,(e.map f).sum+1<=f (.slice e s)
 ag: ∀ l,(l.map f).sum<=f (.agg l)
def Sz {H:Type} (d:DataW H) (ds:List D):Prop:=∀ f,Blk f->szs ds<=f d
theorem Zfw {H:Type} {len:Nat} {D':Nat->DataW H} {ds:Nat->List D} (s:List (DataW H)) (h: ∀ i,i<len->Sz (D' i) (ds i)):Sz (.slice ((List.range len).map D') s) [.slice ((List.range len).map ds) []]:=λf hf=>by
 have key: ∀ l:List Nat,(∀ i∈l,i<len)->szR (l.map ds)<=((l.map D').map f).sum:=by
  intro l;induction l with
  |nil=>intro _;simp[szR]
  |cons i r b =>
   intro hl;have h1:=h i (hl i (List.mem_cons_self ..)) f hf;have h2:=b λj a=>hl j (List.mem_cons_of_mem _ a);simp only[List.map_cons,szR,List.sum_cons];omega
 have h1:=key (List.range len) λi hi=>List.mem_range.1 hi;have h2:=hf.sl ((List.range len).map D') s;simp only[szs,szD];omega
variable {H:Type} {enc:TypeId × Value->H} {P:Program} {w:World}
theorem Z1R {B:Nat} {t e:TypeId} {Q:List D->Prop} {A:Nat} {cs:List Value} {x:DataW H × List MemPlace} (T:P.underlying t=some (.slice e)) (K:0<P.bytesOf e) (S:0<P.cellsOf e) (hQ: ∀ ds,Q ds->ds.length=P.cellsOf e)
  (ht:DataW.trod enc P w 0 (λ_=>true) true A t cs=some x) (O:wOK B (x.1.weights P t))
  (L: ∀ (n:Nat) (cs':List Value) (y:DataW H × List MemPlace),SizeOf.sizeOf y.1<SizeOf.sizeOf x.1->DataW.trod enc P w 0 (λ_=>true) true n e cs'=some y->wOK B (y.1.weights P e)-> ∃ ds,Q ds/\Sz y.1 ds/\CRp (memW w) cs' ds) :
  ∃ es,es.length<=B/\(∀ q∈es,Q q)/\Sz x.1 [.slice es []]/\CRp (memW w) cs [.slice es []]:=by
 rcases open_slice T ht with⟨rfl,rfl⟩|⟨a,len,cap,m,n',D',Pl,rfl,_,Y,_,hm,rfl,hx⟩
 ·refine⟨[],Nat.zero_le _,(λ_ h=>by cases h),λf hf=>hf.one _,rfl,λj v d hv c=>?_⟩;cases j with
  |zero=>simp at hv c;subst hv;subst c;exact .nil
  |succ j=>simp at hv
 ·by_cases N:len=0
  ·subst N;refine⟨[],Nat.zero_le _,(λ_ h=>by cases h),λf hf=>hf.one _,rfl,λj v d hv c=>?_⟩;cases j with
   |zero=>simp at hv c;subst hv;subst c;exact .nilA _ _
   |succ j=>simp at hv
  simp only[if_true] at hm;subst hm;have k:a.spot=none:=by
   obtain⟨cs',h1,_⟩:=hx 0 (by omega);obtain⟨_,M,s⟩:=World.cells?_some h1;have g:=s 0 (by omega);rw[List.getElem?_eq_getElem (by omega)] at g;cases hs:a.spot with
   |none=>rfl
   |some q =>
    exfalso;have W:(a.add (0*P.cellsOf e)).add 0=a:=by simp[Addr.add]
    rw[W] at g;unfold World.cell? at g;split at g
    ·grind
    ·cases g
  obtain⟨b,off,V⟩:=a;simp only at k;subst k;have G:len<=B/\ ∀ i,i<len->wOK B ((D' i).weights P e):=by
   simp only[DataW.weights,T] at O;refine⟨?_,λi hi y U=>?_⟩
   ·have:=O _ (List.mem_cons_self ..);simp only[List.length_map,List.length_range] at this;have h2:len<=(len+(m-len))*P.bytesOf e:=Nat.le_trans (Nat.le_add_right _ _) (Nat.le_mul_of_pos_right _ K);omega
   ·refine O y (List.mem_cons_of_mem _ (List.mem_append_left _ ?_));have key: ∀ (l:List (DataW H)) (d:DataW H),d∈l-> ∀ y∈d.weights P e,y∈DataW.weightsAll P e l:=by
     intro l;induction l with
     |nil=>intro d c;cases c
     |cons z r ih =>
      intro d c y U;simp only[DataW.weightsAll];rcases List.mem_cons.1 c with rfl|c
      ·grind
      ·grind
    exact key _ _ (List.mem_map.2 ⟨i,List.mem_range.2 hi,rfl⟩) y U
  have F: ∀ i,i<len-> ∃ ds,(Q ds/\Sz (D' i) ds)/\ ∃ cs',w.cells? 0 (Addr.add ⟨b,off,none⟩ (i*P.cellsOf e)) (P.cellsOf e)=some cs'/\CRp (memW w) cs' ds:=λi hi=>by
   obtain⟨cs',h1,h2⟩:=hx i (by omega);have hsz:SizeOf.sizeOf (D' i)<SizeOf.sizeOf (DataW.slice ((List.range len).map D') ((List.range (m-len)).map λj=>D' (len+j))):=by
    have:=List.sizeOf_lt_of_mem (List.mem_map.2 ⟨i,List.mem_range.2 hi,rfl⟩:D' i∈(List.range len).map D');simp only[DataW.slice.sizeOf_spec];omega
   obtain⟨ds,g,X,J⟩:=L n' cs' _ hsz h2 (G.2 i hi);exact⟨ds,⟨g,X⟩,cs',h1,J⟩
  obtain⟨ds,C⟩:=choose_lt (α:=List D) (p:=λi ds=>(Q ds/\Sz (D' i) ds)/\ ∃ cs',w.cells? 0 (Addr.add ⟨b,off,none⟩ (i*P.cellsOf e)) (P.cellsOf e)=some cs'/\CRp (memW w) cs' ds) F;have E: ∀ (i:Nat) (q:List D),((List.range len).map ds++[])[i]? = some q->i<len/\q=ds i:=by
   grind
  refine⟨(List.range len).map ds,by simpa using G.1,λq I=>?_,Zfw _ (λi hi=>(C i hi).1.2),rfl,λj v d hv c=>?_⟩
  ·grind
  ·cases j with
   |succ j=>simp at hv
   |zero =>
    simp at hv c;subst hv;subst c;have hl:len=((List.range len).map ds).length:=by simp
    have u: ∀ i j x,i<len->(ds i)[j]? = some x-> ∃ v,w.cell? ⟨b,off+i*P.cellsOf e+j,none⟩=some v/\Rep (memW w) v x:=λi j x hi o=>by
     obtain⟨_,cs',h1,h2⟩:=C i hi;obtain⟨_,M,s⟩:=World.cells?_some h1;have R:j<cs'.length:=by
      grind
     have g:=s j (by omega);rw[List.getElem?_eq_getElem R] at g;have J:w.cell? ⟨b,off+i*P.cellsOf e+j,none⟩=some cs'[j]:=by rw[addP,addP] at g;exact g
     exact⟨_,J,h2.2 j _ x (List.getElem?_eq_getElem R) o⟩
    conv=>lhs;rw[hl]
    refine .slice b off m (P.cellsOf e) _ _ (λi j=>(w.cell? ⟨b,off+i*P.cellsOf e+j,none⟩).getD Go.undef) (by simp;omega) (λq I=>?_) (λi q j x I o=>?_) (λi q j x I o=>?_)
    ·grind
    ·obtain⟨hi,rfl⟩:=E i q I;obtain⟨v,h1,_⟩:=u i j x hi o;show w.cell? _=_;rw[h1];rfl
    ·grind
theorem ZfT {B:Nat} {T:TypeId} {fs:Array Field} {f0 f1 f2 f3:Field} (a:IsTm P T fs f0 f1 f2 f3): ∀ (k c:Nat) (cs:List Value) (x:DataW H × List MemPlace),SizeOf.sizeOf x.1<=k->DataW.trod enc P w 0 (λ_=>true) true c T cs=some x →
  wOK B (x.1.weights P T)-> ∃ t:Tm,t.wf B/\Sz x.1 t.cells/\CRp (memW w) cs t.cells:=by
 intro k;induction k with
 |zero=>intro c cs x hk;exact absurd hk (by cases x.1<;>simp)
 |succ k ih =>
  intro c cs x hk N D;obtain⟨xs,n',_,rfl,m,o,hx⟩:=DataW.trod_struct a.u N;have hsz:fs.size=4:=by rw[<- Array.length_toList,a.l];rfl
  have g: ∀ (i:Nat) (f:Field),fs.toList[i]? = some f->fs[i]? = some f:=λi f h=>by simpa using h
  rw[a.l] at g;rw[hsz] at o;obtain⟨W,X,Y,C,rfl⟩:=len4 o;have h0:=hx 0 f0 (g 0 f0 rfl);have h1:=hx 1 f1 (g 1 f1 rfl);have h2:=hx 2 f2 (g 2 f2 rfl);have u:=hx 3 f3 (g 3 f3 rfl);rw[a.o0,a.c0] at h0;rw[a.o1,a.c1] at h1;rw[a.o2,a.c2] at h2;rw[a.o3,a.c3] at u;rw[a.c] at m;obtain⟨v0,v1,v2,v3,rfl⟩:=len4 m;simp only[List.drop_zero,List.drop_succ_cons,List.take_succ_cons,List.take_zero,List.getElem?_cons_zero,List.getElem?_cons_succ] at h0 h1 h2 u;have e:wOK B (DataW.weightsEach P [f0.type,f1.type,f2.type,f3.type] [W.1,X.1,Y.1,C.1]):=by
   simp only[DataW.weights,a.u,a.l,List.map_cons,List.map_nil] at D;exact D
  simp only[DataW.weightsEach] at e;obtain⟨r,G,rfl,w0⟩:=DataW.trod_int a.u0 h0;obtain⟨s,I,rfl,U⟩:=DataW.trod_int a.u1 h1;obtain⟨p,J,rfl,_⟩:=DataW.trod_string a.u2 h2;cases G;cases I;cases J;have z:p.data.toList.length<=B:=e _ (by simp[DataW.weights]);have K:SizeOf.sizeOf C.1<=k:=by
   grind
  obtain⟨es,hl,M,R,hc⟩:=Z1R (B:=B) (Q:=λds=>∃ t:Tm,t.wf B/\ds=t.cells) a.u3 a.b (by rw[a.c];decide) (λds ⟨t,_,h⟩=>by rw[h,Qq,a.c]) u (λy E=>e y (by simp[E])) λn cs' y L E O=>by
   grind
  obtain⟨l,rfl,A⟩:=ZbI M;have V:=Z68 w0;have F:=Zhi U;rw[Z5] at hl;refine⟨.mk r.toNat s p.data.toList l,⟨by omega,F.1,F.2,z,hl,A⟩,λf hf=>?_,rfl,λj v d hv b=>?_⟩
  ·have q:=R f hf;have S:=hf.ag [.lit (.int .u8 r),.lit (.int .i64 s),.lit (.string p.data.toList),C.1];have q2:=hf.one (.lit (.int .u8 r));have q3:=hf.one (.lit (.int .i64 s));have q4:=hf.one (.lit (.string p.data.toList));simp only[List.map_cons,List.map_nil,List.sum_cons,List.sum_nil] at S;simp only[Tm.cells,szs,szD] at q ⊢;simp only[List.map_cons,List.map_nil];omega
  match j,hv,b with
  |0,hv,b =>
   simp only[List.getElem?_cons_zero,Option.some.injEq,Tm.cells] at hv b;subst hv;subst b;rw[Int.toNat_of_nonneg V.1];exact .int _ _
  |1,hv,b =>
   simp only[List.getElem?_cons_zero,List.getElem?_cons_succ,Option.some.injEq,Tm.cells] at hv b;subst hv;subst b;exact .int _ _
  |2,hv,b =>
   simp only[List.getElem?_cons_zero,List.getElem?_cons_succ,Option.some.injEq,Tm.cells] at hv b;subst hv;subst b
   have:=Rep.str (φ:=memW w) p.data.toList;simpa using this
  |3,hv,b =>
   simp only[List.getElem?_cons_zero,List.getElem?_cons_succ,Option.some.injEq,Tm.cells] at hv b;subst hv;subst b;exact hc.2 0 _ _ rfl rfl
  |j+4,hv,b=>simp at hv
theorem Z2i {T:TypeId} (z:Zdb P T=true) (B:Nat): ∀ (n u:Nat) (t:TypeId) (cs:List Value) (x:DataW H × List MemPlace) (l:List ShT),shT P T n t=some l →
  DataW.trod enc P w 0 (λ_=>true) true u t cs=some x->wOK B (x.1.weights P t)-> ∃ ds,ShT.fits B l ds/\Sz x.1 ds/\CRp (memW w) cs ds
 |0,_,_,_,_,_,h,_,_=>by simp[shT] at h
 |n+1,u,t,cs,x,l,h,F,O=>by
  unfold shT at h;split at h
  ·rename_i o;cases h;obtain⟨b,rfl,_⟩:=DataW.trod_bool o F;exact⟨[.bool b],⟨_,_,rfl,⟨b,rfl⟩,rfl⟩,λf hf=>hf.one _,rfl,λj v d hv A=>by
    cases j with
    |zero=>simp at hv A;subst hv;subst A;exact .bool b
    |succ j=>simp at hv⟩
  ·rename_i k o;cases h;obtain⟨m,rfl,_,hwf⟩:=DataW.trod_int o F;exact⟨[.int k m],⟨_,_,rfl,⟨m,rfl,hwf⟩,rfl⟩,λf hf=>hf.one _,rfl,λj v d hv A=>by
    cases j with
    |zero=>simp at hv A;subst hv;subst A;exact .int k m
    |succ j=>simp at hv⟩
  ·rename_i o;cases h;obtain⟨s,rfl,rfl,_⟩:=DataW.trod_string o F;refine⟨[.str s.data.toList],⟨_,_,rfl,⟨_,rfl,?_⟩,rfl⟩,λf hf=>hf.one _,rfl,λj v d hv A=>?_⟩
   ·exact O _ (by simp[DataW.weights])
   ·cases j with
    |zero =>
     simp at hv A;subst hv;subst A
     have:=Rep.str (φ:=memW w) s.data.toList;simpa using this
    |succ j=>simp at hv
  ·rename_i e o;split at h
   ·rename_i X;have X:e=T:=by simpa using X
    subst X;cases h;obtain⟨fs,f0,f1,f2,f3,z⟩:=Z84 z;obtain⟨es,hl,hq,M,hc⟩:=Z1R (B:=B) (Q:=λds=>∃ t:Tm,t.wf B/\ds=t.cells) o z.b (by rw[z.c];decide) (λds ⟨t,_,h⟩=>by rw[h,Qq,z.c]) F O λn cs' y _ E D=>by
     obtain⟨t,h4,h6,h5⟩:=ZfT z _ n cs' y (Nat.le_refl _) E D;exact⟨t.cells,⟨t,h4,rfl⟩,h6,h5⟩
    obtain⟨l,rfl,hwl⟩:=ZbI hq;rw[Z5] at hl;exact⟨_,⟨_,_,rfl,⟨l,rfl,hl,hwl⟩,rfl⟩,M,hc⟩
   split at h
   ·rename_i R;split at h
    ·rename_i le C;split at h
     ·rename_i c;cases h;obtain⟨es,hl,hq,M,hc⟩:=Z1R (B:=B) (Q:=ShT.fits B le) o R (by omega) (λds h=>by rw[Z6V h,c.1]) F O λn0 cs' y _ E D=>Z2i z B n n0 e cs' y le C E D;exact⟨_,⟨_,_,rfl,⟨es,rfl,hl,hq⟩,rfl⟩,M,hc⟩
     ·cases h
    ·cases h
   ·cases h
  ·rename_i fs o;split at h
   ·rename_i lf hlf;split at h
    ·rename_i c;cases h;obtain⟨xs,n',_,rfl,U,hxl,hx⟩:=DataW.trod_struct o F;have key: ∀ (r:List Field) (i off:Nat) (m:List ShT),(∀ k f,r[k]? = some f->fs[i+k]? = some f)->fshT P (shT P T n) r off=some m->wOK B (DataW.weightsEach P (r.map (·.type)) ((xs.drop i).map (·.1))) →
       ∃ ds,ShT.fits B m ds/\(∀ f,Blk f->szs ds<=(((xs.drop i).map (·.1)).map f).sum)/\((off+m.length<=cs.length)->CRp (memW w) ((cs.drop off).take m.length) ds):=by
      intro r;induction r with
      |nil=>intro i off m _ hm _;simp only[fshT,Option.some.injEq] at hm;subst hm;exact⟨[],rfl,λ_ _=>Nat.zero_le _,λ_=>⟨by simp,λj v d hv=>by simp at hv⟩⟩
      |cons f r ih =>
       intro i off m hr hm q;simp only[fshT] at hm;split at hm
       ·rename_i K;split at hm
        ·rename_i N Y;split at hm
         ·rename_i J;split at hm
          ·rename_i m1 hm1;cases hm;have hf:fs[i]? = some f:=by simpa using hr 0 f rfl
           have L:=hx i f hf;have I:i<xs.length:=by
            have:=(Array.getElem?_eq_some_iff.1 hf).1;omega
           rw[List.getElem?_eq_getElem I] at L;have a:xs.drop i=xs[i]::xs.drop (i+1):=List.drop_eq_getElem_cons I;rw[a] at q;simp only[List.map_cons,DataW.weightsEach] at q;obtain⟨d1,V,hz1,G⟩:=Z2i z B n n' f.type _ _ N Y L (λy E=>q y (List.mem_append_left _ E));obtain⟨d2,W,hz2,S⟩:=ih (i+1) (off+N.length) m1 (λk g hg=>by have:=hr (k+1) g (by simpa using hg);rwa [show i+1+k=i+(k+1) by omega]) hm1 (λy E=>q y (List.mem_append_right _ E));refine⟨d1++d2,Z32 V W,λf hf=>?_,λC=>?_⟩
           ·have a1:=hz1 f hf;have a2:=hz2 f hf;rw[Z5f,a,List.map_cons,List.map_cons,List.sum_cons];omega
           rw[List.length_append] at C
           have:=S (by omega);have p:(cs.drop off).take (N++m1).length=(cs.drop off).take N.length++(cs.drop (off+N.length)).take m1.length:=by
            rw[List.length_append,List.take_add,List.drop_drop]
           rw[p];rw[K,<- J] at G;exact G.append this
          ·cases hm
         ·cases hm
        ·cases hm
       ·cases hm
     obtain⟨ds,h1,M,h2⟩:=key fs.toList 0 0 l (λk f hk=>by simpa using hk) hlf (by simpa [DataW.weights,o] using O);refine⟨ds,h1,λf hf=>Nat.le_trans (M f hf) (hf.ag _),?_⟩
     have:=h2 (by omega);simpa [c,<- U] using this
    ·cases h
   ·cases h
  ·cases h
def Bk (N:Nat) {H:Type} (d:DataW H):Prop:=∃ f,Blk f/\f d<=N
def Z7l (P:Program) (B N:Nat) (t:TypeId) (Q:D->Prop):Prop:=∀ {H:Type} {enc:TypeId × Value->H} {w:World} {r:Reach} {base b:Nat} {v:Value} {x:DataW H × List MemPlace},
 DataW.trod enc P w 0 (λ_=>true) true b t v.cells.toList=some x->wOK B (x.1.weights P t)->Bk N x.1->Value.okWide P w r base t v-> ∃ a,RV (memW w) noH v a/\Q a
section
variable [Globs] [Codes]
theorem ZaP {B N:Nat} {T t:TypeId} {l:ShT} {n:Nat} (g:Zdb P T=true) (hs:shT P T n t=some [l]) (ha:aggB P t=some false):Z7l P B N t (λa=>ShT.fit B l a):=by
 intro H enc w r base b v x hx j k c;obtain⟨cs,e,_,f⟩:=Z2i g B n b t _ _ [l] hs hx j;rcases Zc3 hs c with⟨h,_⟩|⟨_,hc⟩
 ·grind
 ·rw[hc] at f;simp only[ShT.fits] at e;obtain⟨d,ds,rfl,i,rfl⟩:=e;exact⟨d,.pure (f.2 0 v d rfl rfl),i⟩
theorem Z7L {B N:Nat} {T t:TypeId} {n:Nat} (k:Zdb P T=true) (hs:shT P T n t=some ruSh) (ha:aggB P t=some true):Z7l P B N t (λa=>∃ x:Ru,x.wf B/\szs x.cs<=N/\a=.agg x.cs):=by
 intro H enc w r base b v x hx s e g;obtain⟨cs,i,u,c⟩:=Z2i k B n b t _ _ ruSh hs hx s;obtain⟨q,p,rfl⟩:=ZjQ i;obtain⟨f,hf,e⟩:=e;rcases Zc3 hs g with⟨_,vs2,rfl⟩|⟨l,_⟩
 ·refine⟨.agg q.cs,.agg vs2 q.cs (by simpa [Value.cells] using c.1) (λj d h=>?_),q,p,Nat.le_trans (u f hf) e,rfl⟩;simp only[Value.cells] at c;have o:j<vs2.size:=by
   have:=(List.getElem?_eq_some_iff.1 h).1;rw[<- c.1] at this;simpa using this
  have m:vs2.toList[j]? = some (vs2.getD j Go.undef):=by
   simp_all
  exact .pure (c.2 j _ d m h)
 ·grind
theorem Z4J (B N:Nat) {r:Reach} {base:Nat}: ∀ (qs:List (TypeId × (D->Prop))) (vs:List Value) (ds:List (DataW H)) (ps:List MemPlace),DataW.TrodAll enc P w 0 (λ_=>true) true (qs.map (·.1)) vs ds ps->wOK B (DataW.weightsEach P (qs.map (·.1)) ds) →
  (∀ d∈ds,Bk N d)->(∀ q∈qs,Z7l P B N q.1 q.2)->(∀ (j:Nat) t v,(qs.map (·.1))[j]? = some t->vs[j]? = some v->Value.okWide P w r base t v)-> ∃ l,RVL (memW w) noH vs l/\FitQ qs l
 |[],vs,ds,ps,h,_,_,_,_=>by
  obtain⟨rfl,rfl,rfl⟩:=trodAll_nil h;exact⟨[],trivial,trivial⟩
 |q::qs,vs,ds,ps,h,b,i,hs,hv=>by
  rw[List.map_cons] at h b;obtain⟨v,f,d,c,p,u,rfl,rfl,rfl,h0,hr⟩:=trodAll_cons h;simp only[DataW.weightsEach] at b;obtain⟨l,h1,h2⟩:=Z4J B N qs f c u hr (λx hx=>b x (List.mem_append_right _ hx)) (λd n=>i d (List.mem_cons_of_mem _ n)) (λt s=>hs t (List.mem_cons_of_mem _ s)) (λj t v o e=>hv (j+1) t v (by simpa using o) (by simpa using e));obtain⟨g,hf⟩:=h0;obtain⟨a,k,m⟩:=hs q (List.mem_cons_self ..) hf (λx hx=>b x (List.mem_append_left _ hx)) (i d (List.mem_cons_self ..)) (hv 0 q.1 v rfl rfl);exact⟨a::l,⟨k,h1⟩,m,h2⟩
theorem ZdX {N:Nat} {f:FuncId} {fn:Func} {s:ChangeSpec} (qs:List (TypeId × (D->Prop))) {ts:List TypeId} (L:qs.map (·.1)=ts) {tb:TypeId} (hp:fn.params.toList=ts) (hr:fn.resultTypes.toList=[tb]) (Q:P.underlying tb=some .bool) (a:s.vars=[]) (R:s.plain.varTypes P=[])
  (K: ∀ (H:Type) (ds:List (DataW H)),ds.length=ts.length->s.fn H ds={results:=[.lit (.bool true)],args:=ds}) (O: ∀ q∈qs,Z7l P 281474976710656 N q.1 q.2) (k:laidOutB P=true)
  (M: ∀ t∈ts,P.readableRec t=true/\t<P.types.size) (r: ∀ as',FitQ qs as'->FnOK P f as' (.bool true))
  {W:World} {base:Nat} {args:Array Value} {ds V:List (DataW H)} {c:List MemPlace}
  (C: ∀ (j:Nat) t v,fn.params[j]? = some t->args[j]? = some v->Value.okWide P W .any base t v)
  (Y:DataW.Whole enc P fn.params.toList s.vars false W args.toList ds V c)
  (hsz:(DataW.weightsEach P (fn.params.toList++s.plain.varTypes P) (ds++V)).all (· <= reachBytes)=true)
  (hb: ∀ d∈ds,Bk N d) (hg:GlobC (memW W) W (λ_=>False)) :
  Calls P f args W λe W'=>∃ v,e=.returned v/\s.post enc P fn false true false false W args v W':=by
 have g:=Y;obtain⟨p,q,I,X,rfl,hfz,hnd⟩:=Y;have G:DataW.TrodAll enc P W 0 (λ_=>true) true fn.params.toList args.toList ds p:=I;rw[a] at X;obtain⟨rfl,rfl⟩:=trodVars_none X;rw[hp] at G;rw[R,hp,List.append_nil,List.append_nil] at hsz;have S:wOK 281474976710656 (DataW.weightsEach P ts ds):=λx hx=>by
  simp only[List.all_eq_true,decide_eq_true_eq] at hsz
  have:=hsz x hx;unfold reachBytes at this;omega
 have l: ∀ (j:Nat) t v,ts[j]? = some t->args.toList[j]? = some v->Value.okWide P W .any base t v:=λj t v hj hv=>C j t v (by rw[<- hp] at hj;simpa using hj) (by simpa using hv);obtain⟨as',A,n⟩:=Z4J 281474976710656 N qs args.toList ds p (by rw[L];exact G) (by rw[L];exact S) hb O (by rw[L];exact l);have u: ∀ (ts:List TypeId) (vs:List Value) (ds:List (DataW H)) (p:List MemPlace),DataW.TrodAll enc P W 0 (λ_=>true) true ts vs ds p->ds.length=ts.length:=by
  intro ts;induction ts with
  |nil=>intro vs ds p h;obtain⟨rfl,rfl,rfl⟩:=trodAll_nil h;rfl
  |cons t ts T=>intro vs ds p h;obtain⟨v,U,d,F,p,q,rfl,rfl,rfl,_,hr⟩:=trodAll_cons h;simp[T _ _ _ hr]
 have J:=u _ _ _ _ G;have i:=r as' n (memW W) noH W args (λ_=>rfl) hg (λb o v h=>h) (by simpa using A.length) (λj d hd=>by
  have:=A.get j d hd;simpa [Array.getD_eq_getD_getElem?,List.getD] using this)
 simp only[List.append_nil] at g;refine i.mono λe W' ⟨v,φ',he,z,m,_⟩=>?_;subst he;have hv:v=.bool true:=(z noH).bool_inv;subst hv;have hlt: ∀ x∈p,x.block<W.heap.size:=λx hx=>by simpa using g.lt x (by simpa using hx)
 have key: ∀ (ts:List TypeId) (vs:List Value) (ds:List (DataW H)) (p:List MemPlace),(∀ t∈ts,P.readableRec t=true/\t<P.types.size)->(∀ x∈p,x.block<W.heap.size)->DataW.TrodAll enc P W 0 (λ_=>true) true ts vs ds p →
   DataW.TrodAll enc P W' 0 (λb=>decide (b<W.heap.size)) true ts vs ds p:=by
  intro ts;induction ts with
  |nil=>intro vs ds p _ _ h;obtain⟨rfl,rfl,rfl⟩:=trodAll_nil h;exact trodAll_mk0
  |cons t ts T =>
   intro vs ds p y hx h;obtain⟨v,U,d,F,p,q,rfl,rfl,rfl,h0,hr⟩:=trodAll_cons h;have E:=y t (List.mem_cons_self ..);exact trodAll_cons_mk (Below.trod k E.1 E.2 h0 m (λx h=>hx x (List.mem_append_left _ h))) (T _ _ _ (λt E=>y t (List.mem_cons_of_mem _ E)) (λx h=>hx x (List.mem_append_right _ h)) hr)
 have B:=K H ds J;refine⟨_,rfl,ZaR (pa:=p) (pv:=[]) g (λ_ _ _=>?_) ?_ ?_ (by simp) m⟩
 ·rw[List.append_nil,B,hr];have:fn.resultTypes.size=1:=by rw[<- Array.length_toList,hr];rfl
  rw[this];exact trodAll_cons_mk (shut_bool Q _) trodAll_mk0
 ·simp_all
 ·rw[List.append_nil,B,a];rfl
end
/- What the bound gives for a rule. -/
mutual
theorem Z23: ∀ t:Tm,4*t.vs.length<=szs t.cells/\4<=szs t.cells
 |.mk k n s l=>by
  have h:=Z1M l;simp only[Tm.vs,Tm.v1,Tm.cells,szs,szD,List.length_append];split<;>simp only[List.length_cons,List.length_nil]<;>omega
theorem Z1M: ∀ l:List Tm,4*(Tm.vsL l).length<=szR (Tm.cellsL l)/\4*l.length<=szR (Tm.cellsL l)
 |[]=>by simp[Tm.vsL]
 |a::r=>by
  have h1:=Z23 a;have h2:=Z1M r;simp only[Tm.vsL,Tm.cellsL,szR,List.length_append,List.length_cons];omega
end
theorem Z5g {α:Type} {c:α->List D} {l:List α} {x:α} (h:x∈l):szs (c x)<=szR (l.map c):=by
 induction l with
 |nil=>cases h
 |cons a r b =>
  grind [szR]
theorem Z5h {α:Type} {c:α->List D} (K:Nat) (h: ∀ x,K<=szs (c x)) (l:List α):K*l.length<=szR (l.map c):=by
 induction l with
 |nil=>simp
 |cons a r b =>
  grind [List.length_cons,Nat.mul_add,szR]
theorem Z3e {α:Type} {c:α->List D} {g:α->List Tm} (h: ∀ x,4*(Tm.vsL (g x)).length<=szs (c x)) (l:List α):4*(Tm.vsL (l.flatMap g)).length<=szR (l.map c):=by
 induction l with
 |nil=>simp[Tm.vsL]
 |cons a r b =>
  grind [Z00,List.length_append,Tm.vsL,szR]
theorem Z3Q (x:Lt):4*(Tm.vsL (x.a++[x.l,x.r])).length<=szs x.c/\4*(x.a.length+2)<=szs x.c:=by
 have h1:=Z1M x.a;have h2:=Z23 x.l;have a:=Z23 x.r;simp only[Lt.c,szs,szD,Z5f,Z00,Tm.vsL,List.length_append,List.length_nil];omega
theorem Z5y (l:List Lt):4*(Tm.vsL (Zb l)).length<=szR (ltL l)/\4*(Zb l).length<=szR (ltL l)/\4*l.length<=szR (ltL l):=by
 refine⟨Z3e (λx=>(Z3Q x).1) l,?_,Z5h 4 (λx=>by have:=Z3Q x;omega) l⟩;unfold Zb ltL;induction l with
 |nil=>simp
 |cons a r b =>
  have:=Z3Q a;simp only[List.map_cons,szR,List.flatMap_cons,List.length_append,List.length_cons,List.length_nil] at b ⊢;omega
theorem Z5M {l:List Tm} (h:szR (Tm.cellsL l)<=1048576):fewT 1000000 l:=by
 have:=Z1M l;exact⟨by omega,by omega⟩
theorem Z3o {l:List Lt} (h:szR (ltL l)<=1048576):fewC 1000000 l:=by
 have:=Z5y l;refine⟨by omega,λx hx=>?_,by omega,by omega⟩;have h1:szs x.c<=szR (ltL l):=Z5g hx;have h2:=(Z3Q x).1;simp only[Z00,Tm.vsL,List.length_append,List.length_nil] at h2;exact⟨by omega,by omega,by omega⟩
theorem ZdL (x:El):4*(Tm.vsL (elT x)).length<=szs x.cs/\szs x.cs=szR (Tm.cellsL x.t)+szR (ltL x.c)+2:=by
 have h1:=Z1M x.t;have h2:=Z5y x.c;simp only[El.cs,elT,szs,szD,Z00,List.length_append];omega
theorem Zdh (x:He):4*(Tm.vsL (heT x)).length<=szs x.cs/\szs x.cs=szR (Tm.cellsL x.a)+szR (ltL x.c)+3:=by
 have h1:=Z1M x.a;have h2:=Z5y x.c;simp only[He.cs,heT,szs,szD,Z00,List.length_append];omega
theorem Zec (x:Bo):4*(Tm.vsL (boT x)).length<=szs x.cs/\szs x.cs=szs x.l.c+szR (ltL x.c)+szR (elL x.e)+szs x.b.cells+6:=by
 have h1:=Z3Q x.l;have h2:=Z5y x.c;have a:=Z3e (λy=>(ZdL y).1) x.e;have b:=Z23 x.b;have e:Zb [x.l]=x.l.a++[x.l.l,x.l.r]:=by simp[Zb]
 rw[<- e] at h1;simp only[Bo.cs,boT,elL,szs,szD,Z5f,Z00,Tm.vsL,List.length_append];omega
theorem Zp8 {r:Ru} (h:szs r.cs<=1048576):fewR 1000000 r/\(Tm.vsL (allT r)).length<=1000000:=by
 have h1:=Z23 r.lo;have h2:=Z23 r.up;have b:=Z23 r.w;have d:=Z23 r.lv;have e:=Z1M r.t;have f:=Z3e (λy=>(Zdh y).1) r.h;have g:=Z3e (λy=>(Zec y).1) r.b;have i:=Z5h (c:=He.cs) 2 (λy=>by have:=(Zdh y).2;omega) r.h;have j:=Z5h (c:=Bo.cs) 2 (λy=>by have:=(Zec y).2;omega) r.b;simp only[Ru.cs,szs,szD,Z5f,heL,boL] at h;refine⟨⟨by omega,Z5M (by omega),by omega,λx hx=>?_,by omega,λx hx=>?_⟩,?_⟩
 ·have q:szs x.cs<=_:=Z5g hx
  have:=(Zdh x).2;exact⟨Z5M (by omega),Z3o (by omega)⟩
 ·have q:szs x.cs<=_:=Z5g hx
  have:=(Zec x).2;have t:=Z23 x.b;have el:=Z5h (c:=El.cs) 2 (λy=>by have:=(ZdL y).2;omega) x.e;unfold elL at this;refine⟨Z3o (by simp only[ltL,List.map_cons,List.map_nil,szR];omega),Z3o (by omega),by omega,by omega,λy a=>?_⟩;have k:szs y.cs<=_:=Z5g a
  have:=(ZdL y).2;exact⟨Z5M (by omega),Z3o (by omega)⟩
 ·unfold allT;simp only[Z00,Tm.vsL,List.length_append,List.length_nil];omega
theorem Z9G {B:Nat} {k:IntKind}: ∀ {es:List (List D)},(∀ e∈es,ShT.fits B [.int k] e)-> ∃ l:List Int,es=intC k l
 |[],_=>⟨[],rfl⟩
 |e::r,h=>by
  have h1:=h e (List.mem_cons_self ..);simp only[ShT.fits,ShT.fit] at h1;obtain⟨_,_,rfl,⟨n,rfl,_⟩,rfl⟩:=h1;obtain⟨l,rfl⟩:=Z9G (es:=r) λx hx=>h x (List.mem_cons_of_mem _ hx);exact⟨n::l,rfl⟩
theorem Zqx {r:Ru}:(Zq r).length<=(Tm.vsL (allT r)).length/\(ZV r).length<=(Tm.vsL (allT r)).length :=
 ⟨List.Nodup.length_le_of_subset (Z1A r) λ_ hx=>Z3W hx,List.Nodup.length_le_of_subset (QW r) λ_ hx=>ZbC hx⟩
end Go.Sx
