/- Own work: a layer over the kit: plain data,a walk over it,its soundness. -/
import Derived.Test.YtecgehidegnmnaaGreatDoorSx9
import Derived.Test.YtecgehidegnmnaaGreatDoorSx10
import Derived.Test.YtecgehidegnmnaaGreatDoorSx4
import Derived.Test.YtecgehidegnmnaaGreatDoorSx6
import Derived.Test.YtecgehidegnmnaaGreatDoorSx8
set_option linter.all false
/- A row of our own that a function hands back is plain data. -/
namespace Go.Sx
open Go.RowKit
variable [Globs] [Codes]
variable {P:Program}
theorem FnOK.freezeG {f:FuncId} {args:List D} {sz:Nat} {e:TypeId} {es:List (List D)} (h:FnOK P f args (.own sz e es)):FnOK P f args (.slice es []):=by
 intro φ hh w vs h1 h2 k l m;refine (h φ hh w vs h1 h2 k l m).mono ?_;rintro p w' ⟨v,φ',rfl,n,rest⟩;refine⟨v,φ',rfl,?_,rest⟩;intro h';have a:ObR (w.heap.size<= ·) φ' noH w' v (.arr true sz e es):=n;have c:ObR (w.heap.size<= ·) φ' (λ_=>v) w' v (.arr true sz e es):=a;have hl:live v=true:=by
  obtain⟨_,_,xs,b,_⟩:=a;rcases b.2 with⟨rfl,_⟩|⟨g,cap,d,rfl,_⟩
  ·rfl
  ·rfl
 have r0:RV φ' (λ_=>v) v (.vec 0):=RV.vec (φ:=φ') (h:=λ_=>v) 0 hl;have r1:=Z32 (obs:=lk [(0,Ob.arr true sz e es)]) (h:=λ_=>v) (w:=w') (own:=(w.heap.size<= ·)) (λi o hi _=>by
  simp only[lk] at hi;split at hi
  ·cases hi;exact c
  ·cases hi) r0
 have j:dvt (lk [(0,Ob.arr true sz e es)]) (.vec 0)=.slice es []:=rfl;rw[j] at r1;cases r1 with
 |pure r=>exact .pure r
end Go.Sx
/- PANICS: what a call leaves that panics,forgotten. -/
namespace Go.Sx
open Go.RowKit
variable [Globs] [Codes]
variable {P:Program}
theorem CallL.pdrop {d:D} {args:List D} {ob:Obs} {R:D->Obs->Prop} {v:Value} (h:CallL P d args ob R) (g: ∀ r o,R r o->r=.pan v):CallL P d args ob λr o=>r=.pan v/\o=[]:=by
 intro F f n φ hh w u vs hp hv a;refine (h F f n φ hh w u vs hp hv a).mono ?_;rintro e w' ⟨r,o,φ',h',k,hr,ha⟩;have c:=g r o hr;subst c;refine⟨.pan v,[],φ',h',?_,⟨rfl,rfl⟩,⟨⟨ha.loc.one,ha.loc.glob.sub λb ⟨i,hi,_⟩=>by simp[lk] at hi,ha.loc.mem,λi o l=>by simp[lk] at l,λi j b hi=>by simp[lk] at hi⟩,ha.ext,ha.new,ha.frame,ha.hfix,ha.os,ha.tape,ha.output,ha.grow⟩⟩;rcases k with⟨x,h1,h2⟩|⟨x,h1,h2⟩
 ·exact h2.notPan.elim
 ·exact .inr ⟨x,h1,h2⟩
end Go.Sx
/- OBJECTS WHOSE CELLS NAME ROWS THAT ARE NO MORE WRITTEN TO: told as what the rows hold,the rows forgotten. -/
namespace Go.Sx
open Go.RowKit
variable [Globs] [Codes]
variable {P:Program}
end Go.Sx
/- A NIL ROW IN AN OBJECT's CELL: told as a row of our own that holds nothing. -/
namespace Go.Sx
open Go.RowKit
variable [Globs] [Codes]
variable {P:Program}
end Go.Sx
/- A ROW IN AN OBJECT's CELL UNDER A FRESH NAME. -/
namespace Go.Sx
open Go.RowKit
variable [Globs] [Codes]
variable {P:Program}
end Go.Sx
/- A NIL ROW IN A CELL OF ONE OF SEVERAL OBJECTS: told as a row of our own that holds nothing. -/
namespace Go.Sx
open Go.RowKit
variable [Globs] [Codes]
variable {P:Program}
theorem Z79 {φ:Mem} {h:Nat->Value} {x:Value} {m:Nat}: ∀ {vs:List Value} {ds:List D},RVL φ h vs ds->D.menL m ds=false->RVL φ (updH h m x) vs ds
 |[],[],_,_=>trivial
 |_::_,_::_,hr,hm=>by
  simp only[D.menL,Bool.or_eq_false_iff] at hm;exact⟨hr.1.upd m x hm.1,Z79 hr.2 hm.2⟩
 |[],_::_,hr,_=>hr.elim
 |_::_,[],hr,_=>hr.elim
theorem CallL.nilG {d:D} {args:List D} {R:D->Obs->Prop} {m i j sz:Nat} {e:TypeId} {ob ob':Obs} {cs:List D} (hsz:0<sz) (hd:D.men m d=false) (ha:D.menL m args=false) (him:i≠m)
  (hm:lk ob m=some (.arr true sz e [])) (K:lk ob' m=none) (hi:lk ob i=some (.cells cs)) (I:lk ob' i=some (.cells (cs.set j .nils))) (Y:cs[j]? = some (.vec m))
  (X: ∀ k x,k≠j->cs[k]? = some x->D.men m x=false) (ho: ∀ k,k≠i->k≠m->lk ob k=lk ob' k) (L: ∀ k o,k≠i->k≠m->lk ob k=some o->(∃ sz e es,o=.arr true sz e es)\/ ∃ cs,o=.cells cs/\D.menL m cs=false)
  (hc:CallL P d args ob R):CallL P d args ob' R:=by
 intro F hF n φ h w v vs hp hv hvs;obtain⟨h1,g⟩: ∃ x,x=updH h m (.slice none 0 0):=⟨_,rfl⟩;have B: ∀ k,k≠m->h1 k=h k:=λk a=>by rw[g];exact Zi _ _ a
 have C:h1 m=.slice none 0 0:=by rw[g];exact Zw _ _ _
 have c: ∀ k,k≠m->((lk ob k).isSome ↔ (lk ob' k).isSome):=λk a=>by
  by_cases q:k=i
  ·subst q;rw[hi,I];simp
  ·rw[ho k q a]
 have S: ∀ b,ZOf ob h1 b ↔ ZOf ob' h b:=λb=>by
  constructor
  ·rintro⟨k,a,s⟩;by_cases q:k=m
   ·subst q;rw[C] at s;cases s
   ·rw[B k q] at s;exact⟨k,(c k q).1 a,s⟩
  ·rintro⟨k,a,s⟩;by_cases q:k=m
   ·subst q;rw[K] at a;cases a
   ·exact⟨k,(c k q).2 a,by rw[B k q];exact s⟩
 have N:HOne h1:=λk=>by
  by_cases q:k=m
  ·subst q;rw[C];rfl
  ·rw[B k q];exact hp.one k
 have hl:Loc (λ_=>True) ob φ h1 w:=by
  refine⟨N,hp.glob.sub λb s=>(S b).1 s,hp.mem,λk o a=>?_,λk l b a hlk t u=>?_⟩
  ·by_cases A:k=m
   ·subst A;rw[hm] at a;cases a;rw[C];exact⟨hsz,by simp,[],World.ownsRow_nil w 0 e sz,by simp,λb s=>by cases s⟩
   ·rw[B k A];by_cases q:k=i
    ·subst q;rw[hi] at a;cases a;obtain⟨b,vals,ty,T,U,V,Q,H,W⟩:=hp.obj k _ I;refine⟨b,vals,ty,T,U,V,by simpa using Q,λl x hx=>?_,W⟩;by_cases ql:l=j
     ·subst ql;rw[Y] at hx;cases hx;have hlt:l<cs.length:=by
       apply Classical.byContradiction;intro hn;rw[List.getElem?_eq_none (by omega)] at Y;cases Y
      have:=(H l .nils (by rw[List.getElem?_set_self hlt])).nils_inv;rw[this,<- C];exact .vec m (by rw[C];rfl)
     ·rw[g];exact (H l x (by rw[List.getElem?_set_ne (λh=>ql h.symm)];exact hx)).upd m _ (X l x ql hx)
    ·have G:=a;rw[ho k q A] at G;have M:=hp.obj k o G;rcases L k o q A a with⟨sz',e',es',rfl⟩|⟨cs',rfl,E⟩
     ·exact M
     ·obtain⟨b,vals,ty,T,U,V,Q,H,W⟩:=M;refine⟨b,vals,ty,T,U,V,Q,λl x hx=>?_,W⟩;rw[g];refine (H l x hx).upd m _ ?_;clear Q H a G;induction cs' generalizing l with
      |nil=>simp at hx
      |cons y r ih =>
       simp only[D.menL,Bool.or_eq_false_iff] at E;cases l with
       |zero=>simp at hx;subst hx;exact E.1
       |succ l=>exact ih E.2 l (by simpa using hx)
  ·have p:k≠m:=λq=>by subst q;rw[C] at t;cases t
   have J:l≠m:=λq=>by subst q;rw[C] at u;cases u
   rw[B k p] at t;rw[B l J] at u;exact hp.sep k l b ((c k p).1 a) ((c l J).1 hlk) t u
 have hv1:RV φ h1 v d:=by rw[g];exact hv.upd m _ hd
 have O:RVL φ h1 vs.toList args:=by rw[g];exact Z79 hvs ha
 refine (hc F hF n φ h1 w v vs hl hv1 O).mono ?_;rintro en w' ⟨r,o,φ',h',he,hR,f⟩;have hzz:(λb=>w.heap.size<=b\/ZOf ob h1 b)=λb=>w.heap.size<=b\/ZOf ob' h b:=funext λb=>propext (or_congr Iff.rfl (S b));have z:=f.loc;rw[hzz] at z;refine⟨r,o,φ',h',he,hR,⟨z,f.ext,λb o v A q2=>(f.new b o v A q2).imp_right (S b).1,λb A q2=>f.frame b A λq=>q2 ((S b).1 q),λk a=>?_,f.os,f.tape,f.output,f.grow⟩⟩;have p:k≠m:=λq=>by subst q;rw[K] at a;cases a
 rw[f.hfix k ((c k p).2 a),B k p]
theorem CallL.reG {d:D} {args:List D} {ob os m:Obs} {r0:D} {a b i j sz:Nat} {e:TypeId} {es:List (List D)} {cs:List D} (hab:a≠b) (hia:i≠a) (hib:i≠b) (hob:lk ob b=none) (hr0:D.men b r0=false)
  (ha:lk os a=some (.arr true sz e es)) (hb:lk os b=none) (X:lk m b=some (.arr true sz e es)) (p:lk m a=none) (hi:lk os i=some (.cells cs)) (hi':lk m i=some (.cells (cs.set j (.vec b)))) (hj:cs[j]? = some (.vec a))
  (hcs:D.menL b cs=false) (ho: ∀ k,k≠i->k≠a->k≠b->lk os k=lk m k) (K: ∀ k o,k≠i->k≠a->k≠b->lk os k=some o->(∃ sz e es,o=.arr true sz e es)\/ ∃ cs,o=.cells cs/\D.menL b cs=false)
  (hc:CallL P d args ob λr o=>r=r0/\o=os):CallL P d args ob λr o=>r=r0/\o=m:=by
 intro F hF n φ h w v vs hp hv hvs;refine (hc F hF n φ h w v vs hp hv hvs).mono ?_;rintro en w' ⟨r,o,φ',h',he,⟨rfl,rfl⟩,f⟩;obtain⟨h2,s⟩: ∃ x,x=updH h' b (h' a):=⟨_,rfl⟩;have J: ∀ k,k≠b->h2 k=h' k:=λk g=>by rw[s];exact Zi _ _ g
 have G:h2 b=h' a:=by rw[s];exact Zw _ _ _
 have B: ∀ (cs:List D) (l:Nat) (x:D),D.menL b cs=false->cs[l]? = some x->D.men b x=false:=λcs=>by
  induction cs with
  |nil=>intro l x _ hx;simp at hx
  |cons y r ih =>
   intro l x hm hx;simp only[D.menL,Bool.or_eq_false_iff] at hm;cases l with
   |zero=>simp at hx;subst hx;exact hm.1
   |succ l=>exact ih l x hm.2 (by simpa using hx)
 -- whose name N for which
 have hz: ∀ c,ZOf m h2 c->ZOf o h' c:=by
  rintro c ⟨k,g,hc⟩;by_cases q:k=b
  ·subst q;exact⟨a,by rw[ha];rfl,by rw[<- G];exact hc⟩
  ·have I:k≠a:=λh=>by subst h;rw[p] at g;cases g
   refine⟨k,?_,by rw[<- J k q];exact hc⟩;by_cases z:k=i
   ·subst z;rw[hi];rfl
   ·rw[ho k z I q];exact g
 have L:HOne h2:=λk=>by
  by_cases q:k=b
  ·subst q;rw[G];exact f.loc.one a
  ·rw[J k q];exact f.loc.one k
 refine⟨r,_,φ',h2,?_,⟨rfl,rfl⟩,⟨⟨L,f.loc.glob.sub hz,f.loc.mem,λk x g=>?_,λk l c g hl t Y=>?_⟩,f.ext,f.new,f.frame,λk g=>?_,f.os,f.tape,f.output,f.grow⟩⟩
 ·rcases he with⟨u,C,q2⟩|q
  ·exact .inl ⟨u,C,by rw[s];exact q2.upd b _ hr0⟩
  ·exact .inr q
 ·by_cases q:k=b
  ·subst q;rw[X] at g;cases g;rw[G];exact f.loc.obj a _ ha
  ·have I:k≠a:=λh=>by subst h;rw[p] at g;cases g
   rw[J k q];by_cases z:k=i
   ·subst z;rw[hi'] at g;cases g;obtain⟨W,vals,ty,R,S,T,U,M,V⟩:=f.loc.obj k _ hi;refine⟨W,vals,ty,R,S,T,by simpa using U,λl x hx=>?_,V⟩;by_cases ql:l=j
    ·subst ql;have hlt:l<cs.length:=by
      apply Classical.byContradiction;intro hn;rw[List.getElem?_eq_none (by omega)] at hj;cases hj
     rw[List.getElem?_set_self hlt] at hx;cases hx;have q7:=M l _ hj;have q8:=q7.vec_live;rw[q7.vec_inv,<- G];exact .vec b (by rw[G];exact q8)
    ·rw[List.getElem?_set_ne (λh=>ql h.symm)] at hx;rw[s];exact (M l x hx).upd b _ (B cs l x hcs hx)
   ·have E:=g;rw[<- ho k z I q] at E;have A:=f.loc.obj k x E;rcases K k x z I q E with⟨sz',e',es',rfl⟩|⟨cs',rfl,hcm⟩
    ·exact A
    ·obtain⟨W,vals,ty,R,S,T,U,M,V⟩:=A;exact⟨W,vals,ty,R,S,T,U,λl x hx=>by rw[s];exact (M l x hx).upd b _ (B cs' l x hcm hx),V⟩
 ·-- each block is named once
  have nm: ∀ k,(lk m k).isSome->blk (h2 k)=some c-> ∃ k',(k'=if k=b then a else k)/\(lk o k').isSome/\blk (h' k')=some c:=λk g t=>by
   by_cases q:k=b
   ·subst q;exact⟨a,by simp,by rw[ha];rfl,by rw[<- G];exact t⟩
   ·have I:k≠a:=λh=>by subst h;rw[p] at g;cases g
    refine⟨k,by simp[q],?_,by rw[<- J k q];exact t⟩;by_cases z:k=i
    ·subst z;rw[hi];rfl
    ·rw[ho k z I q];exact g
  obtain⟨k1,C,q2,q3⟩:=nm k g t;obtain⟨l1,H,p2,p3⟩:=nm l hl Y
  have:=f.loc.sep k1 l1 c q2 p2 q3 p3;subst this;have ka:k≠a:=λh=>by subst h;rw[p] at g;cases g
  have la:l≠a:=λh=>by subst h;rw[p] at hl;cases hl
  by_cases O:k=b<;>by_cases Q:l=b
  ·rw[O,Q]
  ·rw[if_pos O] at C;rw[if_neg Q] at H;exact absurd (H.symm.trans C) la
  ·rw[if_neg O] at C;rw[if_pos Q] at H;exact absurd (C.symm.trans H) ka
  ·rw[if_neg O] at C;rw[if_neg Q] at H;exact C.symm.trans H
 ·have q:k≠b:=λh=>by subst h;rw[hob] at g;cases g
  rw[J k q,f.hfix k g]
theorem CallL.unN {d:D} {args:List D} {ob os:Obs} {cs:List D} {j:Nat} (b:cs[j]? = some .nils) (hc:CallL P d args ob λr o=>r=.agg cs/\o=os):CallL P d args ob λr o=>r=.agg (cs.set j (.slice [] []))/\o=os:=by
 intro F g n φ h w v vs hp hv f;refine (hc F g n φ h w v vs hp hv f).mono ?_;intro k w' a;obtain⟨u,r0,ob1,φ',h',rfl,⟨rfl,rfl⟩,e,ha⟩:=a.dest λr o hr=>by rw[hr.1];rfl
 obtain⟨i,rfl,h1,h2⟩:=e.agg_inv;have c:j<cs.length:=by
  apply Classical.byContradiction;intro m;rw[List.getElem?_eq_none (by omega)] at b;cases b
 refine .ret ⟨rfl,rfl⟩ (.agg _ _ (by simpa using h1) λl x hx=>?_) ha;by_cases q:l=j
 ·subst q;rw[List.getElem?_set_self c] at hx;cases hx;rw[(h2 l _ b).nils_inv];exact .pure .nil
 ·rw[List.getElem?_set_ne (λh=>q h.symm)] at hx;exact h2 l x hx
end Go.Sx
/- A FUNCTION THAT DEFERS A CALL,BY TREES. -/
namespace Go.Sx
open Go.RowKit
variable [Globs] [Codes]
section
variable {P:Program}
def goLn (tb:Ctr) (bs:Nat):SC->St->(Exit->St->Tr)->Tr
 |.skip,s,K=>K .normal s
 |.ret,s,K=>K .ret s
 |.exit i,s,K=>K (.exit i) s
 |.reg ops,s,K=>opsT tb (s.nx bs) ops s λs'=>K .normal s'
 |.drw pre ops,s,K=>caT tb (s.nx bs) ops s λes s'=>if dchk (s.nx bs) pre ops es s=true then K .normal s' else .bad
 |.seq a b,s,K=>goLn tb bs a s λe s'=>match e with
  |.normal=>goLn tb bs b s' K
  |e=>K e s'
 |.cond x a b,s,K=>match s.get x with
  |.bool t=>brT t (goLn tb bs a s K) (goLn tb bs b s K)
  |_=>.bad
 |_,_,_=>.bad
theorem ZfS {tb:Ctr} (g:tb.OK P) {bs:Nat} {R:D->Obs->Prop} {J:List Fr->St->Prop}: ∀ (sc:SC) (s:St) (K:Exit->St->Tr) (Q:Exit->St->Prop),(∀ e s,(K e s).ok R J->Q e s)->(goLn tb bs sc s K).ok R J->sw P bs sc Q s:=by
 intro sc;induction sc with
 |skip=>exactλs K Q c h=>c _ _ h
 |ret=>exactλs K Q c h=>c _ _ h
 |exit i=>exactλs K Q c h=>c _ _ h
 |reg ops =>
  intro s K Q c h;obtain⟨s1,h1,h2⟩:=Z2L g h;exact h1 _ (c _ _ h2)
 |drw pre ops =>
  intro s K Q c h;obtain⟨es,s1,h1,h2⟩:=Zan g h;split at h2
  ·rename_i j;exact⟨es,s1,h1,j,c _ _ h2⟩
  ·exact h2.elim
 |seq a b d f =>
  intro s K Q c h;refine d s _ _ (λe s' h'=>?_) h;cases e<;>first|exact f s' K Q c h'|exact c _ _ h'
 |cond x a b d f =>
  intro s K Q c h;simp only[goLn] at h;simp only[sw];split at h
  ·rename_i t hx;rw[hx];cases t
   ·exact f s K Q c h
   ·exact d s K Q c h
  ·exact h.elim
 |_=>exactλs K Q c h=>h.elim
def goD (tb:Ctr) (bs:Nat) (rs:List SR):SC->St->Tr
 |.seq a b,s=>match a with
  |.spec (.dfr ops x)=>opsT tb (s.nx bs) ops s λs1=>.jmp [.sc (.seq (.spec (.dfr [] x)) b)] s1
  |.spec (.frg ts)=>goD tb bs rs b (s.canon bs ts)
  |a=>goLn tb bs a s λe s=>match e with
   |.normal=>goD tb bs rs b s
   |e=>finF false bs rs e s
 |_,_=>.bad
def JD (P:Program) (bs:Nat) (rs:List SR) (R:D->Obs->Prop):List Fr->St->Prop:=λK s=>match K with
 |[.sc (.seq (.spec (.dfr _ x)) b)]=>KDef P bs rs R (s.get x) b s
 |_=>False
theorem ZiK {tb:Ctr} (f:tb.OK P) {bs:Nat} {rs:List SR} {R:D->Obs->Prop}: ∀ (sc:SC) (s:St),(goD tb bs rs sc s).ok R (JD P bs rs (RE false R)) →
  swD P bs (EndQ rs (RetL bs (RE false R))) (KDef P bs rs (RE false R)) sc s:=by
 intro sc;induction sc with
 |seq a b j g =>
  intro s h;have d:(goLn tb bs a s λe s=>match e with
   |.normal=>goD tb bs rs b s
   |e=>finF false bs rs e s).ok R (JD P bs rs (RE false R))->sw P bs a (thenS (swD P bs (EndQ rs (RetL bs (RE false R))) (KDef P bs rs (RE false R)) b) (EndQ rs (RetL bs (RE false R)))) s:=λh=>by
   refine ZfS f a s _ _ (λe s' h'=>?_) h;cases e with
   |normal=>exact g s' h'
   |ret=>exact Z16 .ret s' h'
   |exit i=>exact (Z16 (.exit i) s' h').elim
   |goto i=>exact (Z16 (.goto i) s' h').elim
   |panic c=>exact Z16 (.panic c) s' h'
   |outgrown=>exact (Z16 .outgrown s' h').elim
  cases a with
  |spec k =>
   cases k with
   |dfr ops x =>
    obtain⟨s1,h1,h2⟩:=Z2L f h;exact h1 _ h2
   |frg ts=>exact g _ h
   |_=>exact d h
  |_=>exact d h
 |_=>exactλs h=>h.elim
theorem KDef.at {k k2:Nat} {rs:List SR} {R:D->Obs->Prop} {cl:D} {d:SC} {s1:St} (g:FuncId) (fa c:List D) (a:cl=.func (.func g) fa c) (b:QE P g=true) (h1:s1.top<=k2) (h2:k<=k2) (e:D.top cl<=k2) (h:At P k2 [.sc d] s1 (DefQ P k k2 rs cl R)):KDef P k rs R cl d s1 :=
 ⟨g,fa,c,k2,a,b,h1,h2,e,Z85 h⟩
def defT (P:Program) (c:FrameMode->Obs->Option (FrameMode × Obs)) (k k2:Nat) (rs:List SR) (cl:D) (u:FrameMode) (a:St):Tr :=
 let nm:=Z1u a [cl]
 if Z0s nm=true then (match c u (Q4 a.ob (idx · nm) 0 nm) with
  |some (b,ob')=>.owe (CallD P u (cl.ren (idx · nm)) (Q4 a.ob (idx · nm) 0 nm) λu0 ob0=>u0=b/\ob0=ob') (match settle b with
   |.returning=>endT false k rs (a.back (a.base k2) nm ob')
   |_=>.bad)
  |none=>.bad) else .bad
theorem Zg8 {d:FrameMode->Obs->Option (FrameMode × Obs)} {k k2:Nat} {rs:List SR} {cl:D} {u:FrameMode} {b:St} {R:D->Obs->Prop} {J:List Fr->St->Prop} (h:(defT P d k k2 rs cl u b).ok R J):DQ P k k2 rs cl (RE false R) u b:=by
 unfold defT at h;simp only at h;split at h
 ·rename_i a;split at h
  ·rename_i e ob' _;obtain⟨c,h⟩:=h;split at h
   ·rename_i hs;obtain⟨ds,h1,h2⟩:=Za0 h;refine⟨_,_,b.base k2,Zx a,λi hi=>ZO i hi,Nat.le_trans (Nat.le_add_right _ _) (Nat.le_max_left ..),Nat.le_max_right ..,c,?_⟩;rintro u0 ob0 ⟨rfl,rfl⟩;exact⟨hs,ds,h1,h2⟩
   ·exact h.elim
  ·exact h.elim
 ·exact h.elim
def Z9Q (P:Program) (a:FrameMode->Obs->Option (FrameMode × Obs)) (k k2:Nat) (rs:List SR) (cl:D):Exit->St->Tr:=λe s=>match e with
 |.normal=>defT P a k k2 rs cl .returning s
 |.ret=>defT P a k k2 rs cl .returning s
 |.panic c=>defT P a k k2 rs cl (.panicking c) s
 |_=>.bad
theorem Zc1 {a:FrameMode->Obs->Option (FrameMode × Obs)} {k k2:Nat} {rs:List SR} {cl:D} {R:D->Obs->Prop} {J:List Fr->St->Prop} (e:Exit) (s:St) (h:(Z9Q P a k k2 rs cl e s).ok R J):DefQ P k k2 rs cl (RE false R) e s:=by
 cases e<;>first|exact Zg8 h|exact h.elim
theorem At.treeD {tb:Ctr} (a:tb.OK P) {b:FrameMode->Obs->Option (FrameMode × Obs)} {n k k2:Nat} {rs:List SR} {cl:D} {K:List Fr} {s:St} {R:D->Obs->Prop} {T:Tr} (e:goT P tb k2 (Z9Q P b k k2 rs cl) n K s=T)
  (h:T.ok R (λK s=>At P k2 K s (DefQ P k k2 rs cl (RE false R)))):At P k2 K s (DefQ P k k2 rs cl (RE false R)) :=
 Z2V a Zc1 (λ_ _ h=>h) (e ▸ h)
theorem CallL.treeD [CodesOf P] (Z5:DrawSound P) {f:FuncId} {N:Nat} {sc:SC} {rs:List SR} (hf:FnC P f N sc rs/\QE P f=true) {tb:Ctr} (c:tb.OK P) {bs:Nat} {first args caps:List D} {ob:Obs} {R:D->Obs->Prop} {T:Tr}
  (e:goD tb bs rs sc ⟨Zu 0 (first++args++caps),ob⟩=T) (h:T.ok R (JD P bs rs (RE false R))) (a:Nat.ble (first++args++caps).length N=true:=by rfl) (b:Nat.ble (Obs.top ob) bs=true:=by rfl):CallL P (.func (.func f) first caps) args ob R :=
 CallL.reordG (CallL.fnD Z5 hf.1 hf.2 bs (Nat.le_of_ble_eq_true b) (Nat.le_of_ble_eq_true a) (ZiK c sc _ (e ▸ h)))
def Zlk (k:Nat):Exit->St->Tr:=λe s=>match e with
 |.normal=>.ret (.tuple []) (s.fin k (.tuple [])).ob
 |.ret=>.ret (.tuple []) (s.fin k (.tuple [])).ob
 |_=>.bad
def goRc (P:Program) (tb:Ctr) (k n:Nat) (ops:List SOp) (a:SC) (s0:St):Tr:=opsT tb (St.nx s0 k) ops s0 λs1=>goT P tb k (Zlk k) n [.sc a] s1
theorem CallD.tree [CodesOf P] (Z5:DrawSound P) {g:FuncId} {N t:Nat} {ops:List SOp} {d:SC} (hf:FnC P g N (.seq (.spec (.rcv t ops)) d) []) {tb:Ctr} (c:tb.OK P) {first caps:List D} {ob:Obs} {n k:Nat} {u:FrameMode} {R:FrameMode->Obs->Prop} {T:Tr}
  (e:goRc P tb k n ops d ⟨(t,.raw (recM u).1)::Za t (Zu 0 (first++caps)),ob⟩=T)
  (h:T.ok (λ_ ob'=>R (recM u).2 ob') (λ_ _=>False)) (b:(recM u).1.oneCell'=true:=by rfl) (a:Nat.ble (first++caps).length N=true:=by rfl) (f:Nat.ble (Obs.top ob) k=true:=by rfl):CallD P u (.func (.func g) first caps) ob R:=by
 have h':(goRc P tb k n ops d ⟨(t,.raw (recM u).1)::Za t (Zu 0 (first++caps)),ob⟩).ok (λ_ ob'=>R (recM u).2 ob') (λ_ _=>False):=e ▸ h;unfold goRc at h';obtain⟨s1,h1,h2⟩:=Z2L c h';refine CallD.fn Z5 hf k (Nat.le_of_ble_eq_true f) (Nat.le_of_ble_eq_true a) b (h1 _ (Z85 (Z2V c (λe s hf=>?_) (λ_ _ h=>h.elim) h2)));cases e with
 |normal=>exact⟨.inl rfl,hf⟩
 |ret=>exact⟨.inr rfl,hf⟩
 |_=>exact hf.elim
end
end Go.Sx
/- How many bytes tokens take: no more than so many shown predicates. -/
namespace Go.Sx.Lx
open Go.Sx
def ZiF:List UInt8->Bool
 |b::_=>Z09 b
 |[]=>false
def AdjL (a:Nat):List Tk->Prop
 |[]=>True
 |[t]=>t.2.2+t.2.1.length<=a
 |t::u::r=>t.2.2+t.2.1.length+(if t.1=5/\ZiF u.2.1=true then 1 else 0)<=u.2.2/\AdjL a (u::r)
end Go.Sx.Lx
namespace Go.Sx.Ps
open Go.Sx
open Go.Sx.Lx (Tk AdjL ZiF)
def Z7L (ts:List Tk) (a i:Nat):Int:=match ts[i]? with
 |some t=>t.2.2
 |none=>a
def ZbF {α:Type} (ts:List Tk) (s:List UInt8) (z:α) (x:PR α):α × Int × Int:=match Zkx ts x with
 |.ok a _=>(a,0,0)
 |.bad k e=>(z,Z7L ts s.length k,e)
def Zhg {α:Type} (z:α) (s:List UInt8) (f:List Tk->PR α):α × Int × Int:=if (Lx.Qh s).2.2=0 then ZbF (Lx.Qh s).1 s z (f (Lx.Qh s).1) else (z,(Lx.Qh s).2.1,(Lx.Qh s).2.2)
def Qn (s:List UInt8):Ac × Int × Int:=Zhg ⟨[],[],[],false⟩ s Qi
def Z5A (s:List UInt8):Ru × Int × Int:=Zhg zR s λts=>Zy ts 0
theorem Z49 {ts:List Tk}: ∀ (n:Nat) (a b:Ac) (i j:Nat),Z1I ts n a i=.ok b j-> ¬ j<ts.length
 |0,_,_,_,_,h=>by cases h
 |n+1,a,b,i,j,h=>by
  unfold Z1I at h;split at h
  ·cases hx:Zz ts a i with
   |bad c e=>rw[hx] at h;cases h
   |ok c k=>rw[hx] at h;exact Z49 n c b k j h
  ·rename_i d;cases h;exact d
end Go.Sx.Ps
/- What is parsed is of moderate size. -/
namespace Go.Sx.Ps
open Go.Sx
open Go.Sx.Lx (Tk)
abbrev BB:Nat:=281474976710656
theorem Z3h {t:Tm} (h:TV t):t.wf BB:=by
 rcases h with rfl|h
 ·simp[Tm.wf,Tm.wfL]
 ·unfold Vd Tm.valid at h;simp only[Bool.and_eq_true] at h;exact Ze8 t h.2
theorem Zhm {t:Tm} (h:Vd t):t.wf BB:=Z3h (.inr h)
def LtW (l:Lt):Prop:=l.l.wf BB/\l.r.wf BB/\(∀ x∈l.a,x.wf BB)/\l.a.length<=1000000
def CdW (l:List Lt):Prop:=(∀ x∈l,LtW x)/\l.length<=1000000
def TuW (l:List Tm):Prop:=(∀ x∈l,x.wf BB)/\l.length<=1000000
def ElW (e:El):Prop:=TuW e.t/\CdW e.c
def BoW (b:Bo):Prop:=b.b.wf BB/\LtW b.l/\CdW b.c/\(∀ e∈b.e,ElW e)/\b.e.length<=1000000
def HeW (h:He):Prop:=TuW h.a/\CdW h.c
def RuW (r:Ru):Prop:=r.lo.wf BB/\r.up.wf BB/\r.w.wf BB/\r.lv.wf BB/\TuW r.t/\((∀ x∈r.h,HeW x)/\r.h.length<=1000000)/\(∀ x∈r.b,BoW x)/\r.b.length<=1000000
def CoW (c:Co):Prop:=c.v.wf BB
def AcW (a:Ac):Prop:=((∀ x∈a.r,RuW x)/\a.r.length<=1000000)/\((∀ x∈a.c,CoW x)/\a.c.length<=1000000)/\a.s.length<=1000000
theorem Zis {l:Lt} (h:LtT l):LtW l:=⟨Z3h h.1,Z3h h.2.1,λx hx=>Z3h (h.2.2.1 x hx),by have:=h.2.2.2;omega⟩
theorem Zgd {l:List Lt} (h:CdV l):CdW l:=⟨λx hx=>Zis (h.1 x hx).2,by have:=h.2;omega⟩
theorem Zhv {l:List Tm} (h:TuV l):TuW l:=⟨λx hx=>Zhm (h.1 x hx),by have:=h.2;omega⟩
theorem Zlr {e:El} (h:ElV e):ElW e:=⟨Zhv h.1,Zgd h.2.2⟩
theorem Zlx {b:Bo} (h:BoV b):BoW b:=⟨Z3h h.1,Zis h.2.1,Zgd h.2.2.1,λe a=>Zlr (h.2.2.2.1.1 e a),by have:=h.2.2.2.1.2;omega⟩
theorem Zl9 {h:He} (hv:HeV h):HeW h:=⟨⟨λx hx=>Z3h (hv.2.2.1 x hx),by have:=hv.2.1;omega⟩,Zgd hv.2.2.2⟩
theorem ZkL {r:Ru} (h:RuV r):RuW r:=⟨Z3h h.lo,Z3h h.up,Z3h h.w,Z3h h.lv,Zhv h.t,⟨λx hx=>Zl9 (h.h x hx),by have:=h.hl;omega⟩,λx hx=>Zlx (h.b.1 x hx),by have:=h.b.2;omega⟩
theorem ZlA:AcV ⟨[],[],[],false⟩:=⟨nofun,by decide,nofun,by decide,by decide,nofun⟩
theorem Z4S {ts:List Tk} {s:List UInt8} {z:Ac} {b:Ac} {j:Nat} (h:Qi ts=.ok b j):ZbF ts s z (Qi ts)=(b,0,0):=by
 have:=Z49 _ _ _ _ _ h;unfold ZbF Zkx;rw[h];simp only[PR.bind];rw[if_neg this]
theorem Zio {ts:List Tk} (H:Z86 ts) (s:List UInt8):AcV (ZbF ts s ⟨[],[],[],false⟩ (Qi ts)).1:=by
 have hv:=Z8m H;cases hp:Qi ts with
 |bad k e=>exact ZlA
 |ok b j=>rw[<- hp,Z4S hp];rw[hp] at hv;exact hv
end Go.Sx.Ps
/- Programs hang on their tokens alone. -/
namespace Go.Sx.Ps
open Go.Sx
open Go.Sx.Lx (Tk AdjL)
theorem ZbP {src:List UInt8} (h:(Lx.Qh src).2.2=0):(Lx.Qh src).1=(Lx.run 0 src).1/\src.length<=32768/\(Lx.run 0 src).2.1=none/\(Lx.Qh src).2.1=0:=by
 rw[Lx.Z9x] at h ⊢;split at h
 ·cases h
 ·rename_i hl;rw[if_neg hl];have b:=Lx.Z8T (src.length+1) src 0 (Nat.lt_succ_self _);generalize Lx.run 0 src=q at h b ⊢;obtain⟨l,o,n⟩:=q;cases o with
  |none=>exact⟨rfl,by omega,rfl,rfl⟩
  |some x =>
   obtain⟨a,e⟩:=x
   have:=(b a e rfl).1;exact absurd h this
theorem ZbO {src:List UInt8} (h:(Lx.Qh src).2.2=0):Z86 (Lx.Qh src).1:=by
 rw[(ZbP h).1];exact Lx.Z8R (src.length+1) src 0 (Nat.lt_succ_self _)
end Go.Sx.Ps
/- One program behind another. -/
namespace Go.Sx.Ps
open Go.Sx
open Go.Sx.Lx (Tk AdjL)
end Go.Sx.Ps
/- All terms of a rule;what is parsed is within the limits. -/
namespace Go.Sx.Ps
open Go.Sx
theorem Z3O (a b:List Tm):Tm.cellsL (a++b)=Tm.cellsL a++Tm.cellsL b:=by simp only[Ql,List.map_append]
def aIn (l:List Lt):List Tm:=l.flatMap λx=>x.l::x.r::x.a
def aHe (l:List He):List Tm:=l.flatMap λh=>h.a++aIn h.c
def aEl (l:List El):List Tm:=l.flatMap λe=>e.t++aIn e.c
def aBo (l:List Bo):List Tm:=l.flatMap λb=>b.b::(aIn (b.l::b.c)++aEl b.e)
def aRu (r:Ru):List Tm:=r.lo::r.up::r.w::r.lv::(r.t++(aHe r.h++aBo r.b))
theorem Z1L {α β:Type} {f:α->List β} {n:Nat}: ∀ {l:List α},(∀ x∈l,(f x).length<=n)->(l.flatMap f).length<=n*l.length
 |[],_=>by simp
 |a::r,h=>by
  have h1:=h a (by simp);have h2:=Z1L (l:=r) λx hx=>h x (by simp[hx]);simp only[List.flatMap_cons,List.length_append,List.length_cons,Nat.mul_add,Nat.mul_one];omega
theorem Z9y {l:List Lt} (h: ∀ x∈l,LtT x):(aIn l).length<=10*l.length:=Z1L λx hx=>by have:=(h x hx).2.2.2;simp only[List.length_cons];omega
theorem ZdU {l:List Lt} (h: ∀ x∈l,LtT x): ∀ t∈aIn l,TV t:=by
 intro t a;obtain⟨x,hx,a⟩:=List.mem_flatMap.1 a
 have:=h x hx;rcases List.mem_cons.1 a with rfl|a
 ·exact this.1
 ·rcases List.mem_cons.1 a with rfl|a
  ·exact this.2.1
  ·exact this.2.2.1 t a
theorem cd_t {l:List Lt} (h:CdV l): ∀ x∈l,LtT x:=λx hx=>(h.1 x hx).2
theorem Ziy {l:List El} (h: ∀ e∈l,ElV e) (hl:l.length<=64):(aEl l).length<=60000:=by
 have:=Z1L (f:=λe:El=>e.t++aIn e.c) (n:=800) (l:=l) λe a=>by
  have h1:=h e a;have h2:=h1.1.2;have b:=Z9y (cd_t h1.2.2);have c:=h1.2.2.2;simp only[List.length_append];omega
 unfold aEl;omega
theorem ZkC {l:List El} (h: ∀ e∈l,ElV e): ∀ t∈aEl l,TV t:=by
 intro t a;obtain⟨e,b,a⟩:=List.mem_flatMap.1 a;have h1:=h e b;rcases List.mem_append.1 a with a|a
 ·exact .inr (h1.1.1 t a)
 ·exact ZdU (cd_t h1.2.2) t a
theorem bo_t {b:Bo} (h:BoV b): ∀ x∈b.l::b.c,LtT x:=λx hx=>by
 rcases List.mem_cons.1 hx with rfl|hx
 ·exact h.2.1
 ·exact cd_t h.2.2.1 x hx
theorem Ziz {l:List Bo} (h:BdV l):(aBo l).length<=10000000:=by
 have:=Z1L (f:=λb:Bo=>b.b::(aIn (b.l::b.c)++aEl b.e)) (n:=70000) (l:=l) λb a=>by
  have h1:=h.1 b a;have h2:=Z9y (bo_t h1);have c:=Ziy h1.2.2.2.1.1 h1.2.2.2.1.2;have d:=h1.2.2.1.2;simp only[List.length_append,List.length_cons] at h2 ⊢;omega
 have h2:=h.2;unfold aBo;omega
theorem ZkD {l:List Bo} (h:BdV l): ∀ t∈aBo l,TV t:=by
 intro t a;obtain⟨b,c,a⟩:=List.mem_flatMap.1 a;have h1:=h.1 b c;rcases List.mem_cons.1 a with rfl|a
 ·exact h1.1
 ·rcases List.mem_append.1 a with a|a
  ·exact ZdU (bo_t h1) t a
  ·exact ZkC h1.2.2.2.1.1 t a
theorem Zix {l:List He} (h: ∀ x∈l,HeV x) (hl:l.length<=64):(aHe l).length<=60000:=by
 have:=Z1L (f:=λe:He=>e.a++aIn e.c) (n:=800) (l:=l) λe a=>by
  have h1:=h e a;have h2:=h1.2.1;have b:=Z9y (cd_t h1.2.2.2);have c:=h1.2.2.2.2;simp only[List.length_append];omega
 unfold aHe;omega
theorem ZkB {l:List He} (h: ∀ x∈l,HeV x): ∀ t∈aHe l,TV t:=by
 intro t a;obtain⟨e,b,a⟩:=List.mem_flatMap.1 a;have h1:=h e b;rcases List.mem_append.1 a with a|a
 ·exact h1.2.2.1 t a
 ·exact ZdU (cd_t h1.2.2.2) t a
theorem Zdn {r:Ru} (h:RuV r):(aRu r).length<=100000000:=by
 have h1:=Zix h.h h.hl;have h2:=Ziz h.b;have a:=h.t.2;simp only[aRu,List.length_cons,List.length_append];omega
theorem ZkA {r:Ru} (h:RuV r): ∀ t∈aRu r,TV t:=by
 intro t a;simp only[aRu,List.mem_cons,List.mem_append] at a;rcases a with rfl|rfl|rfl|rfl|a|a|a
 ·exact h.lo
 ·exact h.up
 ·exact h.w
 ·exact h.lv
 ·exact .inr (h.t.1 t a)
 ·exact ZkB h.h t a
 ·exact ZkD h.b t a
theorem Zkz {t:Tm} (h:TV t) (a:kT t≠0):Vd t:=by
 rcases h with rfl|h
 ·exact absurd rfl a
 ·exact h
end Go.Sx.Ps
