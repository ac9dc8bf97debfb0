/- Own work: a layer over the kit: plain data,a walk over it,its soundness. -/
import Derived.Lib.ItoaNum
import Derived.Lib.Join
import Derived.Test.YtecgehidegnmnaaGreatDoorSx9
import Derived.Test.YtecgehidegnmnaaGreatDoorSx10
import Derived.Test.YtecgehidegnmnaaGreatDoorSx4
import Derived.Test.YtecgehidegnmnaaGreatDoorSx6
import Derived.Test.YtecgehidegnmnaaGreatDoorSx8
set_option linter.all false
/- A row of our own that a function hands back is plain data. -/
namespace Go.Sx
open Go.RowKit
variable [Globs] [Codes]
variable {P:Program}
end Go.Sx
/- PANICS: what a call leaves that panics,forgotten. -/
namespace Go.Sx
open Go.RowKit
variable [Globs] [Codes]
variable {P:Program}
theorem CallL.pdrop {d:D} {args:List D} {ob:Obs} {R:D->Obs->Prop} {v:Value} (h:CallL P d args ob R) (A: ∀ r o,R r o->r=.pan v):CallL P d args ob λr o=>r=.pan v/\o=[]:=by
 intro F z n φ hh w u vs hp hv g;refine (h F z n φ hh w u vs hp hv g).mono ?_;rintro e w' ⟨r,o,φ',h',B,hr,ha⟩;have p:=A r o hr;subst p;refine⟨.pan v,[],φ',h',?_,⟨rfl,rfl⟩,⟨⟨ha.loc.one,ha.loc.glob.sub λb ⟨i,hi,_⟩=>by simp[lk] at hi,ha.loc.mem,λi o C=>by simp[lk] at C,λi j b hi=>by simp[lk] at hi⟩,ha.ext,ha.new,ha.frame,ha.hfix,ha.os,ha.tape,ha.output,ha.grow⟩⟩;rcases B with⟨x,h1,h2⟩|⟨x,h1,h2⟩
 ·exact h2.notPan.elim
 ·exact .inr ⟨x,h1,h2⟩
end Go.Sx
/- OBJECTS WHOSE CELLS NAME ROWS THAT ARE NO MORE WRITTEN TO: told as what the rows hold,the rows forgotten. -/
namespace Go.Sx
open Go.RowKit
variable [Globs] [Codes]
variable {P:Program}
end Go.Sx
/- A NIL ROW IN AN OBJECT's CELL: told as a row of our own that holds nothing. -/
namespace Go.Sx
open Go.RowKit
variable [Globs] [Codes]
variable {P:Program}
end Go.Sx
/- A ROW IN AN OBJECT's CELL UNDER A FRESH NAME. -/
namespace Go.Sx
open Go.RowKit
variable [Globs] [Codes]
variable {P:Program}
end Go.Sx
/- A NIL ROW IN A CELL OF ONE OF SEVERAL OBJECTS: told as a row of our own that holds nothing. -/
namespace Go.Sx
open Go.RowKit
variable [Globs] [Codes]
variable {P:Program}
theorem Z7M {φ:Mem} {h:Nat->Value} {x:Value} {m:Nat}: ∀ {vs:List Value} {ds:List D},RVL φ h vs ds->D.menL m ds=false->RVL φ (updH h m x) vs ds
 |[],[],_,_=>trivial
 |_::_,_::_,hr,hm=>by
  simp only[D.menL,Bool.or_eq_false_iff] at hm;exact⟨hr.1.upd m x hm.1,Z7M hr.2 hm.2⟩
 |[],_::_,hr,_=>hr.elim
 |_::_,[],hr,_=>hr.elim
theorem CallL.nilG {d:D} {args:List D} {R:D->Obs->Prop} {m i j sz:Nat} {e:TypeId} {ob ob':Obs} {cs:List D} (hsz:0<sz) (hd:D.men m d=false) (ha:D.menL m args=false) (him:i≠m)
  (hm:lk ob m=some (.arr true sz e [])) (U:lk ob' m=none) (hi:lk ob i=some (.cells cs)) (Q:lk ob' i=some (.cells (cs.set j .nils))) (hj:cs[j]? = some (.vec m))
  (hcs: ∀ k x,k≠j->cs[k]? = some x->D.men m x=false) (ho: ∀ k,k≠i->k≠m->lk ob k=lk ob' k) (V: ∀ k o,k≠i->k≠m->lk ob k=some o->(∃ sz e es,o=.arr true sz e es)\/ ∃ cs,o=.cells cs/\D.menL m cs=false)
  (hc:CallL P d args ob R):CallL P d args ob' R:=by
 intro F hF n φ h w v vs hp hv hvs;obtain⟨h1,A⟩: ∃ x,x=updH h m (.slice none 0 0):=⟨_,rfl⟩;have J: ∀ k,k≠m->h1 k=h k:=λk g=>by rw[A];exact Zj _ _ g
 have L:h1 m=.slice none 0 0:=by rw[A];exact ZB _ _ _
 have p: ∀ k,k≠m->((lk ob k).isSome ↔ (lk ob' k).isSome):=λk g=>by
  by_cases q:k=i
  ·subst q;rw[hi,Q];simp
  ·rw[ho k q g]
 have hz: ∀ b,ZOf ob h1 b ↔ ZOf ob' h b:=λb=>by
  constructor
  ·rintro⟨k,g,C⟩;by_cases q:k=m
   ·subst q;rw[L] at C;cases C
   ·rw[J k q] at C;exact⟨k,(p k q).1 g,C⟩
  ·rintro⟨k,g,C⟩;by_cases q:k=m
   ·subst q;rw[U] at g;cases g
   ·exact⟨k,(p k q).2 g,by rw[J k q];exact C⟩
 have hone:HOne h1:=λk=>by
  by_cases q:k=m
  ·subst q;rw[L];rfl
  ·rw[J k q];exact hp.one k
 have hl:Loc (λ_=>True) ob φ h1 w:=by
  refine⟨hone,hp.glob.sub λb C=>(hz b).1 C,hp.mem,λk o g=>?_,λk l b g hlk E G=>?_⟩
  ·by_cases I:k=m
   ·subst I;rw[hm] at g;cases g;rw[L];exact⟨hsz,by simp,[],World.ownsRow_nil w 0 e sz,by simp,λb C=>by cases C⟩
   ·rw[J k I];by_cases q:k=i
    ·subst q;rw[hi] at g;cases g;obtain⟨b,vals,ty,a1,a2,a3,a4,O,a6⟩:=hp.obj k _ Q;refine⟨b,vals,ty,a1,a2,a3,by simpa using a4,λl x hx=>?_,a6⟩;by_cases ql:l=j
     ·subst ql;rw[hj] at hx;cases hx;have hlt:l<cs.length:=by
       apply Classical.byContradiction;intro hn;rw[List.getElem?_eq_none (by omega)] at hj;cases hj
      have:=(O l .nils (by rw[List.getElem?_set_self hlt])).nils_inv;rw[this,<- L];exact .vec m (by rw[L];rfl)
     ·rw[A];exact (O l x (by rw[List.getElem?_set_ne (λh=>ql h.symm)];exact hx)).upd m _ (hcs l x ql hx)
    ·have N:=g;rw[ho k q I] at N;have W:=hp.obj k o N;rcases V k o q I g with⟨sz',e',es',rfl⟩|⟨cs',rfl,M⟩
     ·exact W
     ·obtain⟨b,vals,ty,a1,a2,a3,a4,O,a6⟩:=W;refine⟨b,vals,ty,a1,a2,a3,a4,λl x hx=>?_,a6⟩;rw[A];refine (O l x hx).upd m _ ?_;clear a4 O g N;induction cs' generalizing l with
      |nil=>simp at hx
      |cons y r ih =>
       simp only[D.menL,Bool.or_eq_false_iff] at M;cases l with
       |zero=>simp at hx;subst hx;exact M.1
       |succ l=>exact ih M.2 l (by simpa using hx)
  ·have B:k≠m:=λq=>by subst q;rw[L] at E;cases E
   have S:l≠m:=λq=>by subst q;rw[L] at G;cases G
   rw[J k B] at E;rw[J l S] at G;exact hp.sep k l b ((p k B).1 g) ((p l S).1 hlk) E G
 have hv1:RV φ h1 v d:=by rw[A];exact hv.upd m _ hd
 have hvs1:RVL φ h1 vs.toList args:=by rw[A];exact Z7M hvs ha
 refine (hc F hF n φ h1 w v vs hl hv1 hvs1).mono ?_;rintro en w' ⟨r,o,φ',h',he,hR,z⟩;have hzz:(λb=>w.heap.size<=b\/ZOf ob h1 b)=λb=>w.heap.size<=b\/ZOf ob' h b:=funext λb=>propext (or_congr Iff.rfl (hz b));have H:=z.loc;rw[hzz] at H;refine⟨r,o,φ',h',he,hR,⟨H,z.ext,λb o v I q2=>(z.new b o v I q2).imp_right (hz b).1,λb I q2=>z.frame b I λq=>q2 ((hz b).1 q),λk g=>?_,z.os,z.tape,z.output,z.grow⟩⟩;have B:k≠m:=λq=>by subst q;rw[U] at g;cases g
 rw[z.hfix k ((p k B).2 g),J k B]
theorem CallL.reG {d:D} {args:List D} {ob os z:Obs} {r0:D} {a b i j sz:Nat} {e:TypeId} {es:List (List D)} {cs:List D} (hab:a≠b) (hia:i≠a) (hib:i≠b) (hob:lk ob b=none) (hr0:D.men b r0=false)
  (ha:lk os a=some (.arr true sz e es)) (hb:lk os b=none) (hb':lk z b=some (.arr true sz e es)) (A:lk z a=none) (hi:lk os i=some (.cells cs)) (hi':lk z i=some (.cells (cs.set j (.vec b)))) (hj:cs[j]? = some (.vec a))
  (hcs:D.menL b cs=false) (ho: ∀ k,k≠i->k≠a->k≠b->lk os k=lk z k) (Q: ∀ k o,k≠i->k≠a->k≠b->lk os k=some o->(∃ sz e es,o=.arr true sz e es)\/ ∃ cs,o=.cells cs/\D.menL b cs=false)
  (hc:CallL P d args ob λr o=>r=r0/\o=os):CallL P d args ob λr o=>r=r0/\o=z:=by
 intro F hF n φ h w v vs hp hv hvs;refine (hc F hF n φ h w v vs hp hv hvs).mono ?_;rintro en w' ⟨r,o,φ',h',he,⟨rfl,rfl⟩,g⟩;obtain⟨h2,B⟩: ∃ x,x=updH h' b (h' a):=⟨_,rfl⟩;have O: ∀ k,k≠b->h2 k=h' k:=λk p=>by rw[B];exact Zj _ _ p
 have L:h2 b=h' a:=by rw[B];exact ZB _ _ _
 have H: ∀ (cs:List D) (l:Nat) (x:D),D.menL b cs=false->cs[l]? = some x->D.men b x=false:=λcs=>by
  induction cs with
  |nil=>intro l x _ hx;simp at hx
  |cons y r ih =>
   intro l x hm hx;simp only[D.menL,Bool.or_eq_false_iff] at hm;cases l with
   |zero=>simp at hx;subst hx;exact hm.1
   |succ l=>exact ih l x hm.2 (by simpa using hx)
 -- whose name U for which
 have hz: ∀ c,ZOf z h2 c->ZOf o h' c:=by
  rintro c ⟨k,p,hc⟩;by_cases q:k=b
  ·subst q;exact⟨a,by rw[ha];rfl,by rw[<- L];exact hc⟩
  ·have N:k≠a:=λh=>by subst h;rw[A] at p;cases p
   refine⟨k,?_,by rw[<- O k q];exact hc⟩;by_cases E:k=i
   ·subst E;rw[hi];rfl
   ·rw[ho k E N q];exact p
 have R:HOne h2:=λk=>by
  by_cases q:k=b
  ·subst q;rw[L];exact g.loc.one a
  ·rw[O k q];exact g.loc.one k
 refine⟨r,_,φ',h2,?_,⟨rfl,rfl⟩,⟨⟨R,g.loc.glob.sub hz,g.loc.mem,λk x p=>?_,λk l c p hl C hbl=>?_⟩,g.ext,g.new,g.frame,λk p=>?_,g.os,g.tape,g.output,g.grow⟩⟩
 ·rcases he with⟨u,I,q2⟩|q
  ·exact .inl ⟨u,I,by rw[B];exact q2.upd b _ hr0⟩
  ·exact .inr q
 ·by_cases q:k=b
  ·subst q;rw[hb'] at p;cases p;rw[L];exact g.loc.obj a _ ha
  ·have N:k≠a:=λh=>by subst h;rw[A] at p;cases p
   rw[O k q];by_cases E:k=i
   ·subst E;rw[hi'] at p;cases p;obtain⟨b1,vals,ty,a1,a2,a3,a4,S,a6⟩:=g.loc.obj k _ hi;refine⟨b1,vals,ty,a1,a2,a3,by simpa using a4,λl x hx=>?_,a6⟩;by_cases ql:l=j
    ·subst ql;have hlt:l<cs.length:=by
      apply Classical.byContradiction;intro hn;rw[List.getElem?_eq_none (by omega)] at hj;cases hj
     rw[List.getElem?_set_self hlt] at hx;cases hx;have q7:=S l _ hj;have q8:=q7.vec_live;rw[q7.vec_inv,<- L];exact .vec b (by rw[L];exact q8)
    ·rw[List.getElem?_set_ne (λh=>ql h.symm)] at hx;rw[B];exact (S l x hx).upd b _ (H cs l x hcs hx)
   ·have J:=p;rw[<- ho k E N q] at J;have G:=g.loc.obj k x J;rcases Q k x E N q J with⟨sz',e',es',rfl⟩|⟨cs',rfl,hcm⟩
    ·exact G
    ·obtain⟨b1,vals,ty,a1,a2,a3,a4,S,a6⟩:=G;exact⟨b1,vals,ty,a1,a2,a3,a4,λl x hx=>by rw[B];exact (S l x hx).upd b _ (H cs' l x hcm hx),a6⟩
 ·-- each block is named once
  have nm: ∀ k,(lk z k).isSome->blk (h2 k)=some c-> ∃ k',(k'=if k=b then a else k)/\(lk o k').isSome/\blk (h' k')=some c:=λk p C=>by
   by_cases q:k=b
   ·subst q;exact⟨a,by simp,by rw[ha];rfl,by rw[<- L];exact C⟩
   ·have N:k≠a:=λh=>by subst h;rw[A] at p;cases p
    refine⟨k,by simp[q],?_,by rw[<- O k q];exact C⟩;by_cases E:k=i
    ·subst E;rw[hi];rfl
    ·rw[ho k E N q];exact p
  obtain⟨k1,I,q2,q3⟩:=nm k p C;obtain⟨l1,M,p2,p3⟩:=nm l hl hbl
  have:=g.loc.sep k1 l1 c q2 p2 q3 p3;subst this;have ka:k≠a:=λh=>by subst h;rw[A] at p;cases p
  have la:l≠a:=λh=>by subst h;rw[A] at hl;cases hl
  by_cases V:k=b<;>by_cases W:l=b
  ·rw[V,W]
  ·rw[if_pos V] at I;rw[if_neg W] at M;exact absurd (M.symm.trans I) la
  ·rw[if_neg V] at I;rw[if_pos W] at M;exact absurd (I.symm.trans M) ka
  ·rw[if_neg V] at I;rw[if_neg W] at M;exact I.symm.trans M
 ·have q:k≠b:=λh=>by subst h;rw[hob] at p;cases p
  rw[O k q,g.hfix k p]
theorem CallL.unN {d:D} {args:List D} {ob os:Obs} {cs:List D} {j:Nat} (g:cs[j]? = some .nils) (hc:CallL P d args ob λr o=>r=.agg cs/\o=os):CallL P d args ob λr o=>r=.agg (cs.set j (.slice [] []))/\o=os:=by
 intro F B n φ h w v vs hp hv A;refine (hc F B n φ h w v vs hp hv A).mono ?_;intro E w' e;obtain⟨u,r0,ob1,φ',h',rfl,⟨rfl,rfl⟩,z,ha⟩:=e.dest λr o hr=>by rw[hr.1];rfl
 obtain⟨C,rfl,h1,h2⟩:=z.agg_inv;have p:j<cs.length:=by
  apply Classical.byContradiction;intro G;rw[List.getElem?_eq_none (by omega)] at g;cases g
 refine .ret ⟨rfl,rfl⟩ (.agg _ _ (by simpa using h1) λl x hx=>?_) ha;by_cases q:l=j
 ·subst q;rw[List.getElem?_set_self p] at hx;cases hx;rw[(h2 l _ g).nils_inv];exact .pure .nil
 ·rw[List.getElem?_set_ne (λh=>q h.symm)] at hx;exact h2 l x hx
end Go.Sx
/- A FUNCTION THAT DEFERS A CALL,BY TREES. -/
namespace Go.Sx
open Go.RowKit
variable [Globs] [Codes]
section
variable {P:Program}
def goLn (tb:Ctr) (bs:Nat):SC->St->(Exit->St->Tr)->Tr
 |.skip,s,K=>K .normal s
 |.ret,s,K=>K .ret s
 |.exit i,s,K=>K (.exit i) s
 |.reg ops,s,K=>opsT tb (s.nx bs) ops s λs'=>K .normal s'
 |.drw pre ops,s,K=>caT tb (s.nx bs) ops s λes s'=>if dchk (s.nx bs) pre ops es s=true then K .normal s' else .bad
 |.seq a b,s,K=>goLn tb bs a s λe s'=>match e with
  |.normal=>goLn tb bs b s' K
  |e=>K e s'
 |.cond x a b,s,K=>match s.get x with
  |.bool t=>brT t (goLn tb bs a s K) (goLn tb bs b s K)
  |_=>.bad
 |_,_,_=>.bad
theorem Zhf {tb:Ctr} (p:tb.OK P) {bs:Nat} {R:D->Obs->Prop} {J:List Fr->St->Prop}: ∀ (sc:SC) (s:St) (K:Exit->St->Tr) (Q:Exit->St->Prop),(∀ e s,(K e s).ok R J->Q e s)->(goLn tb bs sc s K).ok R J->sw P bs sc Q s:=by
 intro sc;induction sc with
 |skip=>exactλs K Q g h=>g _ _ h
 |ret=>exactλs K Q g h=>g _ _ h
 |exit i=>exactλs K Q g h=>g _ _ h
 |reg ops =>
  intro s K Q g h;obtain⟨s1,h1,h2⟩:=Z37 p h;exact h1 _ (g _ _ h2)
 |drw pre ops =>
  intro s K Q g h;obtain⟨es,s1,h1,h2⟩:=Zb4 p h;split at h2
  ·rename_i hd;exact⟨es,s1,h1,hd,g _ _ h2⟩
  ·exact h2.elim
 |seq a b j o =>
  intro s K Q g h;refine j s _ _ (λe s' h'=>?_) h;cases e<;>first|exact o s' K Q g h'|exact g _ _ h'
 |cond x a b j o =>
  intro s K Q g h;simp only[goLn] at h;simp only[sw];split at h
  ·rename_i t hx;rw[hx];cases t
   ·exact o s K Q g h
   ·exact j s K Q g h
  ·exact h.elim
 |_=>exactλs K Q g h=>h.elim
def goD (tb:Ctr) (bs:Nat) (rs:List SR):SC->St->Tr
 |.seq a b,s=>match a with
  |.spec (.dfr ops x)=>opsT tb (s.nx bs) ops s λs1=>.jmp [.sc (.seq (.spec (.dfr [] x)) b)] s1
  |.spec (.frg ts)=>goD tb bs rs b (s.canon bs ts)
  |a=>goLn tb bs a s λe s=>match e with
   |.normal=>goD tb bs rs b s
   |e=>finF false bs rs e s
 |_,_=>.bad
def JD (P:Program) (bs:Nat) (rs:List SR) (R:D->Obs->Prop):List Fr->St->Prop:=λK s=>match K with
 |[.sc (.seq (.spec (.dfr _ x)) b)]=>KDef P bs rs R (s.get x) b s
 |_=>False
theorem Zkc {tb:Ctr} (j:tb.OK P) {bs:Nat} {rs:List SR} {R:D->Obs->Prop}: ∀ (sc:SC) (s:St),(goD tb bs rs sc s).ok R (JD P bs rs (RE false R)) →
  swD P bs (EndQ rs (RetL bs (RE false R))) (KDef P bs rs (RE false R)) sc s:=by
 intro sc;induction sc with
 |seq a b p o =>
  intro s h;have g:(goLn tb bs a s λe s=>match e with
   |.normal=>goD tb bs rs b s
   |e=>finF false bs rs e s).ok R (JD P bs rs (RE false R))->sw P bs a (thenS (swD P bs (EndQ rs (RetL bs (RE false R))) (KDef P bs rs (RE false R)) b) (EndQ rs (RetL bs (RE false R)))) s:=λh=>by
   refine Zhf j a s _ _ (λe s' h'=>?_) h;cases e with
   |normal=>exact o s' h'
   |ret=>exact Z18 .ret s' h'
   |exit i=>exact (Z18 (.exit i) s' h').elim
   |goto i=>exact (Z18 (.goto i) s' h').elim
   |panic c=>exact Z18 (.panic c) s' h'
   |outgrown=>exact (Z18 .outgrown s' h').elim
  cases a with
  |spec k =>
   cases k with
   |dfr ops x =>
    obtain⟨s1,h1,h2⟩:=Z37 j h;exact h1 _ h2
   |frg ts=>exact o _ h
   |_=>exact g h
  |_=>exact g h
 |_=>exactλs h=>h.elim
theorem KDef.at {k k2:Nat} {rs:List SR} {R:D->Obs->Prop} {cl:D} {p:SC} {s1:St} (g:FuncId) (fa o:List D) (e:cl=.func (.func g) fa o) (j:QC P g=true) (h1:s1.top<=k2) (h2:k<=k2) (z:D.top cl<=k2) (h:At P k2 [.sc p] s1 (DefQ P k k2 rs cl R)):KDef P k rs R cl p s1 :=
 ⟨g,fa,o,k2,e,j,h1,h2,z,Z8F h⟩
def defT (P:Program) (h:FrameMode->Obs->Option (FrameMode × Obs)) (k k2:Nat) (rs:List SR) (cl:D) (u:FrameMode) (e:St):Tr :=
 let nm:=Z1C e [cl]
 if Z0z nm=true then (match h u (Qg e.ob (idx · nm) 0 nm) with
  |some (g,ob')=>.owe (CallD P u (cl.ren (idx · nm)) (Qg e.ob (idx · nm) 0 nm) λu0 ob0=>u0=g/\ob0=ob') (match settle g with
   |.returning=>endT false k rs (e.back (e.base k2) nm ob')
   |_=>.bad)
  |none=>.bad) else .bad
theorem Zhy {o:FrameMode->Obs->Option (FrameMode × Obs)} {k k2:Nat} {rs:List SR} {cl:D} {u:FrameMode} {g:St} {R:D->Obs->Prop} {J:List Fr->St->Prop} (h:(defT P o k k2 rs cl u g).ok R J):DQ P k k2 rs cl (RE false R) u g:=by
 unfold defT at h;simp only at h;split at h
 ·rename_i e;split at h
  ·rename_i p ob' _;obtain⟨j,h⟩:=h;split at h
   ·rename_i hs;obtain⟨ds,h1,h2⟩:=ZaD h;refine⟨_,_,g.base k2,ZC e,λi hi=>ZW i hi,Nat.le_trans (Nat.le_add_right _ _) (Nat.le_max_left ..),Nat.le_max_right ..,j,?_⟩;rintro u0 ob0 ⟨rfl,rfl⟩;exact⟨hs,ds,h1,h2⟩
   ·exact h.elim
  ·exact h.elim
 ·exact h.elim
def Z8v (P:Program) (g:FrameMode->Obs->Option (FrameMode × Obs)) (k k2:Nat) (rs:List SR) (cl:D):Exit->St->Tr:=λe s=>match e with
 |.normal=>defT P g k k2 rs cl .returning s
 |.ret=>defT P g k k2 rs cl .returning s
 |.panic c=>defT P g k k2 rs cl (.panicking c) s
 |_=>.bad
theorem ZcK {g:FrameMode->Obs->Option (FrameMode × Obs)} {k k2:Nat} {rs:List SR} {cl:D} {R:D->Obs->Prop} {J:List Fr->St->Prop} (e:Exit) (s:St) (h:(Z8v P g k k2 rs cl e s).ok R J):DefQ P k k2 rs cl (RE false R) e s:=by
 cases e<;>first|exact Zhy h|exact h.elim
theorem At.treeD {tb:Ctr} (g:tb.OK P) {j:FrameMode->Obs->Option (FrameMode × Obs)} {n k k2:Nat} {rs:List SR} {cl:D} {K:List Fr} {s:St} {R:D->Obs->Prop} {T:Tr} (e:goT P tb k2 (Z8v P j k k2 rs cl) n K s=T)
  (h:T.ok R (λK s=>At P k2 K s (DefQ P k k2 rs cl (RE false R)))):At P k2 K s (DefQ P k k2 rs cl (RE false R)) :=
 Z3i g ZcK (λ_ _ h=>h) (e ▸ h)
theorem CallL.treeD [CodesOf P] (Z6:DrawSound P) {f:FuncId} {N:Nat} {sc:SC} {rs:List SR} (hf:FnC P f N sc rs/\QC P f=true) {tb:Ctr} (o:tb.OK P) {bs:Nat} {first args caps:List D} {ob:Obs} {R:D->Obs->Prop} {T:Tr}
  (e:goD tb bs rs sc ⟨Zx 0 (first++args++caps),ob⟩=T) (h:T.ok R (JD P bs rs (RE false R))) (g:Nat.ble (first++args++caps).length N=true:=by rfl) (j:Nat.ble (Obs.top ob) bs=true:=by rfl):CallL P (.func (.func f) first caps) args ob R :=
 CallL.reordG (CallL.fnD Z6 hf.1 hf.2 bs (Nat.le_of_ble_eq_true j) (Nat.le_of_ble_eq_true g) (Zkc o sc _ (e ▸ h)))
def Zn1 (k:Nat):Exit->St->Tr:=λe s=>match e with
 |.normal=>.ret (.tuple []) (s.fin k (.tuple [])).ob
 |.ret=>.ret (.tuple []) (s.fin k (.tuple [])).ob
 |_=>.bad
def goRc (P:Program) (tb:Ctr) (k n:Nat) (ops:List SOp) (e:SC) (s0:St):Tr:=opsT tb (St.nx s0 k) ops s0 λs1=>goT P tb k (Zn1 k) n [.sc e] s1
theorem CallD.tree [CodesOf P] (Z6:DrawSound P) {g:FuncId} {N t:Nat} {ops:List SOp} {z:SC} (hf:FnC P g N (.seq (.spec (.rcv t ops)) z) []) {tb:Ctr} (p:tb.OK P) {first caps:List D} {ob:Obs} {n k:Nat} {u:FrameMode} {R:FrameMode->Obs->Prop} {T:Tr}
  (e:goRc P tb k n ops z ⟨(t,.raw (recM u).1)::Za t (Zx 0 (first++caps)),ob⟩=T)
  (h:T.ok (λ_ ob'=>R (recM u).2 ob') (λ_ _=>False)) (o:(recM u).1.oneCell'=true:=by rfl) (j:Nat.ble (first++caps).length N=true:=by rfl) (A:Nat.ble (Obs.top ob) k=true:=by rfl):CallD P u (.func (.func g) first caps) ob R:=by
 have h':(goRc P tb k n ops z ⟨(t,.raw (recM u).1)::Za t (Zx 0 (first++caps)),ob⟩).ok (λ_ ob'=>R (recM u).2 ob') (λ_ _=>False):=e ▸ h;unfold goRc at h';obtain⟨s1,h1,h2⟩:=Z37 p h';refine CallD.fn Z6 hf k (Nat.le_of_ble_eq_true A) (Nat.le_of_ble_eq_true j) o (h1 _ (Z8F (Z3i p (λe s hf=>?_) (λ_ _ h=>h.elim) h2)));cases e with
 |normal=>exact⟨.inl rfl,hf⟩
 |ret=>exact⟨.inr rfl,hf⟩
 |_=>exact hf.elim
end
end Go.Sx
/- How many bytes tokens take: no more than so many shown predicates. -/
namespace Go.Sx.Lx
open Go.Sx
def Zk8:List UInt8->Bool
 |b::_=>Q4 b
 |[]=>false
def AdjL (e:Nat):List Tk->Prop
 |[]=>True
 |[t]=>t.2.2+t.2.1.length<=e
 |t::u::r=>t.2.2+t.2.1.length+(if t.1=5/\Zk8 u.2.1=true then 1 else 0)<=u.2.2/\AdjL e (u::r)
end Go.Sx.Lx
namespace Go.Sx.Ps
open Go.Sx
open Go.Sx.Lx (Tk AdjL Zk8)
def Z59 (ts:List Tk) (e i:Nat):Int:=match ts[i]? with
 |some t=>t.2.2
 |none=>e
def Z9T {α:Type} (ts:List Tk) (s:List UInt8) (z:α) (x:PR α):α × Int × Int:=match ZkY ts x with
 |.ok a _=>(a,0,0)
 |.bad k e=>(z,Z59 ts s.length k,e)
def Zek {α:Type} (z:α) (s:List UInt8) (f:List Tk->PR α):α × Int × Int:=if (Lx.Q5 s).2.2=0 then Z9T (Lx.Q5 s).1 s z (f (Lx.Q5 s).1) else (z,(Lx.Q5 s).2.1,(Lx.Q5 s).2.2)
def Z35 (s:List UInt8):Ac × Int × Int:=Zek ⟨[],[],[],false⟩ s Z0I
def ZL (s:List UInt8):Ru × Int × Int:=Zek zR s λts=>ZD ts 0
def Z2z (s:List UInt8):Tm × Int × Int:=Zek z0 s λts=>Z8 ts 0
theorem Z7a {ts:List Tk}: ∀ (n:Nat) (a b:Ac) (i j:Nat),Z33 ts n a i=.ok b j-> ¬ j<ts.length
 |0,_,_,_,_,h=>by cases h
 |n+1,a,b,i,j,h=>by
  unfold Z33 at h;split at h
  ·cases hx:ZK ts a i with
   |bad c e=>rw[hx] at h;cases h
   |ok c k=>rw[hx] at h;exact Z7a n c b k j h
  ·rename_i g;cases h;exact g
end Go.Sx.Ps
/- NAMES AND NUMBERS AS SINGLE TOKENS. -/
namespace Go.Sx.Lx
theorem Z5c {b:UInt8} (h:(Q4 b ||ZQ b)=true):Zw b=false/\b≠37:=by
 have key:(List.range 256).all (λn=>!(Q4 (UInt8.ofNat n) ||ZQ (UInt8.ofNat n)) ||(!(Zw (UInt8.ofNat n)) && decide (UInt8.ofNat n≠37)))=true:=by decide +kernel
 have:=List.all_eq_true.1 key b.toNat (List.mem_range.2 b.toNat_lt);simp only[UInt8.ofNat_toNat] at this;rw[h] at this;simpa using this
theorem Z6a {b:UInt8} (h:Zz b=true):Zw b=false/\b≠37:=by
 have key:(List.range 256).all (λn=>!(Zz (UInt8.ofNat n)) ||(!(Zw (UInt8.ofNat n)) && decide (UInt8.ofNat n≠37)))=true:=by decide +kernel
 have:=List.all_eq_true.1 key b.toNat (List.mem_range.2 b.toNat_lt);simp only[UInt8.ofNat_toNat] at this;rw[h] at this;simpa using this
theorem Z8q {b:UInt8} (h:ZQ b=true):Zl b=true:=by simp[Zl,h]
theorem Zbd {s:List UInt8} (h:(s.dropWhile ZQ).all Zl=true):s.all Zl=true:=by
 induction s with
 |nil=>rfl
 |cons b r g =>
  rw[List.dropWhile_cons] at h;by_cases e:ZQ b=true
  ·rw[if_pos e] at h;rw[List.all_cons,Z8q e,g h];rfl
  ·rw[if_neg e] at h;exact h
theorem Z3J {first:UInt8->Bool} (hf: ∀ b,first b=true->Q4 b=true) {s:List UInt8} (h:Z0E first s=true):s.all Zl=true/\ ∃ b r,s=b::r/\(Q4 b ||ZQ b)=true:=by
 unfold Z0E at h;split at h
 ·cases h
 ·rename_i b r hd;simp only[Bool.and_eq_true] at h;refine⟨Zbd (by rw[hd];exact h.1.2),?_⟩;cases s with
  |nil=>simp at hd
  |cons c t =>
   refine⟨c,t,rfl,?_⟩;rw[List.dropWhile_cons] at hd;by_cases hc:ZQ c=true
   ·rw[hc,Bool.or_true]
   ·rw[if_neg hc] at hd;cases hd;rw[hf _ h.1.1];rfl
theorem Z8r {b:UInt8} (h:Zz b=true):Zl b=true:=by simp[Zl,h]
theorem Z4O {s:List UInt8} (h:ZF s=true):s.all Zl=true/\ ∃ b r,s=b::r/\(Q4 b ||ZQ b)=true:=by
 unfold ZF at h;rw[Bool.or_eq_true] at h;rcases h with h|h
 ·exact Z3J (λb e=>by simp[Q4,e]) h
 ·split at h
  ·rename_i r;rw[Bool.and_eq_true] at h;refine⟨?_,95,r,rfl,rfl⟩;rw[List.all_cons];have:r.all Zl=true:=List.all_eq_true.2 λb e=>Z8r (List.all_eq_true.1 h.1 b e);rw[this];rfl
  ·cases h
theorem Z1J {s:List UInt8} (h:ZA s=true):s.all Zl=true/\ ∃ b r,s=b::r/\(Q4 b ||ZQ b)=true:=by
 unfold ZA at h;rw[Bool.and_eq_true] at h;exact Z3J (λb e=>by simp[Q4,e]) h.1
theorem Z4j {p:UInt8->Bool} {s:List UInt8} (h:s.all p=true):s.takeWhile p=s:=by
 induction s with
 |nil=>rfl
 |cons b r e =>
  rw[List.all_cons,Bool.and_eq_true] at h;rw[List.takeWhile_cons,if_pos h.1,e h.2]
theorem Zk0 {b:UInt8} (h:Z0n b=true):Z3C b=false:=by
 have key:(List.range 256).all (λn=>!(Z0n (UInt8.ofNat n)) || !(Z3C (UInt8.ofNat n)))=true:=by decide +kernel
 have:=List.all_eq_true.1 key b.toNat (List.mem_range.2 b.toNat_lt);simp only[UInt8.ofNat_toNat] at this;rw[h] at this;simpa using this
theorem ZgU {b:UInt8} (h:Zz b=true):Z0n b=false/\ZQ b=false:=by
 have key:(List.range 256).all (λn=>!(Zz (UInt8.ofNat n)) ||(!(Z0n (UInt8.ofNat n)) && !(ZQ (UInt8.ofNat n))))=true:=by decide +kernel
 have:=List.all_eq_true.1 key b.toNat (List.mem_range.2 b.toNat_lt);simp only[UInt8.ofNat_toNat] at this;rw[h] at this;simpa using this
theorem ZeQ {s:List UInt8} (h:ZF s=true):ZA s=false/\s≠ZG:=by
 refine⟨?_,λe=>by rw[e] at h;revert h;decide⟩;cases j:ZA s with
 |false=>rfl
 |true =>
  exfalso;unfold ZA at j;rw[Bool.and_eq_true] at j;have g:=j.1;unfold Z0E at g;unfold ZF at h;rw[Bool.or_eq_true] at h;rcases h with h|h
  ·unfold Z0E at h;split at g
   ·cases g
   ·rename_i b r hd;rw[hd] at h;simp only[Bool.and_eq_true] at h g;rw[Zk0 g.1.1] at h;exact absurd h.1.1 (by simp)
  ·split at h
   ·rename_i r;rw[Bool.and_eq_true] at h;have hd:(95::r).dropWhile ZQ=r.dropWhile ZQ:=by rw[List.dropWhile_cons];rfl
    rw[hd] at g;cases r with
    |nil=>simp at g
    |cons c t =>
     have hc:Zz c=true:=by
      have:=h.1;rw[List.all_cons,Bool.and_eq_true] at this;exact this.1
     have h2:=ZgU hc;rw[List.dropWhile_cons,if_neg (by rw[h2.2];simp)] at g;simp[h2.1] at g
   ·cases h
theorem Z4K {s:List UInt8} (h:ZA s=true):Z03 s=(1,0):=by
 have e:s≠ZG:=by
  unfold ZA at h;rw[Bool.and_eq_true] at h;simpa using h.2
 unfold Z03;rw[if_neg e,if_pos h]
theorem Z8L {s:List UInt8} (h:ZF s=true):Z03 s=(2,0):=by
 have h2:=ZeQ h;unfold Z03;rw[if_neg h2.2,if_neg (by rw[h2.1];simp),if_pos h]
/- Numbers. -/
theorem ZaJ (d:Nat) (h:d<10):Zz (UInt8.ofNat (48+d))=true/\(UInt8.ofNat (48+d)).toNat-48=d:=by
 have key:(List.range 10).all (λd=>Zz (UInt8.ofNat (48+d)) && decide ((UInt8.ofNat (48+d)).toNat-48=d))=true:=by decide +kernel
 have:=List.all_eq_true.1 key d (List.mem_range.2 h);rw[Bool.and_eq_true,decide_eq_true_eq] at this;exact this
theorem Z0k: ∀ (k u:Nat),u<10 ^ (k+1)->(Lib.decDigits u).all Zz=true/\valN 0 (Lib.decDigits u)=u/\(Lib.decDigits u).length<=k+1/\Lib.decDigits u≠[]
 |0,u,h=>by
  have h1:u<10:=by simpa using h
  rw[Lib.decDigits_one h1]
  have:=ZaJ u h1;refine⟨by rw[List.all_cons,List.all_nil,this.1];rfl,by rw[Qj,QS,this.2];omega,by simp,by simp⟩
 |k+1,u,h=>by
  by_cases h1:u<10
  ·rw[Lib.decDigits_one h1]
   have:=ZaJ u h1;refine⟨by rw[List.all_cons,List.all_nil,this.1];rfl,by rw[Qj,QS,this.2];omega,by simp,by simp⟩
  ·have e:u / 10<10 ^ (k+1):=by
    rw[Nat.pow_succ] at h;exact Nat.div_lt_of_lt_mul (by rw[Nat.mul_comm];exact h)
   obtain⟨g,j,o,p⟩:=Z0k k (u / 10) e;have hd:=ZaJ (u % 10) (Nat.mod_lt _ (by decide));rw[Lib.decDigits,dif_neg h1];refine⟨by rw[List.all_append,g,List.all_cons,List.all_nil,hd.1];rfl,by rw[Z6Q,j,Qj,QS,hd.2];omega,by rw[List.length_append];simp;omega,by simp⟩
theorem Z60 {n:Nat} (h:n<=2147483647):tok (Lib.decDigits n)=(3,Lib.decDigits n,0)/\(Lib.decDigits n).length<=10/\ ∃ b r,Lib.decDigits n=b::r/\Zz b=true:=by
 obtain⟨h1,h2,p,g⟩:=Z0k 9 n (by omega);have z:Z61 (Lib.decDigits n)=0:=by
  rw[Zcm g h1,h2];exact⟨h,(ZaN _ _ rfl g h1).1 (by rw[h2])⟩
 obtain⟨b,r,hs⟩: ∃ b r,Lib.decDigits n=b::r:=by
  cases A:Lib.decDigits n with
  |nil=>exact absurd A g
  |cons b r=>exact⟨b,r,rfl⟩
 have j:Zz b=true:=by rw[hs,List.all_cons,Bool.and_eq_true] at h1;exact h1.1
 refine⟨?_,p,b,r,hs,j⟩;have e:tok (Lib.decDigits n)=(3,(Lib.decDigits n).takeWhile Zz,Z61 ((Lib.decDigits n).takeWhile Zz)):=by
  have o:=Z6m j;rw[hs];simp only[tok];rw[if_neg (by rw[o.1,o.2];simp),if_pos j]
 rw[e,Z4j h1,z]
end Go.Sx.Lx
/- The text of a term. -/
namespace Go.Sx
def Tm.as':Tm->List Tm
 |.mk _ _ _ l=>l
def Qt (s:List UInt8):Int:=if s=[43] then 1 else if s=[45] then 1 else 2
def Q6 (k:Nat) (s:List UInt8) (len g:Nat) (h:List UInt8) (e:Nat) (r:Bool):Bool :=
 if g=6 then true else if g=1 then decide (k=5) && decide (len=1)
 else if g=5 then (if k=5 then (if e=1 then false else decide (len=1) ||decide (Qt h<Qt s) ||decide (Qt s=Qt h) && r) else false) else false
def opdT (k:Nat) (s:List UInt8) (len:Nat) (x:Tm) (t:List UInt8) (r:Bool):List UInt8:=match Q6 k s len x.kd x.nm x.as'.length r with
 |true=>[40]++t++[41]
 |false=>t
mutual
def Tm.text:Tm->List UInt8
 |.mk k n s l =>
  if k=1 then Lib.itoa n
  else if k=4 then s++[40]++Lib.join (Tm.texts l) [44]++[41]
  else if k=6 then opdT k s l.length (l.getD 0 default) ((Tm.texts l).getD 0 []) false++[46,46]++opdT k s l.length (l.getD 1 default) ((Tm.texts l).getD 1 []) true
  else if k=5 then (if l.length=1 then s++opdT k s l.length (l.getD 0 default) ((Tm.texts l).getD 0 []) false
   else opdT k s l.length (l.getD 0 default) ((Tm.texts l).getD 0 []) false++s++opdT k s l.length (l.getD 1 default) ((Tm.texts l).getD 1 []) true)
  else s
def Tm.texts:List Tm->List (List UInt8)
 |[]=>[]
 |a::r=>a.text::Tm.texts r
end
theorem Q8: ∀ l:List Tm,Tm.texts l=l.map Tm.text
 |[]=>rfl
 |a::r=>by rw[Tm.texts,Q8 r];rfl
end Go.Sx
namespace Go.Sx
theorem Z5J {s:List UInt8} (h:Lx.ZA s=true):s.length<=32:=by
 unfold Lx.ZA Lx.Z0E at h;split at h
 ·simp at h
 ·simp at h;omega
theorem ZeR {s:List UInt8} (h:Lx.ZF s=true):s.length<=32:=by
 unfold Lx.ZF Lx.Z0E at h;rw[Bool.or_eq_true] at h;rcases h with h|h
 ·split at h
  ·simp at h
  ·simp at h;omega
 ·split at h
  ·simp at h ⊢;omega
  ·cases h
theorem ZcA {n:Int} (h: -2147483647<=n/\n<=2147483647):(Lib.itoa n).length<=11:=by
 unfold Lib.itoa;split
 ·have:=(Lx.Z0k 9 n.natAbs (by omega)).2.2.1;simp;omega
 ·have:=(Lx.Z0k 9 n.toNat (by omega)).2.2.1;omega
theorem Z7e (k:Nat) (s:List UInt8) (len:Nat) (x:Tm) (t:List UInt8) (r:Bool):(opdT k s len x t r).length<=t.length+2:=by
 unfold opdT;split
 ·simp
 ·omega
end Go.Sx
namespace Go.Sx
theorem Zac {M:Nat}: ∀ {l:List (List UInt8)},(∀ t∈l,t.length<=M)->Lib.lens l<=l.length*M
 |[],_=>by simp[Lib.lens]
 |a::r,h=>by
  have h1:=h a (List.mem_cons_self ..);have h2:=Zac (l:=r) λt g=>h t (List.mem_cons_of_mem _ g);have e:Lib.lens (a::r)=a.length+Lib.lens r:=by simp[Lib.lens]
  rw[e,List.length_cons,Nat.add_mul,Nat.one_mul];omega
theorem Zai {M:Nat} {l:List (List UInt8)} (h: ∀ t∈l,t.length<=M):(Lib.join l [44]).length<=l.length*(M+1):=by
 cases l with
 |nil=>simp[Lib.join_nil]
 |cons a r =>
  rw[Lib.join_length]
  have:=Zac h;simp only[List.length_cons,List.length_nil,Nat.zero_add,Nat.one_mul,Nat.mul_add,Nat.mul_one] at this ⊢;omega
theorem Z0C {l:List Tm} {x:Tm} (h:x∈l):x.depth<=Tm.depthL l:=by
 induction l with
 |nil=>cases h
 |cons a r e =>
  simp only[Tm.depthL];rcases List.mem_cons.1 h with rfl|h
  ·exact Nat.le_max_left ..
  ·exact Nat.le_trans (e h) (Nat.le_max_right ..)
theorem Z1Y {h:Tm->Bool} {l:List Tm} (hl:Tm.allL h l=true) {x:Tm} (hx:x∈l):x.all h=true:=by
 induction l with
 |nil=>cases hx
 |cons a r e =>
  simp only[Tm.allL,Bool.and_eq_true] at hl;rcases List.mem_cons.1 hx with rfl|hx
  ·exact hl.1
  ·exact e hl.2 hx
theorem Z7w {l:List Tm} {i:Nat} (h:i<l.length):l.getD i default∈l/\(Tm.texts l).getD i []=(l.getD i default).text:=by
 rw[Q8];simp[List.getD,h]
theorem Z2F: ∀ x:Tm,x.all Tm.shape=true->x.text.length<=60*9 ^ x.depth
 |.mk k n s l,h=>by
  simp only[Tm.all,Bool.and_eq_true,Tm.shape] at h;obtain⟨h1,h2⟩:=h;have IH: ∀ y∈l,y.text.length<=60*9 ^ (Tm.depthL l):=λy j =>
   Nat.le_trans (Z2F y (Z1Y h2 j)) (Nat.mul_le_mul_left _ (Nat.pow_le_pow_right (by decide) (Z0C j)))
  have hp:1<=9 ^ (Tm.depthL l):=Nat.pos_of_ne_zero (by simp);simp only[Tm.text,Tm.depth];rw[Nat.pow_succ];generalize 9 ^ (Tm.depthL l)=P at IH hp ⊢;have e: ∀ (i:Nat) (r:Bool),i<l.length->(opdT k s l.length (l.getD i default) ((Tm.texts l).getD i []) r).length<=60*P+2:=λi r hi=>by
   have p:=Z7w hi
   have:=Z7e k s l.length (l.getD i default) ((Tm.texts l).getD i []) r;rw[p.2] at this ⊢
   have:=IH _ p.1;omega
  unfold Qd at h1;split
  ·rename_i g;subst g;simp at h1
   have:=ZcA (n:=n) ⟨by omega,by omega⟩;omega
  ·split
   ·rename_i g;subst g;simp at h1;have hs:=Z5J h1.1.1.2;have H:=Zai (M:=60*P) (l:=Tm.texts l) (by rw[Q8];intro t B;obtain⟨y,j,rfl⟩:=List.mem_map.1 B;exact IH y j);have o:(Tm.texts l).length<=8:=by rw[Q8];simp;omega
    have hm:(Tm.texts l).length*(60*P+1)<=8*(60*P+1):=Nat.mul_le_mul_right _ o;simp;omega
   ·split
    ·rename_i g;subst g;simp at h1;have a:=e 0 false (by omega);have b:=e 1 true (by omega);simp only[List.length_append,List.length_cons,List.length_nil];omega
    ·split
     ·rename_i g;subst g;simp at h1;have hs:s.length=1:=by
       rcases h1.1.2 with (((h|h)|h)|h)|h<;>rw[h]<;>rfl
      have a:=e 0 false (by omega);split
      ·simp only[List.length_append];omega
      ·have b:=e 1 true (by omega);simp only[List.length_append];omega
     ·rename_i C D G E;have c1: ¬ (k:Int)=1:=by omega
      have z: ¬ (k:Int)=4:=by omega
      have c5: ¬ (k:Int)=5:=by omega
      have A: ¬ (k:Int)=6:=by omega
      by_cases c2:(k:Int)=2
      ·simp[c2] at h1
       have:=Z5J h1.1.2;omega
      ·by_cases c3:(k:Int)=3
       ·simp[c3] at h1
        have:=ZeR h1.1.2;omega
       ·simp[c1,c2,c3,z,c5,A] at h1
termination_by x=>SizeOf.sizeOf x
decreasing_by
 have:=List.sizeOf_lt_of_mem j;simp only[Tm.mk.sizeOf_spec];omega
end Go.Sx
/- What is parsed is of moderate size. -/
namespace Go.Sx.Ps
open Go.Sx
open Go.Sx.Lx (Tk)
abbrev BB:Nat:=281474976710656
end Go.Sx.Ps
/- Programs hang on their tokens alone. -/
namespace Go.Sx.Ps
open Go.Sx
open Go.Sx.Lx (Tk AdjL)
theorem Zh2 {src:List UInt8} (hl:src.length<=32768) (h:(Lx.run 0 src).2.1=none):Lx.Q5 src=((Lx.run 0 src).1,0,0):=by
 rw[Lx.Zab,if_neg (by omega)];generalize Lx.run 0 src=q at h ⊢;obtain⟨l,o,n⟩:=q;simp only at h;subst h;rfl
end Go.Sx.Ps
/- TEXTS ARE READ BACK: so no two terms have one. -/
namespace Go.Sx.Pa
open Go.Sx.Lx
inductive Md where
 |R
 |S
 |LS (a:Tm)
 |P
 |LP (a:Tm)
 |A
 |L
abbrev Res:=Option (List Tm × List UInt8)
def bnd (x:Res) (k:Tm->List UInt8->Res):Res:=match x with
 |some ([a],r)=>k a r
 |_=>none
def Z0b:List UInt8->Bool
 |c::_=>Zz c
 |[]=>false
def add1 (c:UInt8):Bool:=c == 43 ||c == 45
def mul1 (c:UInt8):Bool:=c == 42 ||c == 47 ||c == 92
def step (g:Md->List UInt8->Res):Md->List UInt8->Res
 |.R,s=>bnd (g .S s) λa r=>match r with
  |c::d::r'=>if c=46/\d=46 then bnd (g .S r') λb e=>some ([.mk 6 0 [] [a,b]],e) else some ([a],c::d::r')
  |r=>some ([a],r)
 |.S,s=>bnd (g .P s) λa r=>g (.LS a) r
 |.LS a,r=>match r with
  |c::r'=>if add1 c=true then bnd (g .P r') λb e=>g (.LS (.mk 5 0 [c] [a,b])) e else some ([a],c::r')
  |[]=>some ([a],[])
 |.P,s=>bnd (g .A s) λa r=>g (.LP a) r
 |.LP a,r=>match r with
  |c::r'=>if mul1 c=true then bnd (g .A r') λb e=>g (.LP (.mk 5 0 [c] [a,b])) e else some ([a],c::r')
  |[]=>some ([a],[])
 |.A,s=>match s with
  |[]=>none
  |c::r =>
   if c=40 then bnd (g .R r) λa r'=>match r' with
    |d::e=>if d=41 then some ([a],e) else none
    |[]=>none
   else if c=45 then (if Z0b r=true then some ([.mk 1 (-(valN 0 (r.takeWhile Zz):Int)) [] []],r.dropWhile Zz) else bnd (g .A r) λa r'=>some ([.mk 5 0 [45] [a]],r'))
   else if Zz c=true then some ([.mk 1 (valN 0 ((c::r).takeWhile Zz)) [] []],(c::r).dropWhile Zz)
   else match (c::r).dropWhile Zl with
    |d::r'=>if d=40 then (match g .L r' with
      |some (l,e)=>some ([.mk 4 0 ((c::r).takeWhile Zl) l],e)
      |none=>none) else some ([.mk (if ZA ((c::r).takeWhile Zl)=true then 2 else 3) 0 ((c::r).takeWhile Zl) []],d::r')
    |[]=>some ([.mk (if ZA ((c::r).takeWhile Zl)=true then 2 else 3) 0 ((c::r).takeWhile Zl) []],[])
 |.L,s=>bnd (g .R s) λa r=>match r with
  |c::r'=>if c=44 then (match g .L r' with
    |some (l,e)=>some (a::l,e)
    |none=>none) else if c=41 then some ([a],r') else none
  |[]=>none
def p:Nat->Md->List UInt8->Res
 |0,_,_=>none
 |n+1,m,s=>step (p n) m s
def PX (m:Md) (s:List UInt8) (r:List Tm × List UInt8):Prop:=∃ n,p n m s=some r
section
variable {a b:Tm} {s r r' u:List UInt8} {q:List Tm × List UInt8} {c:UInt8} {l:List Tm}
end
end Go.Sx.Pa
namespace Go.Sx.Pa
open Go.Sx.Lx
def fol (bad:UInt8->Bool) (u:List UInt8):Prop:=∀ c,u.head? = some c->bad c=false
def bad3 (c:UInt8):Bool:=Zl c ||c == 40
def bad2 (c:UInt8):Bool:=bad3 c ||mul1 c
def bad1 (c:UInt8):Bool:=bad2 c ||add1 c
def bad0 (c:UInt8):Bool:=bad1 c ||c == 46
theorem Z6g (bad:UInt8->Bool):fol bad []:=λc h=>by cases h
theorem QL {bad:UInt8->Bool} {c:UInt8} {r:List UInt8} (h:bad c=false):fol bad (c::r):=λd hd=>by cases hd;exact h
theorem Z2G {q:UInt8->Bool}: ∀ {d u:List UInt8},d.all q=true->fol q u->(d++u).takeWhile q=d/\(d++u).dropWhile q=u
 |[],u,_,e=>by
  cases u with
  |nil=>exact⟨rfl,rfl⟩
  |cons c r =>
   have:=e c rfl;simp[List.takeWhile_cons,List.dropWhile_cons,this]
 |c::d,u,hd,e=>by
  rw[List.all_cons,Bool.and_eq_true] at hd;have h:=Z2G hd.2 e;simp only[List.cons_append,List.takeWhile_cons,List.dropWhile_cons,hd.1,if_true,h.1,h.2,and_self]
theorem ZbX {c:UInt8} (h:(Q4 c ||ZQ c)=true):c≠40/\c≠45/\Zz c=false:=by
 refine⟨λe=>?_,λe=>?_,?_⟩
 ·rw[e] at h;revert h;decide
 ·rw[e] at h;revert h;decide
 ·cases hd:Zz c with
  |false=>rfl
  |true=>have:=Z6m hd;rw[this.1,this.2] at h;cases h
def cls (t:Tm):Nat:=if t.kd=6 then 0 else if t.kd=5/\t.as'.length≠1 then (if Qt t.nm=1 then 1 else 2) else 3
structure Rd (t:Tm):Prop where
 a:cls t=3-> ∀ u,fol bad3 u->PX .A (t.text++u) ([t],u)
 p:2<=cls t-> ∀ u q,fol bad3 u->PX (.LP t) u q->PX .P (t.text++u) q
 s:1<=cls t-> ∀ u q,fol bad2 u->PX (.LS t) u q->PX .S (t.text++u) q
 r: ∀ u,fol bad0 u->PX .R (t.text++u) ([t],u)
section
variable {k:Nat} {s:List UInt8} {len:Nat} {x:Tm} {rt:Bool}
end
theorem Z6s (s:List UInt8):Qt s=1\/Qt s=2:=by
 unfold Qt;split
 ·exact .inl rfl
 ·split
  ·exact .inl rfl
  ·exact .inr rfl
theorem ZhD {x:Tm} (h:x.kd≠6):1<=cls x:=by
 unfold cls;rw[if_neg h];split
 ·split<;>omega
 ·omega
theorem cl6 {s:List UInt8} {len j g:Nat} {o:List UInt8} {r:Bool} (h:Q6 6 s len j o g r=false):j≠6:=by
 intro e;unfold Q6 at h;rw[if_pos e] at h;cases h
theorem Zn7 {s:List UInt8} {x:Tm} {r:Bool} (h:Q6 5 s 1 x.kd x.nm x.as'.length r=false):x.kd≠1/\cls x=3:=by
 unfold Q6 at h;split at h
 ·cases h
 ·rename_i g;split at h
  ·simp at h
  ·rename_i h1;refine⟨h1,?_⟩;unfold cls;rw[if_neg g];split at h
   ·simp only[if_true] at h;split at h
    ·rename_i hl;rw[if_neg (λhh=>hh.2 hl)]
    ·simp at h
   ·rename_i e;rw[if_neg (λhh=>e hh.1)]
theorem Znb {s:List UInt8} {x:Tm} {r:Bool} (h:Q6 5 s 2 x.kd x.nm x.as'.length r=false):1<=cls x/\(Qt s=2->2<=cls x)/\(Qt s=1->r=true->2<=cls x)/\(Qt s=2->r=true->cls x=3):=by
 have g:=Z6s x.nm;unfold Q6 at h;split at h
 ·cases h
 ·rename_i p;unfold cls;rw[if_neg p];split at h
  ·rename_i h1;rw[if_neg (λhh=>by omega)];exact⟨by omega,λ_=>by omega,λ_ _=>by omega,λ_ _=>rfl⟩
  ·split at h
   ·simp only[if_true] at h;split at h
    ·rename_i hl;rw[if_neg (λhh=>hh.2 hl)];exact⟨by omega,λ_=>by omega,λ_ _=>by omega,λ_ _=>rfl⟩
    ·rename_i j hl;rw[if_pos ⟨j,hl⟩];simp only[show ¬ (2:Nat)=1 by omega,decide_false,Bool.false_or,Bool.or_eq_false_iff,decide_eq_false_iff_not,Bool.and_eq_false_iff] at h;obtain⟨o,e⟩:=h;rcases g with g|g
     ·rw[if_pos g];rw[g] at o e;refine⟨by omega,λh=>by omega,λh hr=>?_,λh=>by omega⟩;rcases e with e|e
      ·exact absurd h e
      ·rw[hr] at e;cases e
     ·rw[if_neg (by omega)];rw[g] at o e;refine⟨by omega,λ_=>by omega,λ_ _=>by omega,λh hr=>?_⟩;rcases e with e|e
      ·exact absurd h e
      ·rw[hr] at e;cases e
   ·rename_i j;rw[if_neg (λhh=>j hh.1)];exact⟨by omega,λ_=>by omega,λ_ _=>by omega,λ_ _=>rfl⟩
end Go.Sx.Pa
/- A VALID TERM'S TEXT IS READ AS THE TERM. -/
namespace Go.Sx.Pa
open Go.Sx.Lx
theorem Zes (k:Nat) (n:Int) (s:List UInt8) (l:List Tm):cls (.mk k n s l)=if k=6 then 0 else if k=5/\l.length≠1 then (if Qt s=1 then 1 else 2) else 3:=rfl
theorem Z7Y {x:Tm} (h:x.all Tm.shape=true) (hc:cls x=3) (h1:x.kd≠1) (u:List UInt8):Z0b (x.text++u)=false:=by
 obtain⟨k,n,s,l⟩:=x;simp only[Tm.all,Bool.and_eq_true,Tm.shape] at h;obtain⟨hs,_⟩:=h;simp only[Tm.kd] at h1;have st: ∀ {w r:List UInt8},(∃ b r,w=b::r/\(Q4 b ||ZQ b)=true)->Z0b (w++r)=false:=by
  rintro w r ⟨b,w',rfl,C⟩;exact (ZbX C).2.2
 rw[Zes] at hc;unfold Qd at hs;simp only[Tm.text];rw[if_neg h1];by_cases j:k=4
 ·subst j;simp at hs;rw[if_pos rfl,List.append_assoc,List.append_assoc,List.append_assoc];exact st (Z1J hs.1.1.2).2
 ·rw[if_neg j];by_cases e:k=6
  ·rw[if_pos e] at hc;cases hc
  ·rw[if_neg e];by_cases o:k=5
   ·subst o;simp at hs;by_cases hl:l.length=1
    ·have g:s=[45]:=by
      rcases hs.2 with h|h
      ·omega
      ·exact h.1
     rw[if_pos rfl,if_pos hl,g];rfl
    ·rw[if_neg e,if_pos ⟨rfl,hl⟩] at hc;split at hc<;>cases hc
   ·rw[if_neg o];by_cases A:k=2
    ·subst A;simp at hs;exact st (Z1J hs.1.2).2
    ·by_cases B:k=3
     ·subst B;simp at hs;exact st (Z4O hs.1.2).2
     ·exfalso;have c1: ¬ (k:Int)=1:=by omega
      have c2: ¬ (k:Int)=2:=by omega
      have c3: ¬ (k:Int)=3:=by omega
      have p: ¬ (k:Int)=4:=by omega
      have c5: ¬ (k:Int)=5:=by omega
      have z: ¬ (k:Int)=6:=by omega
      simp[c1,c2,c3,p,c5,z] at hs
theorem ZdX {l:List Tm} (h:l.length=2): ∃ a b,l=[a,b]:=by
 match l,h with
 |[a,b],_=>exact⟨a,b,rfl⟩
theorem ZgM {l:List Tm} (h:l.length=1): ∃ a,l=[a]:=by
 match l,h with
 |[a],_=>exact⟨a,rfl⟩
end Go.Sx.Pa
/- Texts and tokens. -/
namespace Go.Sx.Ps
open Go.Sx
open Go.Sx.Lx (Tk tok run skp)
abbrev KT:=Int × List UInt8
def kt (t:Tk):KT:=(t.1,t.2.1)
def LxOK (s:List UInt8) (K:List KT):Prop:=(run 0 s).2.1=none/\(run 0 s).1.map kt=K
def wsH (u:List UInt8):Prop:=∃ b,u.head? = some b/\(Lx.Zw b=true\/b=37)
theorem Ze9 (o:Nat) (s:List UInt8):((run o s).2.1=none ↔ (run 0 s).2.1=none)/\(run o s).1.map kt=(run 0 s).1.map kt:=by
 have h:=Lx.Z9t o _ s 0 (Nat.lt_succ_self _);rw[Nat.zero_add] at h;rw[h];unfold Lx.shift;refine⟨?_,?_⟩
 ·simp
 ·rw[List.map_map];rfl
theorem Z7m:LxOK [] []:=⟨rfl,rfl⟩
theorem Zj3 {s:List UInt8} (h: ¬ wsH s):skp false s=0:=Lx.Z73 λb e=>by
 have h1: ¬ (Lx.Zw b=true\/b=37):=λhc=>h ⟨b,e,hc⟩;rw[not_or] at h1;exact⟨by simpa using h1.1,h1.2⟩
theorem Zc8 {s:List UInt8} (hs:s≠[]) (j: ¬ wsH s) :
  ((tok s).2.2=0->((run 0 s).2.1=none ↔ (run 0 (s.drop (tok s).2.1.length)).2.1=none)/\(run 0 s).1.map kt=((tok s).1,(tok s).2.1)::(run 0 (s.drop (tok s).2.1.length)).1.map kt)/\((tok s).2.2≠0->(run 0 s).2.1≠none):=by
 have h0:=Zj3 j;have hl:skp false s≠s.length:=by
  have:=List.length_pos_iff.2 hs;omega
 have e:=Lx.Z3R (o:=0) hl;rw[h0] at e;simp only[Nat.add_zero,Nat.zero_add,List.drop_zero] at e;constructor
 ·intro h;rw[if_pos h] at e;have g:=Ze9 (tok s).2.1.length (s.drop (tok s).2.1.length);rw[e];refine⟨g.1,?_⟩;rw[List.map_cons,g.2];rfl
 ·intro h;rw[if_neg h] at e;rw[e];simp
theorem Z29 {x u:List UInt8} {k:Int} {K:List KT} (hx:x≠[]) (e:tok (x++u)=(k,x,0)) (g: ¬ wsH (x++u)) (h:LxOK u K):LxOK (x++u) ((k,x)::K):=by
 have h1:=(Zc8 (s:=x++u) (by simp[hx]) g).1 (by rw[e]);rw[e] at h1;simp only[List.drop_left] at h1;exact⟨h1.1.2 h.1,by rw[h1.2,h.2]⟩
theorem Z52 (u:List UInt8):((run 0 (32::u)).2.1=none ↔ (run 0 u).2.1=none)/\(run 0 (32::u)).1.map kt=(run 0 u).1.map kt:=by
 have e:run 0 (32::u)=run 1 u:=by
  unfold run;have g:skp false (32::u)=1+skp false u:=by simp[skp,Lx.Zw]
  rw[g,show 1+skp false u=skp false u+1 by omega,List.drop_succ_cons,show 0+(skp false u+1)=1+skp false u by omega];rw[Nat.add_comm 1 (skp false u)];apply Lx.Z3K
  ·rw[List.length_drop,List.length_cons];omega
  ·rw[List.length_drop];omega
 rw[e];exact Ze9 1 u
theorem Z1l {u:List UInt8} {K:List KT} (h:LxOK u K):LxOK (32::u) K:=⟨(Z52 u).1.2 h.1,by rw[(Z52 u).2,h.2]⟩
def sg1 (c:UInt8):Bool:=c == 40 ||c == 41 ||c == 42 ||c == 43 ||c == 44 ||c == 45 ||c == 47 ||c == 59 ||c == 64 ||c == 91 ||c == 92 ||c == 93 ||c == 123 ||c == 124 ||c == 125 ||c == 61
theorem ZdZ {c:UInt8} (h:sg1 c=true) (u:List UInt8):tok (c::u)=(6,[c],0)/\ ¬ wsH (c::u):=by
 simp only[sg1,Bool.or_eq_true,beq_iff_eq] at h;refine⟨?_,?_⟩
 ·rcases h with (((((((((((((((h|h)|h)|h)|h)|h)|h)|h)|h)|h)|h)|h)|h)|h)|h)|h)<;>subst h <;>
   simp[tok,Lx.Q4,Lx.Z0n,Lx.Z3C,Lx.ZQ,Lx.Zz,Lx.Qc,Lx.Z26,List.find?,List.isPrefixOf]
 ·rintro⟨b,e,hc⟩;simp only[List.head?_cons,Option.some.injEq] at e;subst e;rcases h with (((((((((((((((h|h)|h)|h)|h)|h)|h)|h)|h)|h)|h)|h)|h)|h)|h)|h)<;>subst h<;>simp[Lx.Zw] at hc
theorem Ze0 (u:List UInt8):tok (46::46::u)=(6,[46,46],0)/\ ¬ wsH (46::46::u):=by
 refine⟨?_,?_⟩
 ·simp[tok,Lx.Q4,Lx.Z0n,Lx.Z3C,Lx.ZQ,Lx.Zz,Lx.Qc,Lx.Z26,List.find?,List.isPrefixOf]
 ·rintro⟨b,e,hc⟩;simp only[List.head?_cons,Option.some.injEq] at e;subst e;simp[Lx.Zw] at hc
theorem Z2D {c:UInt8} (h:sg1 c=true) {u:List UInt8} {K:List KT} (e:LxOK u K):LxOK (c::u) ((6,[c])::K):=Z29 (x:=[c]) (by simp) (ZdZ h u).1 (ZdZ h u).2 e
theorem ZmN {u:List UInt8} {K:List KT} (e:LxOK u K):LxOK (46::46::u) ((6,[46,46])::K):=Z29 (x:=[46,46]) (by simp) (Ze0 u).1 (Ze0 u).2 e
end Go.Sx.Ps
/- A TERM'S TEXT,ITS TOKENS,AND WHAT THE PARSER READS THERE. -/
namespace Go.Sx.Ps
open Go.Sx
open Go.Sx.Lx (Tk tok Zl Zz Q4 ZQ)
open Go.Sx.Pa (cls fol)
def Tks (ts:List Tk) (i:Nat) (T:List KT):Prop:=(ts.drop i).map kt=T
def stp (n:Nat):List (List UInt8):=[[46,46],[43],[45],[42],[47],[92],[40]].drop n
def Fol (n:Nat) (K:List KT):Prop:=∀ t r,K=t::r->4<=t.1->t.2 ∉ stp n
section
variable {ts:List Tk} {i n m F:Nat} {k:Int} {x:List UInt8} {T K:List KT} {l:List (List UInt8)} {f:Nat->PR Tm} {t u:Tm}
theorem Tks.hd (h:Tks ts i ((k,x)::T)):(Zf ts i).1=k/\(Zf ts i).2.1=x/\Tks ts (i+1) T/\i<ts.length:=by
 unfold Tks at h;have hi:i<ts.length:=by
  refine Nat.lt_of_not_le λo=>?_;rw[List.drop_eq_nil_of_le o] at h;cases h
 rw[List.drop_eq_getElem_cons hi,List.map_cons] at h;injection h with h1 h2;have e:Zf ts i=ts[i]:=by simp only[Zf,List.getD_eq_getElem?_getD,List.getElem?_eq_getElem hi,Option.getD_some]
 rw[e];unfold kt at h1;injection h1 with g j;exact⟨g,j,h2,hi⟩
theorem Tks.app (h:Tks ts i (T++K)):Tks ts (i+T.length) K:=by
 unfold Tks at h ⊢;rw[<- List.drop_drop,List.map_drop,h,List.drop_left]
theorem Tks.len (h:Tks ts i T):T.length=ts.length-i:=by
 rw[<- h,List.length_map,List.length_drop]
theorem Fol.mono (h:n<=m) (j:Fol n K):Fol m K:=λt r e g hm=>j t r e g (by
 unfold stp at hm ⊢;rw[show m=n+(m-n) by omega,<- List.drop_drop] at hm;exact List.mem_of_mem_drop hm)
theorem Zcn (h:Tks ts i K) (j: ∀ t r,K=t::r->4<=t.1->t.2 ∉ l):Z1 ts i l=false:=by
 unfold Z1;cases K with
 |nil =>
  have:=h.len;have hi:ts.length<=i:=by simp at this;omega
  have e:Zf ts i=(0,[],0):=by simp only[Zf,List.getD_eq_getElem?_getD,List.getElem?_eq_none hi,Option.getD_none]
  rw[e];rfl
 |cons t r =>
  obtain⟨k,x⟩:=t;obtain⟨h1,h2,-,-⟩:=h.hd;rw[h1,h2];by_cases g:4<=k
  ·have:=j _ _ rfl g;simp only at this;simp[g,this]
  ·simp[g]
theorem nsee (h:Tks ts i K) (j:Fol n K) (hl: ∀ x∈l,x∈stp n):Z1 ts i l=false:=Zcn h λt r e g hm=>j t r e g (hl _ hm)
theorem see (h:Tks ts i ((6,x)::K)) (hx:x∈l):Z1 ts i l=true:=by
 obtain⟨h1,h2,-,-⟩:=h.hd;unfold Z1;rw[h1,h2];simp[hx]
theorem low (h:Tks ts i ((k,x)::K)) (j:k<4):Z1 ts i l=false:=Zcn h λt r e g=>by cases e;exact absurd g (by simp only;omega)
theorem nope {y:List UInt8} (h:Tks ts i ((k,x)::K)) (hx:x≠y):Z1 ts i [y]=false:=Zcn h λt r e g=>by cases e;simpa using hx
theorem must (h:Tks ts i ((6,x)::K)):Z0 ts x i=.ok () (i+1):=by unfold Z0;rw[if_pos (see h (by simp))]
theorem Z5o (h:Z1 ts i l=false) (e:1<=F):QG ts f l F t i=.ok t i:=by
 cases F with
 |zero=>omega
 |succ F=>unfold QG;rw[if_neg (by simp[h])]
theorem Z7G {j:Nat} (h:Tks ts i ((6,x)::K)) (hx:x∈l) (hf:f (i+1)=.ok u j):QG ts f l (F+1) t i=QG ts f l F (.mk 5 0 x [t,u]) j:=by
 conv=>lhs;unfold QG
 rw[if_pos (see h hx),hf,h.hd.2.1];rfl
end
abbrev RdA (t:Tm) (T:List KT):Prop:=∀ ts n i K,T.length<=n->Tks ts i (T++K)->Fol 6 K->Zd ts n i=.ok t (i+T.length)
abbrev mulL:List (List UInt8):=[[42],[47],[92]]
abbrev addL:List (List UInt8):=[[43],[45]]
abbrev RdP (t:Tm) (T:List KT):Prop:=∀ ts n i K,T.length<=n->Tks ts i (T++K)->Fol 6 K-> ∃ F,ts.length+1<=F+T.length/\QU ts (Zd ts n) i=QG ts (Zd ts n) mulL F t (i+T.length)
abbrev RdS (t:Tm) (T:List KT):Prop:=∀ ts n i K,T.length<=n->Tks ts i (T++K)->Fol 3 K-> ∃ F,ts.length+1<=F+T.length/\Z3M ts (Zd ts n) i=QG ts (QU ts (Zd ts n)) addL F t (i+T.length)
abbrev RdR (t:Tm) (T:List KT):Prop:=∀ ts n i K,T.length<=n->Tks ts i (T++K)->Fol 0 K->ZN ts (Zd ts n) i=.ok t (i+T.length)
structure Rd (c:Nat) (w:List UInt8) (t:Tm) (T:List KT):Prop where
 h: ∃ k x r,T=(k,x)::r/\(k<4\/x=[40]\/x=[45])/\(Pa.Z0b w=false->k≠3)
 l: ∀ u K,fol Zl u->LxOK u K->LxOK (w++u) (T++K)
 a:c=3->RdA t T
 p:2<=c->RdP t T
 s:1<=c->RdS t T
 r:RdR t T
section
variable {t:Tm} {T:List KT}
theorem F1 {ts:List Tk} {i F:Nat} {K:List KT} (h:Tks ts i (T++K)) (e:ts.length+1<=F+T.length):1<=F:=by
 have:=h.len;rw[List.length_append] at this;omega
theorem RdA.p (h:RdA t T):RdP t T:=λts n i K j g e=>⟨ts.length+1,by omega,by unfold QU Z02;rw[h ts n i K j g e];rfl⟩
theorem RdP.e (h:RdP t T) {ts:List Tk} {n i:Nat} {K:List KT} (p:T.length<=n) (g:Tks ts i (T++K)) (j:Fol 3 K):QU ts (Zd ts n) i=.ok t (i+T.length):=by
 obtain⟨F,o,e⟩:=h ts n i K p g (j.mono (by decide));rw[e,Z5o (nsee g.app j (by decide)) (F1 g o)]
theorem RdP.s (h:RdP t T):RdS t T:=λts n i K o j g=>⟨ts.length+1,by omega,by unfold Z3M Z02;rw[h.e o j g];rfl⟩
theorem RdS.e (h:RdS t T) {ts:List Tk} {n i:Nat} {K:List KT} (p:T.length<=n) (g:Tks ts i (T++K)) (j:Fol 1 K):Z3M ts (Zd ts n) i=.ok t (i+T.length):=by
 obtain⟨F,o,e⟩:=h ts n i K p g (j.mono (by decide));rw[e,Z5o (nsee g.app j (by decide)) (F1 g o)]
theorem RdS.r (h:RdS t T):RdR t T:=λts n i K o j g=>by
 unfold ZN;rw[h.e o j (g.mono (by decide))];simp only[PR.bind];rw[if_neg (by rw[nsee j.app g (by decide)];simp)]
end
end Go.Sx.Ps
/- EVERY VALID TERM'S TEXT IS READ AS THE TERM. -/
namespace Go.Sx.Ps
open Go.Sx
open Go.Sx.Lx (Tk tok Zl Zz Q4 ZQ)
open Go.Sx.Pa (cls fol)
theorem Zeg {b:UInt8} {r:List UInt8} (h:Lx.Zw b=false/\b≠37): ¬ wsH (b::r):=by
 rintro⟨c,hc,hd⟩;cases hc;rcases hd with hd|hd
 ·rw[h.1] at hd;cases hd
 ·exact h.2 hd
theorem Za5 {w u:List UInt8} {K:List KT} {k:Int} (p:w.all Zl=true/\ ∃ b r,w=b::r/\(Q4 b ||ZQ b)=true) (j:Lx.Z03 w=(k,0)) (o:fol Zl u) (h:LxOK u K):LxOK (w++u) ((k,w)::K):=by
 obtain⟨ha,b,r,rfl,e⟩:=p;have g:=(Pa.Z2G ha o).1;refine Z29 (by simp) ?_ (Zeg (Lx.Z5c e)) h;rw[List.cons_append] at g ⊢;unfold tok;simp only;rw[if_pos e,g,j]
theorem Zhn {u:List UInt8} (h:fol Zl u):fol Zz u:=λc hc=>by
 have:=h c hc;unfold Zl at this;cases hd:Zz c with
 |false=>rfl
 |true=>rw[hd] at this;simp at this
theorem Zei {n:Nat} (j:n<=2147483647) {u:List UInt8} {K:List KT} (o:fol Zl u) (h:LxOK u K):LxOK (Lib.decDigits n++u) ((3,Lib.decDigits n)::K):=by
 obtain⟨h1,-,b,r,hs,e⟩:=Lx.Z60 j;have ha:=(Lx.Z0k 9 n (by omega)).1;have g:=(Pa.Z2G ha (Zhn o)).1;have hx:=(Pa.Z2G ha (Pa.Z6g Zz)).1;rw[List.append_nil] at hx;have hd:=Lx.Z6m e;rw[hs] at h1 g hx ⊢;refine Z29 (by simp) ?_ (Zeg (Lx.Z6a e)) h;unfold tok at h1 ⊢;simp only[List.cons_append] at h1 g ⊢;rw[if_neg (by rw[hd.1,hd.2];simp),if_pos e,hx] at h1;rw[if_neg (by rw[hd.1,hd.2];simp),if_pos e,g,h1]
theorem ZmL {n:Nat} (h:n<=2147483647):ZjX (Lib.decDigits n)=n:=by
 obtain⟨h1,-,b,r,hs,o⟩:=Lx.Z60 h;obtain⟨m,hm,h2,e⟩:=Z8W (t:=(3,Lib.decDigits n,0)) ⟨by rw[hs];simp,h1⟩ rfl;simp only at h2 e;unfold ZjX;rw[h2];unfold Lib.itoa at e;rw[if_neg (by omega),Int.toNat_natCast] at e;have j:=(Lx.Z0k 9 n (by omega)).2.1;have g:=(Lx.Z0k 9 m (by omega)).2.1;rw[e] at g;show (m:Int)=n;omega
section
variable {t x y:Tm} {T X Y:List KT} {w v:List UInt8} {c d:Nat}
theorem Rd.of3 (h: ∃ k x r,T=(k,x)::r/\(k<4\/x=[40]\/x=[45])/\(Pa.Z0b w=false->k≠3)) (l: ∀ u K,fol Zl u->LxOK u K->LxOK (w++u) (T++K)) (a:RdA t T):Rd 3 w t T:=⟨h,l,λ_=>a,λ_=>a.p,λ_=>a.p.s,a.p.s.r⟩
theorem Rd.of2 (h: ∃ k x r,T=(k,x)::r/\(k<4\/x=[40]\/x=[45])/\(Pa.Z0b w=false->k≠3)) (l: ∀ u K,fol Zl u->LxOK u K->LxOK (w++u) (T++K)) (p:RdP t T):Rd 2 w t T:=⟨h,l,λh=>by omega,λ_=>p,λ_=>p.s,p.s.r⟩
theorem Rd.of1 (h: ∃ k x r,T=(k,x)::r/\(k<4\/x=[40]\/x=[45])/\(Pa.Z0b w=false->k≠3)) (l: ∀ u K,fol Zl u->LxOK u K->LxOK (w++u) (T++K)) (s:RdS t T):Rd 1 w t T:=⟨h,l,λh=>by omega,λh=>by omega,λ_=>s,s.r⟩
theorem Rd.par (h:Rd c w t T):Rd 3 ([40]++w++[41]) t ((6,[40])::(T++[(6,[41])])):=by
 refine .of3 ⟨6,[40],_,rfl,.inr (.inl rfl),λ_=>by decide⟩ (λu K B o=>?_) λts n i K z j o=>?_
 ·have:=Z2D (c:=40) (by decide) (h.l (41::u) _ (Pa.QL (by decide)) (Z2D (c:=41) (by decide) o));simpa using this
 ·simp only[List.length_cons,List.length_append,List.length_nil,List.cons_append,List.append_assoc,List.nil_append] at z j ⊢;obtain⟨k1,k2,g,-⟩:=j.hd;obtain⟨n,rfl⟩: ∃ m,n=m+1:=⟨n-1,by omega⟩;unfold Zd;rw[if_neg (by rw[k1];decide),if_neg (by rw[k1];decide),if_pos (see j (by simp)),h.r ts n (i+1) _ (by omega) g (λt r e A=>by cases e;decide)];simp only[PR.bind];rw[must g.app];simp only[PR.ok.injEq,true_and];omega
theorem opR {k:Nat} {s:List UInt8} {len:Nat} {r:Bool} (h:Rd (cls x) x.text x X): ∃ Y,Rd (if Q6 k s len x.kd x.nm x.as'.length r=true then 3 else cls x) (opdT k s len x x.text r) x Y:=by
 unfold opdT;cases Q6 k s len x.kd x.nm x.as'.length r with
 |true=>exact⟨_,h.par⟩
 |false=>exact⟨_,h⟩
theorem Z17 {K:List KT} {n:Nat} {o:List UInt8} (h:o ∉ stp n):Fol n ((6,o)::K):=λt r e g=>by cases e;exact h
theorem Rd.lx (hx:Rd c w x X) (A:Rd d v y Y) {o:UInt8} (j:sg1 o=true) (g:Zl o=false): ∀ u K,fol Zl u->LxOK u K->LxOK (w++([o]++v)++u) (X++(6,[o])::Y++K):=λu K z e=>by
 have:=hx.l (o::(v++u)) _ (Pa.QL g) (Z2D j (A.l u K z e));simpa using this
theorem Rd.ne (h:Rd c w x X):w≠[]:=λe=>by
 obtain⟨k,x,r,rfl,-,-⟩:=h.h
 have:=h.l [] [] (Pa.Z6g _) Z7m;rw[e] at this
 have:=this.2;simp[Lx.run,Lx.Z1q,Lx.skp] at this
theorem Rd.hd (hx:Rd c w x X) (v:List UInt8) (Y:List KT): ∃ k x r,X++Y=(k,x)::r/\(k<4\/x=[40]\/x=[45])/\(Pa.Z0b (w++v)=false->k≠3):=by
 have e:=hx.ne;obtain⟨k,x,r,rfl,h1,h2⟩:=hx.h;refine⟨k,x,r++Y,rfl,h1,λh=>h2 ?_⟩;cases w with
 |nil=>exact absurd rfl e
 |cons b w=>exact h
theorem Rd.mul (hx:Rd c w x X) (hc:2<=c) (D:Rd 3 v y Y) {o:List UInt8} (A:o∈mulL):RdP (.mk 5 0 o [x,y]) (X++(6,o)::Y):=λts n i K C j B=>by
 rw[List.length_append,List.length_cons] at C;rw[List.append_assoc,List.cons_append] at j;have g:=j.app;have z:=g.hd.2.2.1;obtain⟨F,E,e⟩:=hx.p hc ts n i _ (by omega) j (Z17 (by revert A;simp[mulL,stp];rintro (rfl|rfl|rfl)<;>decide));have hl:=j.len;rw[List.length_append,List.length_cons,List.length_append] at hl;obtain⟨F,rfl⟩: ∃ G,F=G+1:=⟨F-1,by omega⟩;refine⟨F,by rw[List.length_append,List.length_cons];omega,?_⟩;rw[e,Z7G g A (D.a rfl ts n _ K (by omega) z B),List.length_append,List.length_cons];congr 1;omega
theorem Rd.add (hx:Rd c w x X) (hc:1<=c) (D:Rd d v y Y) (hd:2<=d) {o:List UInt8} (A:o∈addL):RdS (.mk 5 0 o [x,y]) (X++(6,o)::Y):=λts n i K C j B=>by
 rw[List.length_append,List.length_cons] at C;rw[List.append_assoc,List.cons_append] at j;have g:=j.app;have z:=g.hd.2.2.1;obtain⟨F,E,e⟩:=hx.s hc ts n i _ (by omega) j (Z17 (by revert A;simp[addL,stp];rintro (rfl|rfl)<;>decide));have hl:=j.len;rw[List.length_append,List.length_cons,List.length_append] at hl;obtain⟨F,rfl⟩: ∃ G,F=G+1:=⟨F-1,by omega⟩;refine⟨F,by rw[List.length_append,List.length_cons];omega,?_⟩;rw[e,Z7G g A ((D.p hd).e (by omega) z B),List.length_append,List.length_cons];congr 1;omega
theorem Rd.rng (hx:Rd c w x X) (hc:1<=c) (z:Rd d v y Y) (hd:1<=d):RdR (.mk 6 0 [] [x,y]) (X++(6,[46,46])::Y):=λts n i K o g j=>by
 rw[List.length_append,List.length_cons] at o ⊢;rw[List.append_assoc,List.cons_append] at g;have e:=g.app;unfold ZN;rw[(hx.s hc).e (by omega) g (Z17 (by decide))];simp only[PR.bind];rw[if_pos (see e (by simp)),(z.s hd).e (by omega) e.hd.2.2.1 (j.mono (by decide))];simp only[PR.ok.injEq,true_and];omega
end
end Go.Sx.Ps
