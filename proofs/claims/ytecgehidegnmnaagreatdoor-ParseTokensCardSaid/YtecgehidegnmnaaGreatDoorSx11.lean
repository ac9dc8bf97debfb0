/- Own work: a layer over the kit: plain data,a walk over it,its soundness. -/
import Derived.Test.YtecgehidegnmnaaGreatDoorSx9
import Derived.Test.YtecgehidegnmnaaGreatDoorSx10
import Derived.Test.YtecgehidegnmnaaGreatDoorSx4
import Derived.Test.YtecgehidegnmnaaGreatDoorSx6
import Derived.Test.YtecgehidegnmnaaGreatDoorSx8
set_option linter.unusedSectionVars false
set_option linter.unusedVariables false
set_option linter.unusedSimpArgs false
set_option linter.deprecated false
/- A row of our own that a function hands back is plain data. -/
namespace Go.Sx
open Go.RowKit
variable [Globs] [Codes]
variable {P:Program}
end Go.Sx
/- PANICS: what a call leaves that panics,forgotten. -/
namespace Go.Sx
open Go.RowKit
variable [Globs] [Codes]
variable {P:Program}
theorem CallL.pdrop {d:D} {args:List D} {ob:Obs} {R:D->Obs->Prop} {v:Value} (h:CallL P d args ob R) (hR: ∀ r o,R r o->r= .pan v):CallL P d args ob fun r o=>r= .pan v/\o=[]:=by
 intro F hF n φ hh w u vs hp hv hvs
 refine (h F hF n φ hh w u vs hp hv hvs).mono ?_
 rintro e w' ⟨r,o,φ',h',he,hr,ha⟩
 have e1:=hR r o hr
 subst e1
 refine⟨.pan v,[],φ',h', ?_,⟨rfl,rfl⟩,⟨⟨ha.loc.one,ha.loc.glob.sub fun b ⟨i,hi,_⟩=>by simp[lk] at hi,ha.loc.mem,fun i o ho=>by simp[lk] at ho,fun i j b hi=>by simp[lk] at hi⟩,ha.ext,ha.new,ha.frame,ha.hfix,ha.os,ha.tape,ha.output,ha.grow⟩⟩
 rcases he with ⟨x,h1,h2⟩ | ⟨x,h1,h2⟩
 ·exact h2.notPan.elim
 ·exact .inr ⟨x,h1,h2⟩
end Go.Sx
/- OBJECTS WHOSE CELLS NAME ROWS THAT ARE NO MORE WRITTEN TO: told as what the rows hold,the rows forgotten. -/
namespace Go.Sx
open Go.RowKit
variable [Globs] [Codes]
variable {P:Program}
end Go.Sx
/- A NIL ROW IN AN OBJECT's CELL: told as a row of our own that holds nothing. -/
namespace Go.Sx
open Go.RowKit
variable [Globs] [Codes]
variable {P:Program}
end Go.Sx
/- A ROW IN AN OBJECT's CELL UNDER A FRESH NAME. -/
namespace Go.Sx
open Go.RowKit
variable [Globs] [Codes]
variable {P:Program}
end Go.Sx
/- A NIL ROW IN A CELL OF ONE OF SEVERAL OBJECTS: told as a row of our own that holds nothing. -/
namespace Go.Sx
open Go.RowKit
variable [Globs] [Codes]
variable {P:Program}
theorem Z5Q {φ:Mem} {h:Nat->Value} {x:Value} {m:Nat}: ∀ {vs:List Value} {ds:List D},RVL φ h vs ds->D.menL m ds=false->RVL φ (updH h m x) vs ds
 | [],[],_,_=>trivial
 | _::_,_::_,hr,hm=>by
  simp only[D.menL,Bool.or_eq_false_iff] at hm
  exact⟨hr.1.upd m x hm.1,Z5Q hr.2 hm.2⟩
 | [],_::_,hr,_=>hr.elim
 | _::_,[],hr,_=>hr.elim
theorem CallL.nilG {d:D} {args:List D} {R:D->Obs->Prop} {m i j sz:Nat} {e:TypeId} {ob ob':Obs} {cs:List D} (hsz:0<sz) (hd:D.men m d=false) (ha:D.menL m args=false) (him:i≠m)
  (hm:lk ob m=some (.arr true sz e [])) (hm':lk ob' m=none) (hi:lk ob i=some (.cells cs)) (hi':lk ob' i=some (.cells (cs.set j .nils))) (hj:cs[j]? = some (.vec m))
  (hcs: ∀ k x,k≠j->cs[k]? = some x->D.men m x=false) (ho: ∀ k,k≠i->k≠m->lk ob k=lk ob' k) (hmen: ∀ k o,k≠i->k≠m->lk ob k=some o->(∃ sz e es,o= .arr true sz e es)\/ ∃ cs,o= .cells cs/\D.menL m cs=false)
  (hc:CallL P d args ob R):CallL P d args ob' R:=by
 intro F hF n φ h w v vs hp hv hvs
 obtain⟨h1,hh1⟩: ∃ x,x=updH h m (.slice none 0 0):=⟨_,rfl⟩
 have e0: ∀ k,k≠m->h1 k=h k:=fun k hk=>by rw[hh1]; exact Z8 _ _ hk
 have e1:h1 m= .slice none 0 0:=by rw[hh1]; exact Zd _ _ _
 have hsome: ∀ k,k≠m->((lk ob k).isSome ↔ (lk ob' k).isSome):=fun k hk=>by
  by_cases q:k=i
  ·subst q; rw[hi,hi']; simp
  ·rw[ho k q hk]
 have hz: ∀ b,ZOf ob h1 b ↔ ZOf ob' h b:=fun b=>by
  constructor
  ·rintro⟨k,hk,hb⟩
   by_cases q:k=m
   ·subst q; rw[e1] at hb; cases hb
   ·rw[e0 k q] at hb; exact⟨k,(hsome k q).1 hk,hb⟩
  ·rintro⟨k,hk,hb⟩
   by_cases q:k=m
   ·subst q; rw[hm'] at hk; cases hk
   ·exact⟨k,(hsome k q).2 hk,by rw[e0 k q]; exact hb⟩
 have hone:HOne h1:=fun k=>by
  by_cases q:k=m
  ·subst q; rw[e1]; rfl
  ·rw[e0 k q]; exact hp.one k
 have hl:Loc (fun _=>True) ob φ h1 w:=by
  refine⟨hone,hp.glob.sub fun b hb=>(hz b).1 hb,hp.mem,fun k o hk=> ?_,fun k l b hk hlk hbk hbl=> ?_⟩
  ·by_cases q1:k=m
   ·subst q1
    rw[hm] at hk
    cases hk
    rw[e1]
    exact⟨hsz,by simp,[],World.ownsRow_nil w 0 e sz,by simp,fun b hb=>by cases hb⟩
   ·rw[e0 k q1]
    by_cases q:k=i
    ·subst q
     rw[hi] at hk
     cases hk
     obtain⟨b,vals,ty,a1,a2,a3,a4,a5,a6⟩:=hp.obj k _ hi'
     refine⟨b,vals,ty,a1,a2,a3,by simpa using a4,fun l x hx=> ?_,a6⟩
     by_cases ql:l=j
     ·subst ql
      rw[hj] at hx
      cases hx
      have hlt:l<cs.length:=by
       apply Classical.byContradiction
       intro hn
       rw[List.getElem?_eq_none (by omega)] at hj; cases hj
      have:=(a5 l .nils (by rw[List.getElem?_set_self hlt])).nils_inv
      rw[this,<- e1]
      exact .vec m (by rw[e1]; rfl)
     ·rw[hh1]
      exact (a5 l x (by rw[List.getElem?_set_ne (fun h=>ql h.symm)]; exact hx)).upd m _ (hcs l x ql hx)
    ·have hk':=hk
     rw[ho k q q1] at hk'
     have hob:=hp.obj k o hk'
     rcases hmen k o q q1 hk with ⟨sz',e',es',rfl⟩ | ⟨cs',rfl,hcm⟩
     ·exact hob
     ·obtain⟨b,vals,ty,a1,a2,a3,a4,a5,a6⟩:=hob
      refine⟨b,vals,ty,a1,a2,a3,a4,fun l x hx=> ?_,a6⟩
      rw[hh1]
      refine (a5 l x hx).upd m _ ?_
      clear a4 a5 hk hk'
      induction cs' generalizing l with
      | nil=>simp at hx
      | cons y r ih =>
       simp only[D.menL,Bool.or_eq_false_iff] at hcm
       cases l with
       | zero=>simp at hx; subst hx; exact hcm.1
       | succ l=>exact ih hcm.2 l (by simpa using hx)
  ·have hkm:k≠m:=fun q=>by subst q; rw[e1] at hbk; cases hbk
   have hlm:l≠m:=fun q=>by subst q; rw[e1] at hbl; cases hbl
   rw[e0 k hkm] at hbk
   rw[e0 l hlm] at hbl
   exact hp.sep k l b ((hsome k hkm).1 hk) ((hsome l hlm).1 hlk) hbk hbl
 have hv1:RV φ h1 v d:=by rw[hh1]; exact hv.upd m _ hd
 have hvs1:RVL φ h1 vs.toList args:=by rw[hh1]; exact Z5Q hvs ha
 refine (hc F hF n φ h1 w v vs hl hv1 hvs1).mono ?_
 rintro en w' ⟨r,o,φ',h',he,hR,haf⟩
 have hzz:(fun b=>w.heap.size<=b\/ZOf ob h1 b)=fun b=>w.heap.size<=b\/ZOf ob' h b:=funext fun b=>propext (or_congr Iff.rfl (hz b))
 have hloc:=haf.loc
 rw[hzz] at hloc
 refine⟨r,o,φ',h',he,hR,⟨hloc,haf.ext,fun b o v q1 q2=>(haf.new b o v q1 q2).imp_right (hz b).1,fun b q1 q2=>haf.frame b q1 fun q=>q2 ((hz b).1 q),fun k hk=> ?_,haf.os,haf.tape,haf.output,haf.grow⟩⟩
 have hkm:k≠m:=fun q=>by subst q; rw[hm'] at hk; cases hk
 rw[haf.hfix k ((hsome k hkm).2 hk),e0 k hkm]
theorem CallL.reG {d:D} {args:List D} {ob os os':Obs} {r0:D} {a b i j sz:Nat} {e:TypeId} {es:List (List D)} {cs:List D} (hab:a≠b) (hia:i≠a) (hib:i≠b) (hob:lk ob b=none) (hr0:D.men b r0=false)
  (ha:lk os a=some (.arr true sz e es)) (hb:lk os b=none) (hb':lk os' b=some (.arr true sz e es)) (ha':lk os' a=none) (hi:lk os i=some (.cells cs)) (hi':lk os' i=some (.cells (cs.set j (.vec b)))) (hj:cs[j]? = some (.vec a))
  (hcs:D.menL b cs=false) (ho: ∀ k,k≠i->k≠a->k≠b->lk os k=lk os' k) (hmen: ∀ k o,k≠i->k≠a->k≠b->lk os k=some o->(∃ sz e es,o= .arr true sz e es)\/ ∃ cs,o= .cells cs/\D.menL b cs=false)
  (hc:CallL P d args ob fun r o=>r=r0/\o=os):CallL P d args ob fun r o=>r=r0/\o=os':=by
 intro F hF n φ h w v vs hp hv hvs
 refine (hc F hF n φ h w v vs hp hv hvs).mono ?_
 rintro en w' ⟨r,o,φ',h',he,⟨rfl,rfl⟩,haf⟩
 obtain⟨h2,hh2⟩: ∃ x,x=updH h' b (h' a):=⟨_,rfl⟩
 have e0: ∀ k,k≠b->h2 k=h' k:=fun k hk=>by rw[hh2]; exact Z8 _ _ hk
 have e2:h2 b=h' a:=by rw[hh2]; exact Zd _ _ _
 have men1: ∀ (cs:List D) (l:Nat) (x:D),D.menL b cs=false->cs[l]? = some x->D.men b x=false:=fun cs=>by
  induction cs with
  | nil=>intro l x _ hx; simp at hx
  | cons y r ih =>
   intro l x hm hx
   simp only[D.menL,Bool.or_eq_false_iff] at hm
   cases l with
   | zero=>simp at hx; subst hx; exact hm.1
   | succ l=>exact ih l x hm.2 (by simpa using hx)
 -- whose name stands for which
 have hz: ∀ c,ZOf os' h2 c->ZOf o h' c:=by
  rintro c ⟨k,hk,hc⟩
  by_cases q:k=b
  ·subst q; exact⟨a,by rw[ha]; rfl,by rw[<- e2]; exact hc⟩
  ·have qa:k≠a:=fun h=>by subst h; rw[ha'] at hk; cases hk
   refine⟨k, ?_,by rw[<- e0 k q]; exact hc⟩
   by_cases qi:k=i
   ·subst qi; rw[hi]; rfl
   ·rw[ho k qi qa q]; exact hk
 have hone:HOne h2:=fun k=>by
  by_cases q:k=b
  ·subst q; rw[e2]; exact haf.loc.one a
  ·rw[e0 k q]; exact haf.loc.one k
 refine⟨r,_,φ',h2, ?_,⟨rfl,rfl⟩,⟨⟨hone,haf.loc.glob.sub hz,haf.loc.mem,fun k x hk=> ?_,fun k l c hk hl hbk hbl=> ?_⟩,haf.ext,haf.new,haf.frame,fun k hk=> ?_,haf.os,haf.tape,haf.output,haf.grow⟩⟩
 ·rcases he with ⟨u,q1,q2⟩ | q
  ·exact .inl ⟨u,q1,by rw[hh2]; exact q2.upd b _ hr0⟩
  ·exact .inr q
 ·by_cases q:k=b
  ·subst q
   rw[hb'] at hk
   cases hk
   rw[e2]
   exact haf.loc.obj a _ ha
  ·have qa:k≠a:=fun h=>by subst h; rw[ha'] at hk; cases hk
   rw[e0 k q]
   by_cases qi:k=i
   ·subst qi
    rw[hi'] at hk
    cases hk
    obtain⟨b1,vals,ty,a1,a2,a3,a4,a5,a6⟩:=haf.loc.obj k _ hi
    refine⟨b1,vals,ty,a1,a2,a3,by simpa using a4,fun l x hx=> ?_,a6⟩
    by_cases ql:l=j
    ·subst ql
     have hlt:l<cs.length:=by
      apply Classical.byContradiction
      intro hn
      rw[List.getElem?_eq_none (by omega)] at hj; cases hj
     rw[List.getElem?_set_self hlt] at hx
     cases hx
     have q7:=a5 l _ hj
     have q8:=q7.vec_live
     rw[q7.vec_inv,<- e2]
     exact .vec b (by rw[e2]; exact q8)
    ·rw[List.getElem?_set_ne (fun h=>ql h.symm)] at hx
     rw[hh2]
     exact (a5 l x hx).upd b _ (men1 cs l x hcs hx)
   ·have hk':=hk
    rw[<- ho k qi qa q] at hk'
    have hob1:=haf.loc.obj k x hk'
    rcases hmen k x qi qa q hk' with ⟨sz',e',es',rfl⟩ | ⟨cs',rfl,hcm⟩
    ·exact hob1
    ·obtain⟨b1,vals,ty,a1,a2,a3,a4,a5,a6⟩:=hob1
     exact⟨b1,vals,ty,a1,a2,a3,a4,fun l x hx=>by rw[hh2]; exact (a5 l x hx).upd b _ (men1 cs' l x hcm hx),a6⟩
 ·-- each block is named once
  have nm: ∀ k,(lk os' k).isSome->blk (h2 k)=some c-> ∃ k',(k'=if k=b then a else k)/\(lk o k').isSome/\blk (h' k')=some c:=fun k hk hbk=>by
   by_cases q:k=b
   ·subst q; exact⟨a,by simp,by rw[ha]; rfl,by rw[<- e2]; exact hbk⟩
   ·have qa:k≠a:=fun h=>by subst h; rw[ha'] at hk; cases hk
    refine⟨k,by simp[q], ?_,by rw[<- e0 k q]; exact hbk⟩
    by_cases qi:k=i
    ·subst qi; rw[hi]; rfl
    ·rw[ho k qi qa q]; exact hk
  obtain⟨k1,q1,q2,q3⟩:=nm k hk hbk
  obtain⟨l1,p1,p2,p3⟩:=nm l hl hbl
  have:=haf.loc.sep k1 l1 c q2 p2 q3 p3
  subst this
  have ka:k≠a:=fun h=>by subst h; rw[ha'] at hk; cases hk
  have la:l≠a:=fun h=>by subst h; rw[ha'] at hl; cases hl
  by_cases x1:k=b <;> by_cases x2:l=b
  ·rw[x1,x2]
  ·rw[if_pos x1] at q1; rw[if_neg x2] at p1; exact absurd (p1.symm.trans q1) la
  ·rw[if_neg x1] at q1; rw[if_pos x2] at p1; exact absurd (q1.symm.trans p1) ka
  ·rw[if_neg x1] at q1; rw[if_neg x2] at p1; exact q1.symm.trans p1
 ·have q:k≠b:=fun h=>by subst h; rw[hob] at hk; cases hk
  rw[e0 k q,haf.hfix k hk]
theorem CallL.unN {d:D} {args:List D} {ob os:Obs} {cs:List D} {j:Nat} (hj:cs[j]? = some .nils) (hc:CallL P d args ob fun r o=>r= .agg cs/\o=os):CallL P d args ob fun r o=>r= .agg (cs.set j (.slice [] []))/\o=os:=by
 intro F hF n φ h w v vs hp hv hvs
 refine (hc F hF n φ h w v vs hp hv hvs).mono ?_
 intro e' w' hpost
 obtain⟨u,r0,ob1,φ',h',rfl,⟨rfl,rfl⟩,hrv,ha⟩:=hpost.dest fun r o hr=>by rw[hr.1]; rfl
 obtain⟨vs',rfl,h1,h2⟩:=hrv.agg_inv
 have hlt:j<cs.length:=by
  apply Classical.byContradiction
  intro hn
  rw[List.getElem?_eq_none (by omega)] at hj; cases hj
 refine .ret ⟨rfl,rfl⟩ (.agg _ _ (by simpa using h1) fun l x hx=> ?_) ha
 by_cases q:l=j
 ·subst q
  rw[List.getElem?_set_self hlt] at hx
  cases hx
  rw[(h2 l _ hj).nils_inv]
  exact .pure .nil
 ·rw[List.getElem?_set_ne (fun h=>q h.symm)] at hx
  exact h2 l x hx
end Go.Sx
/- A FUNCTION THAT DEFERS A CALL,BY TREES. -/
namespace Go.Sx
open Go.RowKit
variable [Globs] [Codes]
section
variable {P:Program}
def goLn (tb:Ctr) (bs:Nat):SC->St->(Exit->St->Tr)->Tr
 | .skip,s,K=>K .normal s
 | .ret,s,K=>K .ret s
 | .exit i,s,K=>K (.exit i) s
 | .reg ops,s,K=>opsT tb (s.nx bs) ops s fun s'=>K .normal s'
 | .drw pre ops,s,K=>caT tb (s.nx bs) ops s fun es s'=>if dchk (s.nx bs) pre ops es s=true then K .normal s' else .bad
 | .seq a b,s,K=>goLn tb bs a s fun e s'=>match e with
  | .normal=>goLn tb bs b s' K
  | e=>K e s'
 | .cond x a b,s,K=>match s.get x with
  | .bool t=>brT t (goLn tb bs a s K) (goLn tb bs b s K)
  | _=> .bad
 | _,_,_=> .bad
theorem Zey {tb:Ctr} (htb:tb.OK P) {bs:Nat} {R:D->Obs->Prop} {J:List Fr->St->Prop}: ∀ (sc:SC) (s:St) (K:Exit->St->Tr) (Q:Exit->St->Prop),(∀ e s,(K e s).ok R J->Q e s)->(goLn tb bs sc s K).ok R J->sw P bs sc Q s:=by
 intro sc
 induction sc with
 | skip=>exact fun s K Q hK h=>hK _ _ h
 | ret=>exact fun s K Q hK h=>hK _ _ h
 | exit i=>exact fun s K Q hK h=>hK _ _ h
 | reg ops =>
  intro s K Q hK h
  obtain⟨s1,h1,h2⟩:=Z1q htb h
  exact h1 _ (hK _ _ h2)
 | drw pre ops =>
  intro s K Q hK h
  obtain⟨es,s1,h1,h2⟩:=Z8W htb h
  split at h2
  ·rename_i hd; exact⟨es,s1,h1,hd,hK _ _ h2⟩
  ·exact h2.elim
 | seq a b iha ihb =>
  intro s K Q hK h
  refine iha s _ _ (fun e s' h'=> ?_) h
  cases e <;> first | exact ihb s' K Q hK h' | exact hK _ _ h'
 | cond x a b iha ihb =>
  intro s K Q hK h
  simp only[goLn] at h
  simp only[sw]
  split at h
  ·rename_i t hx
   rw[hx]
   cases t
   ·exact ihb s K Q hK h
   ·exact iha s K Q hK h
  ·exact h.elim
 | _=>exact fun s K Q hK h=>h.elim
def goD (tb:Ctr) (bs:Nat) (rs:List SR):SC->St->Tr
 | .seq a b,s=>match a with
  | .spec (.dfr ops x)=>opsT tb (s.nx bs) ops s fun s1=> .jmp [.sc (.seq (.spec (.dfr [] x)) b)] s1
  | .spec (.frg ts)=>goD tb bs rs b (s.canon bs ts)
  | a=>goLn tb bs a s fun e s=>match e with
   | .normal=>goD tb bs rs b s
   | e=>finF false bs rs e s
 | _,_=> .bad
def JD (P:Program) (bs:Nat) (rs:List SR) (R:D->Obs->Prop):List Fr->St->Prop:=fun K s=>match K with
 | [.sc (.seq (.spec (.dfr _ x)) b)]=>KDef P bs rs R (s.get x) b s
 | _=>False
theorem ZgS {tb:Ctr} (htb:tb.OK P) {bs:Nat} {rs:List SR} {R:D->Obs->Prop}: ∀ (sc:SC) (s:St),(goD tb bs rs sc s).ok R (JD P bs rs (RE false R)) →
  swD P bs (EndQ rs (RetL bs (RE false R))) (KDef P bs rs (RE false R)) sc s:=by
 intro sc
 induction sc with
 | seq a b iha ihb =>
  intro s h
  have usual:(goLn tb bs a s fun e s=>match e with
   | .normal=>goD tb bs rs b s
   | e=>finF false bs rs e s).ok R (JD P bs rs (RE false R))->sw P bs a (thenS (swD P bs (EndQ rs (RetL bs (RE false R))) (KDef P bs rs (RE false R)) b) (EndQ rs (RetL bs (RE false R)))) s:=fun h=>by
   refine Zey htb a s _ _ (fun e s' h'=> ?_) h
   cases e with
   | normal=>exact ihb s' h'
   | ret=>exact Z02 .ret s' h'
   | exit i=>exact (Z02 (.exit i) s' h').elim
   | goto i=>exact (Z02 (.goto i) s' h').elim
   | panic c=>exact Z02 (.panic c) s' h'
   | outgrown=>exact (Z02 .outgrown s' h').elim
  cases a with
  | spec k =>
   cases k with
   | dfr ops x =>
    obtain⟨s1,h1,h2⟩:=Z1q htb h
    exact h1 _ h2
   | frg ts=>exact ihb _ h
   | _=>exact usual h
  | _=>exact usual h
 | _=>exact fun s h=>h.elim
theorem KDef.at {k k2:Nat} {rs:List SR} {R:D->Obs->Prop} {cl:D} {sb:SC} {s1:St} (g:FuncId) (fa fc:List D) (hcl:cl= .func (.func g) fa fc) (hpg:ZS P g=true) (h1:s1.top<=k2) (h2:k<=k2) (h3:D.top cl<=k2) (h:At P k2 [.sc sb] s1 (DefQ P k k2 rs cl R)):KDef P k rs R cl sb s1 :=
 ⟨g,fa,fc,k2,hcl,hpg,h1,h2,h3,Z6L h⟩
def defT (P:Program) (tD:FrameMode->Obs->Option (FrameMode × Obs)) (k k2:Nat) (rs:List SR) (cl:D) (u:FrameMode) (s2:St):Tr :=
 let nm:=Z0q s2 [cl]
 if Qu nm=true then (match tD u (Zw s2.ob (idx · nm) 0 nm) with
  | some (u',ob')=> .owe (CallD P u (cl.ren (idx · nm)) (Zw s2.ob (idx · nm) 0 nm) fun u0 ob0=>u0=u'/\ob0=ob') (match settle u' with
   | .returning=>endT false k rs (s2.back (s2.base k2) nm ob')
   | _=> .bad)
  | none=> .bad) else .bad
theorem ZeN {tD:FrameMode->Obs->Option (FrameMode × Obs)} {k k2:Nat} {rs:List SR} {cl:D} {u:FrameMode} {s2:St} {R:D->Obs->Prop} {J:List Fr->St->Prop} (h:(defT P tD k k2 rs cl u s2).ok R J):DQ P k k2 rs cl (RE false R) u s2:=by
 unfold defT at h
 simp only at h
 split at h
 ·rename_i hnd
  split at h
  ·rename_i u' ob' _
   obtain⟨hC,h⟩:=h
   split at h
   ·rename_i hs
    obtain⟨ds,h1,h2⟩:=Z8D h
    refine⟨_,_,s2.base k2,Ze hnd,fun i hi=>Zo i hi,Nat.le_trans (Nat.le_add_right _ _) (Nat.le_max_left ..),Nat.le_max_right ..,hC, ?_⟩
    rintro u0 ob0 ⟨rfl,rfl⟩
    exact⟨hs,ds,h1,h2⟩
   ·exact h.elim
  ·exact h.elim
 ·exact h.elim
def Z8t (P:Program) (tD:FrameMode->Obs->Option (FrameMode × Obs)) (k k2:Nat) (rs:List SR) (cl:D):Exit->St->Tr:=fun e s=>match e with
 | .normal=>defT P tD k k2 rs cl .returning s
 | .ret=>defT P tD k k2 rs cl .returning s
 | .panic c=>defT P tD k k2 rs cl (.panicking c) s
 | _=> .bad
theorem Zaz {tD:FrameMode->Obs->Option (FrameMode × Obs)} {k k2:Nat} {rs:List SR} {cl:D} {R:D->Obs->Prop} {J:List Fr->St->Prop} (e:Exit) (s:St) (h:(Z8t P tD k k2 rs cl e s).ok R J):DefQ P k k2 rs cl (RE false R) e s:=by
 cases e <;> first | exact ZeN h | exact h.elim
theorem At.treeD {tb:Ctr} (htb:tb.OK P) {tD:FrameMode->Obs->Option (FrameMode × Obs)} {n k k2:Nat} {rs:List SR} {cl:D} {K:List Fr} {s:St} {R:D->Obs->Prop} {T:Tr} (e:goT P tb k2 (Z8t P tD k k2 rs cl) n K s=T)
  (h:T.ok R (fun K s=>At P k2 K s (DefQ P k k2 rs cl (RE false R)))):At P k2 K s (DefQ P k k2 rs cl (RE false R)) :=
 Z1B htb Zaz (fun _ _ h=>h) (e ▸ h)
theorem CallL.treeD [CodesOf P] (Z5:DrawSound P) {f:FuncId} {N:Nat} {sc:SC} {rs:List SR} (hf:FnC P f N sc rs/\ZS P f=true) {tb:Ctr} (htb:tb.OK P) {bs:Nat} {first args caps:List D} {ob:Obs} {R:D->Obs->Prop} {T:Tr}
  (e:goD tb bs rs sc ⟨Zc 0 (first++args++caps),ob⟩=T) (h:T.ok R (JD P bs rs (RE false R))) (hlen:Nat.ble (first++args++caps).length N=true:=by rfl) (hbs:Nat.ble (Obs.top ob) bs=true:=by rfl):CallL P (.func (.func f) first caps) args ob R :=
 CallL.reordG (CallL.fnD Z5 hf.1 hf.2 bs (Nat.le_of_ble_eq_true hbs) (Nat.le_of_ble_eq_true hlen) (ZgS htb sc _ (e ▸ h)))
def Zjd (k:Nat):Exit->St->Tr:=fun e s=>match e with
 | .normal=> .ret (.tuple []) (s.fin k (.tuple [])).ob
 | .ret=> .ret (.tuple []) (s.fin k (.tuple [])).ob
 | _=> .bad
def goRc (P:Program) (tb:Ctr) (k n:Nat) (ops:List SOp) (sb:SC) (s0:St):Tr:=opsT tb (St.nx s0 k) ops s0 fun s1=>goT P tb k (Zjd k) n [.sc sb] s1
theorem CallD.tree [CodesOf P] (Z5:DrawSound P) {g:FuncId} {N t:Nat} {ops:List SOp} {sb:SC} (hf:FnC P g N (.seq (.spec (.rcv t ops)) sb) []) {tb:Ctr} (htb:tb.OK P) {first caps:List D} {ob:Obs} {n k:Nat} {u:FrameMode} {R:FrameMode->Obs->Prop} {T:Tr}
  (e:goRc P tb k n ops sb ⟨(t,.raw (recM u).1)::Z6 t (Zc 0 (first++caps)),ob⟩=T)
  (h:T.ok (fun _ ob'=>R (recM u).2 ob') (fun _ _=>False)) (hone:(recM u).1.oneCell'=true:=by rfl) (hlen:Nat.ble (first++caps).length N=true:=by rfl) (hk:Nat.ble (Obs.top ob) k=true:=by rfl):CallD P u (.func (.func g) first caps) ob R:=by
 have h':(goRc P tb k n ops sb ⟨(t,.raw (recM u).1)::Z6 t (Zc 0 (first++caps)),ob⟩).ok (fun _ ob'=>R (recM u).2 ob') (fun _ _=>False):=e ▸ h
 unfold goRc at h'
 obtain⟨s1,h1,h2⟩:=Z1q htb h'
 refine CallD.fn Z5 hf k (Nat.le_of_ble_eq_true hk) (Nat.le_of_ble_eq_true hlen) hone (h1 _ (Z6L (Z1B htb (fun e s hf=> ?_) (fun _ _ h=>h.elim) h2)))
 cases e with
 | normal=>exact⟨.inl rfl,hf⟩
 | ret=>exact⟨.inr rfl,hf⟩
 | _=>exact hf.elim
end
end Go.Sx
/- How many bytes tokens take: no more than so many shown predicates. -/
namespace Go.Sx.Lx
open Go.Sx
def Z21:List UInt8->Bool
 | b::_=>isLet b
 | []=>false
def AdjL (lim:Nat):List Tk->Prop
 | []=>True
 | [t]=>t.2.2+t.2.1.length<=lim
 | t::u::r=>t.2.2+t.2.1.length+(if t.1=5/\Z21 u.2.1=true then 1 else 0)<=u.2.2/\AdjL lim (u::r)
theorem Z0j {p:UInt8->Bool}: ∀ l:List UInt8, ∀ b∈(l.drop (l.takeWhile p).length).head?,p b=false
 | [],b,h=>by cases h
 | a::r,b,h=>by
  by_cases ha:p a=true
  ·rw[List.takeWhile_cons,if_pos ha] at h
   exact Z0j r b (by simpa using h)
  ·rw[List.takeWhile_cons,if_neg ha] at h
   simp at h
   subst h
   simpa using ha
theorem Z78 {l:List UInt8} (h:(tok l).1=5):Z21 (l.drop (tok l).2.1.length)=false:=by
 cases l with
 | nil=>rfl
 | cons b r =>
  unfold tok at h ⊢
  simp only at h ⊢
  split at h
  ·exfalso
   unfold wordK at h
   split at h
   ·cases h
   split at h
   ·cases h
   split at h <;> cases h
  split at h
  ·cases h
  split at h
  ·rename_i h1 h2 h3
   rw[if_neg h1,if_neg h2,if_pos h3]
   simp only[List.length_cons,List.drop_succ_cons]
   have:=Z0j (p:=isLet) r
   unfold Z21
   split
   ·rename_i b' r' he
    rw[he] at this
    exact this b' rfl
   ·rfl
  ·cases h
theorem Za5 {l:List UInt8} {o:Nat} {u:Tk} {r:List Tk} (h:(run o l).1=u::r):u.2.2=(o+skp false l:Nat)/\(Z21 u.2.1=true->Z21 (l.drop (skp false l))=true):=by
 by_cases hs:skp false l=l.length
 ·rw[QU hs] at h; cases h
 ·rw[Z1k hs] at h
  split at h
  ·rename_i he
   simp only[List.cons.injEq] at h
   rw[<- h.1]
   refine⟨rfl,fun hl=> ?_⟩
   have ht:=Z9R (l.drop (skp false l))
   simp only at hl
   rw[<- ht] at hl
   generalize l.drop (skp false l)=d at hl
   cases d with
   | nil=>simp[Z21] at hl
   | cons b r =>
    cases hn:(tok (b::r)).2.1.length with
    | zero=>rw[hn] at hl; simp[Z21] at hl
    | succ n=>rw[hn] at hl; simpa [Z21] using hl
  ·cases h
theorem run_adj: ∀ (m:Nat) (l:List UInt8) (o:Nat),l.length<m->AdjL (o+l.length) (run o l).1:=by
 intro m
 induction m with
 | zero=>intro l o h; omega
 | succ m ih =>
  intro l o hm
  have hk:=QP false l
  by_cases h:skp false l=l.length
  ·rw[QU h]; trivial
  ·have hne:l.drop (skp false l)≠[]:=fun he=>by
    have:=congrArg List.length he
    rw[List.length_drop,List.length_nil] at this
    omega
   rw[Z1k h]
   by_cases he:(tok (l.drop (skp false l))).2.2=0
   ·rw[if_pos he]
    have hp:=tok_pos hne he
    have htl:=tok_len (l.drop (skp false l))
    rw[List.length_drop] at htl
    have h1:=ih (l.drop (skp false l+(tok (l.drop (skp false l))).2.1.length)) (o+skp false l+(tok (l.drop (skp false l))).2.1.length) (by rw[List.length_drop]; omega)
    rw[List.length_drop] at h1
    have e:o+skp false l+(tok (l.drop (skp false l))).2.1.length+(l.length-(skp false l+(tok (l.drop (skp false l))).2.1.length))=o+l.length:=by omega
    rw[e] at h1
    simp only
    cases hr:(run (o+skp false l+(tok (l.drop (skp false l))).2.1.length) (l.drop (skp false l+(tok (l.drop (skp false l))).2.1.length))).1 with
    | nil=>show _<=_; simp only; omega
    | cons u r =>
     rw[hr] at h1
     refine⟨?_,h1⟩
     obtain⟨h2,h3⟩:=Za5 hr
     rw[h2]
     simp only
     split
     ·rename_i h5
      have h6:=Z78 h5.1
      rw[List.drop_drop] at h6
      have h7:=h3 h5.2
      have h8:skp false (l.drop (skp false l+(tok (l.drop (skp false l))).2.1.length))≠0:=fun h0=>by
       rw[h0,List.drop_zero,h6] at h7; cases h7
      omega
     ·omega
   ·rw[if_neg he]; trivial
end Go.Sx.Lx
namespace Go.Sx.Ps
open Go.Sx
open Go.Sx.Lx (Tk AdjL Z21)
def offP (ts:List Tk) (lim i:Nat):Int:=match ts[i]? with
 | some t=>t.2.2
 | none=>lim
theorem Z97 {lim:Nat}: ∀ {ts:List Tk},AdjL lim ts-> ∀ (i:Nat) (t:Tk),ts[i]? = some t->t.2.2+t.2.1.length+(match ts[i+1]? with | some u=>(if t.1=5/\Z21 u.2.1=true then (1:Int) else 0) | none=>0)<=offP ts lim (i+1)
 | [],_,i,t,h=>by simp at h
 | [a],h,i,t,hi=>by
  cases i with
  | zero =>
   simp at hi; subst hi
   have h':a.2.2+a.2.1.length<=(lim:Int):=h
   simpa [offP] using h'
  | succ i=>simp at hi
 | a::b::r,h,i,t,hi=>by
  cases i with
  | zero=>simp at hi; subst hi; simpa [offP] using h.1
  | succ i=>exact Z97 h.2 i t (by simpa using hi)
theorem Z5o {lim:Nat} {ts:List Tk} (h:AdjL lim ts) {i:Nat} (hi:i<ts.length):offP ts lim i+(hereP ts i).2.1.length<=offP ts lim (i+1):=by
 have h1:=Z97 h i ts[i] (List.getElem?_eq_getElem hi)
 have e:hereP ts i=ts[i]:=by simp only[hereP,List.getD_eq_getElem?_getD,List.getElem?_eq_getElem hi,Option.getD_some]
 have e2:offP ts lim i=ts[i].2.2:=by unfold offP; rw[List.getElem?_eq_getElem hi]
 rw[e,e2]
 split at h1
 ·split at h1 <;> omega
 ·omega
theorem Z5p {lim:Nat} {ts:List Tk} (h:AdjL lim ts) {i:Nat}: ∀ {j:Nat},i<=j->j<=ts.length->offP ts lim i<=offP ts lim j
 | 0,hij,hj=>by
  have:i=0:=by omega
  subst this; exact Int.le_refl _
 | j+1,hij,hj=>by
  by_cases e:i=j+1
  ·subst e; exact Int.le_refl _
  ·have h1:=Z5p h (i:=i) (j:=j) (by omega) (by omega)
   have h2:=Z5o h (i:=j) (by omega)
   omega
def outE {α:Type} (ts:List Tk) (s:List UInt8) (z:α) (x:PR α):α × Int × Int:=match endP ts x with
 | .ok a _=>(a,0,0)
 | .bad k e=>(z,offP ts s.length k,e)
def lexd {α:Type} (z:α) (s:List UInt8) (f:List Tk->PR α):α × Int × Int:=if (Lx.lexR s).2.2=0 then outE (Lx.lexR s).1 s z (f (Lx.lexR s).1) else (z,(Lx.lexR s).2.1,(Lx.lexR s).2.2)
def parseR (s:List UInt8):Ac × Int × Int:=lexd ⟨[],[],[],false⟩ s programP
def ruleR (s:List UInt8):Ru × Int × Int:=lexd zR s fun ts=>ruleP ts 0
theorem prog_end {ts:List Tk}: ∀ (n:Nat) (a b:Ac) (i j:Nat),progGo ts n a i= .ok b j-> ¬ j<ts.length
 | 0,_,_,_,_,h=>by cases h
 | n+1,a,b,i,j,h=>by
  unfold progGo at h
  split at h
  ·cases hx:statementP ts a i with
   | bad c e=>rw[hx] at h; cases h
   | ok c k=>rw[hx] at h; exact prog_end n c b k j h
  ·rename_i hn; cases h; exact hn
end Go.Sx.Ps
/- What is parsed is of moderate size. -/
namespace Go.Sx.Ps
open Go.Sx
open Go.Sx.Lx (Tk)
abbrev BB:Nat:=281474976710656
theorem Z1V {t:Tm} (h:TV t):t.wf BB:=by
 rcases h with rfl | h
 ·simp[Tm.wf,Tm.wfL]
 ·unfold Vd Tm.valid at h
  simp only[Bool.and_eq_true] at h
  exact sh_wf t h.2
theorem ZfM {t:Tm} (h:Vd t):t.wf BB:=Z1V (.inr h)
def LtW (l:Lt):Prop:=l.l.wf BB/\l.r.wf BB/\(∀ x∈l.a,x.wf BB)/\l.a.length<=1000000
def CdW (l:List Lt):Prop:=(∀ x∈l,LtW x)/\l.length<=1000000
def TuW (l:List Tm):Prop:=(∀ x∈l,x.wf BB)/\l.length<=1000000
def ElW (e:El):Prop:=TuW e.t/\CdW e.c
def BoW (b:Bo):Prop:=b.b.wf BB/\LtW b.l/\CdW b.c/\(∀ e∈b.e,ElW e)/\b.e.length<=1000000
def HeW (h:He):Prop:=TuW h.a/\CdW h.c
def RuW (r:Ru):Prop:=r.lo.wf BB/\r.up.wf BB/\r.w.wf BB/\r.lv.wf BB/\TuW r.t/\((∀ x∈r.h,HeW x)/\r.h.length<=1000000)/\(∀ x∈r.b,BoW x)/\r.b.length<=1000000
def CoW (c:Co):Prop:=c.v.wf BB
def AcW (a:Ac):Prop:=((∀ x∈a.r,RuW x)/\a.r.length<=1000000)/\((∀ x∈a.c,CoW x)/\a.c.length<=1000000)/\a.s.length<=1000000
theorem ZgI {l:Lt} (h:LtT l):LtW l:=⟨Z1V h.1,Z1V h.2.1,fun x hx=>Z1V (h.2.2.1 x hx),by have:=h.2.2.2; omega⟩
theorem ZeS {l:List Lt} (h:CdV l):CdW l:=⟨fun x hx=>ZgI (h.1 x hx).2,by have:=h.2; omega⟩
theorem ZfU {l:List Tm} (h:TuV l):TuW l:=⟨fun x hx=>ZfM (h.1 x hx),by have:=h.2; omega⟩
theorem Zjf {e:El} (h:ElV e):ElW e:=⟨ZfU h.1,ZeS h.2.2⟩
theorem Zjk {b:Bo} (h:BoV b):BoW b:=⟨Z1V h.1,ZgI h.2.1,ZeS h.2.2.1,fun e he=>Zjf (h.2.2.2.1.1 e he),by have:=h.2.2.2.1.2; omega⟩
theorem Zj7 {h:He} (hv:HeV h):HeW h:=⟨⟨fun x hx=>Z1V (hv.2.2.1 x hx),by have:=hv.2.1; omega⟩,ZeS hv.2.2.2⟩
theorem ZiJ {r:Ru} (h:RuV r):RuW r:=⟨Z1V h.lo,Z1V h.up,Z1V h.w,Z1V h.lv,ZfU h.t,⟨fun x hx=>Zj7 (h.h x hx),by have:=h.hl; omega⟩,fun x hx=>Zjk (h.b.1 x hx),by have:=h.b.2; omega⟩
theorem acv_w {a:Ac} (h:AcV a):AcW a:=⟨⟨fun x hx=>ZiJ (h.r x hx),by have:=h.rl; omega⟩,⟨fun x hx=>ZfM (h.c x hx).2,by have:=h.cl; omega⟩,by have:=h.sl; omega⟩
theorem acv0:AcV ⟨[],[],[],false⟩:=⟨nofun,by decide,nofun,by decide,by decide,nofun⟩
theorem Z1p {ts:List Tk} {s:List UInt8} {z:Ac} {b:Ac} {j:Nat} (h:programP ts= .ok b j):outE ts s z (programP ts)=(b,0,0):=by
 have:=prog_end _ _ _ _ _ h
 unfold outE endP
 rw[h]
 simp only[PR.bind]
 rw[if_neg this]
theorem outE_v {ts:List Tk} (H:TokOK ts) (s:List UInt8):AcV (outE ts s ⟨[],[],[],false⟩ (programP ts)).1:=by
 have hv:=Z6Y H
 cases hp:programP ts with
 | bad k e=>exact acv0
 | ok b j=>rw[<- hp,Z1p hp]; rw[hp] at hv; exact hv
end Go.Sx.Ps
/- Programs hang on their tokens alone. -/
namespace Go.Sx.Ps
open Go.Sx
open Go.Sx.Lx (Tk AdjL)
theorem Z2Y {src:List UInt8} (h:(Lx.lexR src).2.2=0):(Lx.lexR src).1=(Lx.run 0 src).1/\src.length<=32768/\(Lx.run 0 src).2.1=none/\(Lx.lexR src).2.1=0:=by
 rw[Lx.lexR_eq] at h ⊢
 split at h
 ·cases h
 ·rename_i hl
  rw[if_neg hl]
  have he:=Lx.run_err (src.length+1) src 0 (Nat.lt_succ_self _)
  generalize Lx.run 0 src=q at h he ⊢
  obtain⟨l,o,n⟩:=q
  cases o with
  | none=>exact⟨rfl,by omega,rfl,rfl⟩
  | some x =>
   obtain⟨a,e⟩:=x
   have:=(he a e rfl).1
   exact absurd h this
theorem Zeo {src:List UInt8} (hl:src.length<=32768) (h:(Lx.run 0 src).2.1=none):Lx.lexR src=((Lx.run 0 src).1,0,0):=by
 rw[Lx.lexR_eq,if_neg (by omega)]
 generalize Lx.run 0 src=q at h ⊢
 obtain⟨l,o,n⟩:=q
 simp only at h
 subst h
 rfl
theorem lexR_val {src:List UInt8} (h:(Lx.lexR src).2.2=0):TokOK (Lx.lexR src).1:=by
 rw[(Z2Y h).1]
 exact Lx.run_val (src.length+1) src 0 (Nat.lt_succ_self _)
theorem Zan {src:List UInt8} (h:(Lx.lexR src).2.2=0):AdjL src.length (Lx.lexR src).1:=by
 have:=Lx.run_adj (src.length+1) src 0 (Nat.lt_succ_self _)
 rw[(Z2Y h).1]
 rwa [Nat.zero_add] at this
theorem Z3V {ts us:List Tk} (h:Lx.alikeB ts us=true):us.length=ts.length:=by
 have:=congrArg List.length ((Lx.alikeB_iff ts us).1 h)
 simpa using this.symm
theorem ZaW {ts us:List Tk} (h:Lx.alikeB ts us=true):Sm ts us 0 true:=by
 have hl:=Z3V h
 have hm:=(Lx.alikeB_iff ts us).1 h
 have key: ∀ i,((hereP us i).1,(hereP us i).2.1)=((hereP ts i).1,(hereP ts i).2.1):=by
  intro i
  have h1:=congrArg (fun l=>l[i]?) hm
  simp only[List.getElem?_map] at h1
  unfold hereP
  rw[List.getD_eq_getElem?_getD,List.getD_eq_getElem?_getD]
  cases hx:ts[i]? with
  | none =>
   rw[hx] at h1
   cases hy:us[i]? with
   | none=>rfl
   | some y=>rw[hy] at h1; cases h1
  | some x =>
   rw[hx] at h1
   cases hy:us[i]? with
   | none=>rw[hy] at h1; cases h1
   | some y =>
    rw[hy] at h1
    simp only[Option.map_some,Option.some.injEq] at h1
    exact h1.symm
 exact⟨fun i _=>(Prod.mk.inj (key i)).1,fun i _=>(Prod.mk.inj (key i)).2,by omega,fun _=>hl⟩
theorem Z6r {ts us:List Tk} (h:Lx.alikeB ts us=true) (s t:List UInt8) (z:Ac) :
  (outE us t z (programP us)).1=(outE ts s z (programP ts)).1/\(outE us t z (programP us)).2.2=(outE ts s z (programP ts)).2.2 ∧
  ((outE ts s z (programP ts)).2.2=0->(outE ts s z (programP ts)).2.1=0/\(outE us t z (programP us)).2.1=0) ∧
  ((outE ts s z (programP ts)).2.2≠0-> ∃ k,(outE ts s z (programP ts)).2.1=offP ts s.length k/\(outE us t z (programP us)).2.1=offP us t.length k):=by
 have hw:=Z3C (ZaW h) (fu ts) (fu us) ⟨[],[],[],false⟩ 0 (by unfold fu; omega) (by unfold fu; omega)
 cases hp:programP ts with
 | ok b j =>
  have hp':=hp
  unfold programP at hp'
  rw[hp'] at hw
  have hq:programP us= .ok b (j+0):=hw.2.2 (.inr rfl)
  rw[<- hp,Z1p hp,Z1p hq]
  exact⟨rfl,rfl,fun _=>⟨rfl,rfl⟩,fun h=>absurd rfl h⟩
 | bad k e =>
  have hp':=hp
  unfold programP at hp'
  rw[hp'] at hw
  have hq:programP us= .bad (k+0) e:=hw.2 rfl
  have he:=hw.1
  rw[hq]
  unfold outE endP
  simp only[PR.bind]
  exact⟨trivial,trivial,fun h=>absurd h he,fun _=>⟨k,rfl,rfl⟩⟩
theorem ZbY {lim:Nat} {ts:List Tk} (h:AdjL lim ts) (hv: ∀ t∈ts,0<t.2.1.length) {i j:Nat} (hij:i<j) (hj:j<=ts.length):offP ts lim i<offP ts lim j:=by
 have h1:=Z5o h (i:=i) (by omega)
 have h2:=Z5p h (i:=i+1) (j:=j) (by omega) hj
 have h3:0<(hereP ts i).2.1.length:=by
  apply hv
  unfold hereP
  rw[List.getD_eq_getElem?_getD,List.getElem?_eq_getElem (by omega),Option.getD_some]
  exact List.getElem_mem _
 omega
def joinS (src:List UInt8):List UInt8:=Lib.join ((Lx.lexR src).1.map (·.2.1)) [32]
theorem joined {src:List UInt8} (hs:src.length<=4000) (he:(Lx.lexR src).2.2=0):(joinS src).length<=32768/\(Lx.lexR src).1.length<=4000/\(Lx.lexR (joinS src)).2.2=0/\Lx.alikeB (Lx.lexR src).1 (Lx.lexR (joinS src)).1=true:=by
 obtain⟨h1,_,h2,_⟩:=Z2Y he
 have hv:=lexR_val he
 have hlen:=(Lx.run_toks (src.length+1) src 0 (Nat.lt_succ_self _)).1
 have hlen2:=Lx.run_lens (src.length+1) src 0 (Nat.lt_succ_self _)
 rw[<- h1] at hlen hlen2
 have hj:=Lx.join_le (Lx.lexR src).1
 have hb:(joinS src).length<=32768:=by unfold joinS; omega
 obtain⟨g1,g2⟩:=Lx.run_join (Lx.lexR src).1 hv
 have e:=Zeo hb g1
 refine⟨hb,by omega,by rw[e], ?_⟩
 rw[e]
 exact g2
theorem tokens_plain {src:List UInt8} (hs:src.length<=4000) (he:(Lx.lexR src).2.2=0) :
  (parseR (joinS src)).1=(parseR src).1/\(parseR (joinS src)).2.2=(parseR src).2.2/\(Lx.lexR (joinS src)).1.length=(Lx.lexR src).1.length ∧
  ((parseR src).2.2=0->(parseR src).2.1=0/\(parseR (joinS src)).2.1=0) ∧
  ((parseR src).2.2≠0->(parseR src).2.1=src.length/\(parseR (joinS src)).2.1=(joinS src).length ∨
   ∃ k,k<(Lx.lexR src).1.length/\(parseR src).2.1≠src.length/\(parseR src).2.1=offP (Lx.lexR src).1 src.length k/\(parseR (joinS src)).2.1=offP (Lx.lexR (joinS src)).1 (joinS src).length k ∧
    ∀ i,i<k->offP (Lx.lexR src).1 src.length i≠(parseR src).2.1):=by
 obtain⟨h1,h2,h3,h4⟩:=joined hs he
 have e1:parseR src=outE (Lx.lexR src).1 src ⟨[],[],[],false⟩ (programP (Lx.lexR src).1):=by unfold parseR lexd; rw[if_pos he]
 have e2:parseR (joinS src)=outE (Lx.lexR (joinS src)).1 (joinS src) ⟨[],[],[],false⟩ (programP (Lx.lexR (joinS src)).1):=by unfold parseR lexd; rw[if_pos h3]
 obtain⟨g1,g2,g3,g4⟩:=Z6r h4 src (joinS src) ⟨[],[],[],false⟩
 rw[<- e1,<- e2] at g1 g2 g3 g4
 have hl:=Z3V h4
 have hA:=Zan he
 have hv: ∀ t∈(Lx.lexR src).1,0<t.2.1.length:=fun t ht=>List.length_pos_iff.2 (lexR_val he t ht).1
 refine⟨g1,g2,hl,g3,fun h=> ?_⟩
 obtain⟨k,k1,k2⟩:=g4 h
 by_cases hk:k<(Lx.lexR src).1.length
 ·right
  have hlt:=ZbY hA hv (i:=k) (j:=(Lx.lexR src).1.length) hk (Nat.le_refl _)
  have hend:offP (Lx.lexR src).1 src.length (Lx.lexR src).1.length=src.length:=by unfold offP; rw[List.getElem?_eq_none (Nat.le_refl _)]
  refine⟨k,hk,by omega,k1,k2,fun i hi=> ?_⟩
  have:=ZbY hA hv (i:=i) (j:=k) hi (by omega)
  omega
 ·left
  have x1:offP (Lx.lexR src).1 src.length k=src.length:=by unfold offP; rw[List.getElem?_eq_none (by omega)]
  have x2:offP (Lx.lexR (joinS src)).1 (joinS src).length k=(joinS src).length:=by unfold offP; rw[List.getElem?_eq_none (by omega)]
  exact⟨by omega,by omega⟩
end Go.Sx.Ps
