/- Own work: a layer over the kit: plain data,a walk over it,its soundness. -/
import Derived.Test.YtecgehidegnmnaaGreatDoorSx9
import Derived.Test.YtecgehidegnmnaaGreatDoorSx10
import Derived.Test.YtecgehidegnmnaaGreatDoorSx4
import Derived.Test.YtecgehidegnmnaaGreatDoorSx6
import Derived.Test.YtecgehidegnmnaaGreatDoorSx8
set_option linter.unusedSectionVars false
set_option linter.unusedVariables false
set_option linter.unusedSimpArgs false
set_option linter.deprecated false
/- A row of our own that a function hands back is plain data. -/
namespace Go.Sx
open Go.RowKit
variable [Globs] [Codes]
variable {P:Program}
end Go.Sx
/- PANICS: what a call leaves that panics,forgotten. -/
namespace Go.Sx
open Go.RowKit
variable [Globs] [Codes]
variable {P:Program}
theorem CallL.pdrop {d:D} {args:List D} {ob:Obs} {R:D->Obs->Prop} {v:Value} (h:CallL P d args ob R) (hR: ∀ r o,R r o->r= .pan v):CallL P d args ob fun r o=>r= .pan v/\o=[]:=by
 intro F hF n φ hh w u vs hp hv hvs
 refine (h F hF n φ hh w u vs hp hv hvs).mono ?_
 rintro e w' ⟨r,o,φ',h',he,hr,ha⟩
 have e1:=hR r o hr
 subst e1
 refine⟨.pan v,[],φ',h', ?_,⟨rfl,rfl⟩,⟨⟨ha.loc.one,ha.loc.glob.sub fun b ⟨i,hi,_⟩=>by simp[lk] at hi,ha.loc.mem,fun i o ho=>by simp[lk] at ho,fun i j b hi=>by simp[lk] at hi⟩,ha.ext,ha.new,ha.frame,ha.hfix,ha.os,ha.tape,ha.output,ha.grow⟩⟩
 rcases he with ⟨x,h1,h2⟩ | ⟨x,h1,h2⟩
 ·exact h2.notPan.elim
 ·exact .inr ⟨x,h1,h2⟩
end Go.Sx
/- OBJECTS WHOSE CELLS NAME ROWS THAT ARE NO MORE WRITTEN TO: told as what the rows hold,the rows forgotten. -/
namespace Go.Sx
open Go.RowKit
variable [Globs] [Codes]
variable {P:Program}
end Go.Sx
/- A NIL ROW IN AN OBJECT's CELL: told as a row of our own that holds nothing. -/
namespace Go.Sx
open Go.RowKit
variable [Globs] [Codes]
variable {P:Program}
end Go.Sx
/- A ROW IN AN OBJECT's CELL UNDER A FRESH NAME. -/
namespace Go.Sx
open Go.RowKit
variable [Globs] [Codes]
variable {P:Program}
end Go.Sx
/- A NIL ROW IN A CELL OF ONE OF SEVERAL OBJECTS: told as a row of our own that holds nothing. -/
namespace Go.Sx
open Go.RowKit
variable [Globs] [Codes]
variable {P:Program}
theorem Z7B {φ:Mem} {h:Nat->Value} {x:Value} {m:Nat}: ∀ {vs:List Value} {ds:List D},RVL φ h vs ds->D.menL m ds=false->RVL φ (updH h m x) vs ds
 | [],[],_,_=>trivial
 | _::_,_::_,hr,hm=>by
  simp only[D.menL,Bool.or_eq_false_iff] at hm
  exact⟨hr.1.upd m x hm.1,Z7B hr.2 hm.2⟩
 | [],_::_,hr,_=>hr.elim
 | _::_,[],hr,_=>hr.elim
theorem CallL.nilG {d:D} {args:List D} {R:D->Obs->Prop} {m i j sz:Nat} {e:TypeId} {ob ob':Obs} {cs:List D} (hsz:0<sz) (hd:D.men m d=false) (ha:D.menL m args=false) (him:i≠m)
  (hm:lk ob m=some (.arr true sz e [])) (hm':lk ob' m=none) (hi:lk ob i=some (.cells cs)) (hi':lk ob' i=some (.cells (cs.set j .nils))) (hj:cs[j]? = some (.vec m))
  (hcs: ∀ k x,k≠j->cs[k]? = some x->D.men m x=false) (ho: ∀ k,k≠i->k≠m->lk ob k=lk ob' k) (hmen: ∀ k o,k≠i->k≠m->lk ob k=some o->(∃ sz e es,o= .arr true sz e es)\/ ∃ cs,o= .cells cs/\D.menL m cs=false)
  (hc:CallL P d args ob R):CallL P d args ob' R:=by
 intro F hF n φ h w v vs hp hv hvs
 obtain⟨h1,hh1⟩: ∃ x,x=updH h m (.slice none 0 0):=⟨_,rfl⟩
 have e0: ∀ k,k≠m->h1 k=h k:=fun k hk=>by rw[hh1]; exact Zj _ _ hk
 have e1:h1 m= .slice none 0 0:=by rw[hh1]; exact Zw _ _ _
 have hsome: ∀ k,k≠m->((lk ob k).isSome ↔ (lk ob' k).isSome):=fun k hk=>by
  by_cases q:k=i
  ·subst q; rw[hi,hi']; simp
  ·rw[ho k q hk]
 have hz: ∀ b,ZOf ob h1 b ↔ ZOf ob' h b:=fun b=>by
  constructor
  ·rintro⟨k,hk,hb⟩
   by_cases q:k=m
   ·subst q; rw[e1] at hb; cases hb
   ·rw[e0 k q] at hb; exact⟨k,(hsome k q).1 hk,hb⟩
  ·rintro⟨k,hk,hb⟩
   by_cases q:k=m
   ·subst q; rw[hm'] at hk; cases hk
   ·exact⟨k,(hsome k q).2 hk,by rw[e0 k q]; exact hb⟩
 have hone:HOne h1:=fun k=>by
  by_cases q:k=m
  ·subst q; rw[e1]; rfl
  ·rw[e0 k q]; exact hp.one k
 have hl:Loc (fun _=>True) ob φ h1 w:=by
  refine⟨hone,hp.glob.sub fun b hb=>(hz b).1 hb,hp.mem,fun k o hk=> ?_,fun k l b hk hlk hbk hbl=> ?_⟩
  ·by_cases q1:k=m
   ·subst q1
    rw[hm] at hk
    cases hk
    rw[e1]
    exact⟨hsz,by simp,[],World.ownsRow_nil w 0 e sz,by simp,fun b hb=>by cases hb⟩
   ·rw[e0 k q1]
    by_cases q:k=i
    ·subst q
     rw[hi] at hk
     cases hk
     obtain⟨b,vals,ty,a1,a2,a3,a4,a5,a6⟩:=hp.obj k _ hi'
     refine⟨b,vals,ty,a1,a2,a3,by simpa using a4,fun l x hx=> ?_,a6⟩
     by_cases ql:l=j
     ·subst ql
      rw[hj] at hx
      cases hx
      have hlt:l<cs.length:=by
       apply Classical.byContradiction
       intro hn
       rw[List.getElem?_eq_none (by omega)] at hj; cases hj
      have:=(a5 l .nils (by rw[List.getElem?_set_self hlt])).nils_inv
      rw[this,<- e1]
      exact .vec m (by rw[e1]; rfl)
     ·rw[hh1]
      exact (a5 l x (by rw[List.getElem?_set_ne (fun h=>ql h.symm)]; exact hx)).upd m _ (hcs l x ql hx)
    ·have hk':=hk
     rw[ho k q q1] at hk'
     have hob:=hp.obj k o hk'
     rcases hmen k o q q1 hk with ⟨sz',e',es',rfl⟩ | ⟨cs',rfl,hcm⟩
     ·exact hob
     ·obtain⟨b,vals,ty,a1,a2,a3,a4,a5,a6⟩:=hob
      refine⟨b,vals,ty,a1,a2,a3,a4,fun l x hx=> ?_,a6⟩
      rw[hh1]
      refine (a5 l x hx).upd m _ ?_
      clear a4 a5 hk hk'
      induction cs' generalizing l with
      | nil=>simp at hx
      | cons y r ih =>
       simp only[D.menL,Bool.or_eq_false_iff] at hcm
       cases l with
       | zero=>simp at hx; subst hx; exact hcm.1
       | succ l=>exact ih hcm.2 l (by simpa using hx)
  ·have hkm:k≠m:=fun q=>by subst q; rw[e1] at hbk; cases hbk
   have hlm:l≠m:=fun q=>by subst q; rw[e1] at hbl; cases hbl
   rw[e0 k hkm] at hbk
   rw[e0 l hlm] at hbl
   exact hp.sep k l b ((hsome k hkm).1 hk) ((hsome l hlm).1 hlk) hbk hbl
 have hv1:RV φ h1 v d:=by rw[hh1]; exact hv.upd m _ hd
 have hvs1:RVL φ h1 vs.toList args:=by rw[hh1]; exact Z7B hvs ha
 refine (hc F hF n φ h1 w v vs hl hv1 hvs1).mono ?_
 rintro en w' ⟨r,o,φ',h',he,hR,haf⟩
 have hzz:(fun b=>w.heap.size<=b\/ZOf ob h1 b)=fun b=>w.heap.size<=b\/ZOf ob' h b:=funext fun b=>propext (or_congr Iff.rfl (hz b))
 have hloc:=haf.loc
 rw[hzz] at hloc
 refine⟨r,o,φ',h',he,hR,⟨hloc,haf.ext,fun b o v q1 q2=>(haf.new b o v q1 q2).imp_right (hz b).1,fun b q1 q2=>haf.frame b q1 fun q=>q2 ((hz b).1 q),fun k hk=> ?_,haf.os,haf.tape,haf.output,haf.grow⟩⟩
 have hkm:k≠m:=fun q=>by subst q; rw[hm'] at hk; cases hk
 rw[haf.hfix k ((hsome k hkm).2 hk),e0 k hkm]
theorem CallL.reG {d:D} {args:List D} {ob os os':Obs} {r0:D} {a b i j sz:Nat} {e:TypeId} {es:List (List D)} {cs:List D} (hab:a≠b) (hia:i≠a) (hib:i≠b) (hob:lk ob b=none) (hr0:D.men b r0=false)
  (ha:lk os a=some (.arr true sz e es)) (hb:lk os b=none) (hb':lk os' b=some (.arr true sz e es)) (ha':lk os' a=none) (hi:lk os i=some (.cells cs)) (hi':lk os' i=some (.cells (cs.set j (.vec b)))) (hj:cs[j]? = some (.vec a))
  (hcs:D.menL b cs=false) (ho: ∀ k,k≠i->k≠a->k≠b->lk os k=lk os' k) (hmen: ∀ k o,k≠i->k≠a->k≠b->lk os k=some o->(∃ sz e es,o= .arr true sz e es)\/ ∃ cs,o= .cells cs/\D.menL b cs=false)
  (hc:CallL P d args ob fun r o=>r=r0/\o=os):CallL P d args ob fun r o=>r=r0/\o=os':=by
 intro F hF n φ h w v vs hp hv hvs
 refine (hc F hF n φ h w v vs hp hv hvs).mono ?_
 rintro en w' ⟨r,o,φ',h',he,⟨rfl,rfl⟩,haf⟩
 obtain⟨h2,hh2⟩: ∃ x,x=updH h' b (h' a):=⟨_,rfl⟩
 have e0: ∀ k,k≠b->h2 k=h' k:=fun k hk=>by rw[hh2]; exact Zj _ _ hk
 have e2:h2 b=h' a:=by rw[hh2]; exact Zw _ _ _
 have men1: ∀ (cs:List D) (l:Nat) (x:D),D.menL b cs=false->cs[l]? = some x->D.men b x=false:=fun cs=>by
  induction cs with
  | nil=>intro l x _ hx; simp at hx
  | cons y r ih =>
   intro l x hm hx
   simp only[D.menL,Bool.or_eq_false_iff] at hm
   cases l with
   | zero=>simp at hx; subst hx; exact hm.1
   | succ l=>exact ih l x hm.2 (by simpa using hx)
 -- whose name stands for which
 have hz: ∀ c,ZOf os' h2 c->ZOf o h' c:=by
  rintro c ⟨k,hk,hc⟩
  by_cases q:k=b
  ·subst q; exact⟨a,by rw[ha]; rfl,by rw[<- e2]; exact hc⟩
  ·have qa:k≠a:=fun h=>by subst h; rw[ha'] at hk; cases hk
   refine⟨k, ?_,by rw[<- e0 k q]; exact hc⟩
   by_cases qi:k=i
   ·subst qi; rw[hi]; rfl
   ·rw[ho k qi qa q]; exact hk
 have hone:HOne h2:=fun k=>by
  by_cases q:k=b
  ·subst q; rw[e2]; exact haf.loc.one a
  ·rw[e0 k q]; exact haf.loc.one k
 refine⟨r,_,φ',h2, ?_,⟨rfl,rfl⟩,⟨⟨hone,haf.loc.glob.sub hz,haf.loc.mem,fun k x hk=> ?_,fun k l c hk hl hbk hbl=> ?_⟩,haf.ext,haf.new,haf.frame,fun k hk=> ?_,haf.os,haf.tape,haf.output,haf.grow⟩⟩
 ·rcases he with ⟨u,q1,q2⟩ | q
  ·exact .inl ⟨u,q1,by rw[hh2]; exact q2.upd b _ hr0⟩
  ·exact .inr q
 ·by_cases q:k=b
  ·subst q
   rw[hb'] at hk
   cases hk
   rw[e2]
   exact haf.loc.obj a _ ha
  ·have qa:k≠a:=fun h=>by subst h; rw[ha'] at hk; cases hk
   rw[e0 k q]
   by_cases qi:k=i
   ·subst qi
    rw[hi'] at hk
    cases hk
    obtain⟨b1,vals,ty,a1,a2,a3,a4,a5,a6⟩:=haf.loc.obj k _ hi
    refine⟨b1,vals,ty,a1,a2,a3,by simpa using a4,fun l x hx=> ?_,a6⟩
    by_cases ql:l=j
    ·subst ql
     have hlt:l<cs.length:=by
      apply Classical.byContradiction
      intro hn
      rw[List.getElem?_eq_none (by omega)] at hj; cases hj
     rw[List.getElem?_set_self hlt] at hx
     cases hx
     have q7:=a5 l _ hj
     have q8:=q7.vec_live
     rw[q7.vec_inv,<- e2]
     exact .vec b (by rw[e2]; exact q8)
    ·rw[List.getElem?_set_ne (fun h=>ql h.symm)] at hx
     rw[hh2]
     exact (a5 l x hx).upd b _ (men1 cs l x hcs hx)
   ·have hk':=hk
    rw[<- ho k qi qa q] at hk'
    have hob1:=haf.loc.obj k x hk'
    rcases hmen k x qi qa q hk' with ⟨sz',e',es',rfl⟩ | ⟨cs',rfl,hcm⟩
    ·exact hob1
    ·obtain⟨b1,vals,ty,a1,a2,a3,a4,a5,a6⟩:=hob1
     exact⟨b1,vals,ty,a1,a2,a3,a4,fun l x hx=>by rw[hh2]; exact (a5 l x hx).upd b _ (men1 cs' l x hcm hx),a6⟩
 ·-- each block is named once
  have nm: ∀ k,(lk os' k).isSome->blk (h2 k)=some c-> ∃ k',(k'=if k=b then a else k)/\(lk o k').isSome/\blk (h' k')=some c:=fun k hk hbk=>by
   by_cases q:k=b
   ·subst q; exact⟨a,by simp,by rw[ha]; rfl,by rw[<- e2]; exact hbk⟩
   ·have qa:k≠a:=fun h=>by subst h; rw[ha'] at hk; cases hk
    refine⟨k,by simp[q], ?_,by rw[<- e0 k q]; exact hbk⟩
    by_cases qi:k=i
    ·subst qi; rw[hi]; rfl
    ·rw[ho k qi qa q]; exact hk
  obtain⟨k1,q1,q2,q3⟩:=nm k hk hbk
  obtain⟨l1,p1,p2,p3⟩:=nm l hl hbl
  have:=haf.loc.sep k1 l1 c q2 p2 q3 p3
  subst this
  have ka:k≠a:=fun h=>by subst h; rw[ha'] at hk; cases hk
  have la:l≠a:=fun h=>by subst h; rw[ha'] at hl; cases hl
  by_cases x1:k=b <;> by_cases x2:l=b
  ·rw[x1,x2]
  ·rw[if_pos x1] at q1; rw[if_neg x2] at p1; exact absurd (p1.symm.trans q1) la
  ·rw[if_neg x1] at q1; rw[if_pos x2] at p1; exact absurd (q1.symm.trans p1) ka
  ·rw[if_neg x1] at q1; rw[if_neg x2] at p1; exact q1.symm.trans p1
 ·have q:k≠b:=fun h=>by subst h; rw[hob] at hk; cases hk
  rw[e0 k q,haf.hfix k hk]
theorem CallL.unN {d:D} {args:List D} {ob os:Obs} {cs:List D} {j:Nat} (hj:cs[j]? = some .nils) (hc:CallL P d args ob fun r o=>r= .agg cs/\o=os):CallL P d args ob fun r o=>r= .agg (cs.set j (.slice [] []))/\o=os:=by
 intro F hF n φ h w v vs hp hv hvs
 refine (hc F hF n φ h w v vs hp hv hvs).mono ?_
 intro e' w' hpost
 obtain⟨u,r0,ob1,φ',h',rfl,⟨rfl,rfl⟩,hrv,ha⟩:=hpost.dest fun r o hr=>by rw[hr.1]; rfl
 obtain⟨vs',rfl,h1,h2⟩:=hrv.agg_inv
 have hlt:j<cs.length:=by
  apply Classical.byContradiction
  intro hn
  rw[List.getElem?_eq_none (by omega)] at hj; cases hj
 refine .ret ⟨rfl,rfl⟩ (.agg _ _ (by simpa using h1) fun l x hx=> ?_) ha
 by_cases q:l=j
 ·subst q
  rw[List.getElem?_set_self hlt] at hx
  cases hx
  rw[(h2 l _ hj).nils_inv]
  exact .pure .nil
 ·rw[List.getElem?_set_ne (fun h=>q h.symm)] at hx
  exact h2 l x hx
end Go.Sx
/- A FUNCTION THAT DEFERS A CALL,BY TREES. -/
namespace Go.Sx
open Go.RowKit
variable [Globs] [Codes]
section
variable {P:Program}
def goLn (tb:Ctr) (bs:Nat):SC->St->(Exit->St->Tr)->Tr
 | .skip,s,K=>K .normal s
 | .ret,s,K=>K .ret s
 | .exit i,s,K=>K (.exit i) s
 | .reg ops,s,K=>opsT tb (s.nx bs) ops s fun s'=>K .normal s'
 | .drw pre ops,s,K=>caT tb (s.nx bs) ops s fun es s'=>if dchk (s.nx bs) pre ops es s=true then K .normal s' else .bad
 | .seq a b,s,K=>goLn tb bs a s fun e s'=>match e with
  | .normal=>goLn tb bs b s' K
  | e=>K e s'
 | .cond x a b,s,K=>match s.get x with
  | .bool t=>brT t (goLn tb bs a s K) (goLn tb bs b s K)
  | _=> .bad
 | _,_,_=> .bad
theorem Zgw {tb:Ctr} (htb:tb.OK P) {bs:Nat} {R:D->Obs->Prop} {J:List Fr->St->Prop}: ∀ (sc:SC) (s:St) (K:Exit->St->Tr) (Q:Exit->St->Prop),(∀ e s,(K e s).ok R J->Q e s)->(goLn tb bs sc s K).ok R J->sw P bs sc Q s:=by
 intro sc
 induction sc with
 | skip=>exact fun s K Q hK h=>hK _ _ h
 | ret=>exact fun s K Q hK h=>hK _ _ h
 | exit i=>exact fun s K Q hK h=>hK _ _ h
 | reg ops =>
  intro s K Q hK h
  obtain⟨s1,h1,h2⟩:=Z2M htb h
  exact h1 _ (hK _ _ h2)
 | drw pre ops =>
  intro s K Q hK h
  obtain⟨es,s1,h1,h2⟩:=ZaS htb h
  split at h2
  ·rename_i hd; exact⟨es,s1,h1,hd,hK _ _ h2⟩
  ·exact h2.elim
 | seq a b iha ihb =>
  intro s K Q hK h
  refine iha s _ _ (fun e s' h'=> ?_) h
  cases e <;> first | exact ihb s' K Q hK h' | exact hK _ _ h'
 | cond x a b iha ihb =>
  intro s K Q hK h
  simp only[goLn] at h
  simp only[sw]
  split at h
  ·rename_i t hx
   rw[hx]
   cases t
   ·exact ihb s K Q hK h
   ·exact iha s K Q hK h
  ·exact h.elim
 | _=>exact fun s K Q hK h=>h.elim
def goD (tb:Ctr) (bs:Nat) (rs:List SR):SC->St->Tr
 | .seq a b,s=>match a with
  | .spec (.dfr ops x)=>opsT tb (s.nx bs) ops s fun s1=> .jmp [.sc (.seq (.spec (.dfr [] x)) b)] s1
  | .spec (.frg ts)=>goD tb bs rs b (s.canon bs ts)
  | a=>goLn tb bs a s fun e s=>match e with
   | .normal=>goD tb bs rs b s
   | e=>finF false bs rs e s
 | _,_=> .bad
def JD (P:Program) (bs:Nat) (rs:List SR) (R:D->Obs->Prop):List Fr->St->Prop:=fun K s=>match K with
 | [.sc (.seq (.spec (.dfr _ x)) b)]=>KDef P bs rs R (s.get x) b s
 | _=>False
theorem ZiT {tb:Ctr} (htb:tb.OK P) {bs:Nat} {rs:List SR} {R:D->Obs->Prop}: ∀ (sc:SC) (s:St),(goD tb bs rs sc s).ok R (JD P bs rs (RE false R)) →
  swD P bs (EndQ rs (RetL bs (RE false R))) (KDef P bs rs (RE false R)) sc s:=by
 intro sc
 induction sc with
 | seq a b iha ihb =>
  intro s h
  have usual:(goLn tb bs a s fun e s=>match e with
   | .normal=>goD tb bs rs b s
   | e=>finF false bs rs e s).ok R (JD P bs rs (RE false R))->sw P bs a (thenS (swD P bs (EndQ rs (RetL bs (RE false R))) (KDef P bs rs (RE false R)) b) (EndQ rs (RetL bs (RE false R)))) s:=fun h=>by
   refine Zgw htb a s _ _ (fun e s' h'=> ?_) h
   cases e with
   | normal=>exact ihb s' h'
   | ret=>exact Z13 .ret s' h'
   | exit i=>exact (Z13 (.exit i) s' h').elim
   | goto i=>exact (Z13 (.goto i) s' h').elim
   | panic c=>exact Z13 (.panic c) s' h'
   | outgrown=>exact (Z13 .outgrown s' h').elim
  cases a with
  | spec k =>
   cases k with
   | dfr ops x =>
    obtain⟨s1,h1,h2⟩:=Z2M htb h
    exact h1 _ h2
   | frg ts=>exact ihb _ h
   | _=>exact usual h
  | _=>exact usual h
 | _=>exact fun s h=>h.elim
theorem KDef.at {k k2:Nat} {rs:List SR} {R:D->Obs->Prop} {cl:D} {sb:SC} {s1:St} (g:FuncId) (fa fc:List D) (hcl:cl= .func (.func g) fa fc) (hpg:QE P g=true) (h1:s1.top<=k2) (h2:k<=k2) (h3:D.top cl<=k2) (h:At P k2 [.sc sb] s1 (DefQ P k k2 rs cl R)):KDef P k rs R cl sb s1 :=
 ⟨g,fa,fc,k2,hcl,hpg,h1,h2,h3,Z8w h⟩
def defT (P:Program) (tD:FrameMode->Obs->Option (FrameMode × Obs)) (k k2:Nat) (rs:List SR) (cl:D) (u:FrameMode) (s2:St):Tr :=
 let nm:=Z1w s2 [cl]
 if Z0p nm=true then (match tD u (Qc s2.ob (idx · nm) 0 nm) with
  | some (u',ob')=> .owe (CallD P u (cl.ren (idx · nm)) (Qc s2.ob (idx · nm) 0 nm) fun u0 ob0=>u0=u'/\ob0=ob') (match settle u' with
   | .returning=>endT false k rs (s2.back (s2.base k2) nm ob')
   | _=> .bad)
  | none=> .bad) else .bad
theorem ZgK {tD:FrameMode->Obs->Option (FrameMode × Obs)} {k k2:Nat} {rs:List SR} {cl:D} {u:FrameMode} {s2:St} {R:D->Obs->Prop} {J:List Fr->St->Prop} (h:(defT P tD k k2 rs cl u s2).ok R J):DQ P k k2 rs cl (RE false R) u s2:=by
 unfold defT at h
 simp only at h
 split at h
 ·rename_i hnd
  split at h
  ·rename_i u' ob' _
   obtain⟨hC,h⟩:=h
   split at h
   ·rename_i hs
    obtain⟨ds,h1,h2⟩:=Zax h
    refine⟨_,_,s2.base k2,Zx hnd,fun i hi=>ZR i hi,Nat.le_trans (Nat.le_add_right _ _) (Nat.le_max_left ..),Nat.le_max_right ..,hC, ?_⟩
    rintro u0 ob0 ⟨rfl,rfl⟩
    exact⟨hs,ds,h1,h2⟩
   ·exact h.elim
  ·exact h.elim
 ·exact h.elim
def Zan (P:Program) (tD:FrameMode->Obs->Option (FrameMode × Obs)) (k k2:Nat) (rs:List SR) (cl:D):Exit->St->Tr:=fun e s=>match e with
 | .normal=>defT P tD k k2 rs cl .returning s
 | .ret=>defT P tD k k2 rs cl .returning s
 | .panic c=>defT P tD k k2 rs cl (.panicking c) s
 | _=> .bad
theorem Zcu {tD:FrameMode->Obs->Option (FrameMode × Obs)} {k k2:Nat} {rs:List SR} {cl:D} {R:D->Obs->Prop} {J:List Fr->St->Prop} (e:Exit) (s:St) (h:(Zan P tD k k2 rs cl e s).ok R J):DefQ P k k2 rs cl (RE false R) e s:=by
 cases e <;> first | exact ZgK h | exact h.elim
theorem At.treeD {tb:Ctr} (htb:tb.OK P) {tD:FrameMode->Obs->Option (FrameMode × Obs)} {n k k2:Nat} {rs:List SR} {cl:D} {K:List Fr} {s:St} {R:D->Obs->Prop} {T:Tr} (e:goT P tb k2 (Zan P tD k k2 rs cl) n K s=T)
  (h:T.ok R (fun K s=>At P k2 K s (DefQ P k k2 rs cl (RE false R)))):At P k2 K s (DefQ P k k2 rs cl (RE false R)) :=
 Z30 htb Zcu (fun _ _ h=>h) (e ▸ h)
theorem CallL.treeD [CodesOf P] (Z7:DrawSound P) {f:FuncId} {N:Nat} {sc:SC} {rs:List SR} (hf:FnC P f N sc rs/\QE P f=true) {tb:Ctr} (htb:tb.OK P) {bs:Nat} {first args caps:List D} {ob:Obs} {R:D->Obs->Prop} {T:Tr}
  (e:goD tb bs rs sc ⟨Zv 0 (first++args++caps),ob⟩=T) (h:T.ok R (JD P bs rs (RE false R))) (hlen:Nat.ble (first++args++caps).length N=true:=by rfl) (hbs:Nat.ble (Obs.top ob) bs=true:=by rfl):CallL P (.func (.func f) first caps) args ob R :=
 CallL.reordG (CallL.fnD Z7 hf.1 hf.2 bs (Nat.le_of_ble_eq_true hbs) (Nat.le_of_ble_eq_true hlen) (ZiT htb sc _ (e ▸ h)))
def Zlc (k:Nat):Exit->St->Tr:=fun e s=>match e with
 | .normal=> .ret (.tuple []) (s.fin k (.tuple [])).ob
 | .ret=> .ret (.tuple []) (s.fin k (.tuple [])).ob
 | _=> .bad
def goRc (P:Program) (tb:Ctr) (k n:Nat) (ops:List SOp) (sb:SC) (s0:St):Tr:=opsT tb (St.nx s0 k) ops s0 fun s1=>goT P tb k (Zlc k) n [.sc sb] s1
theorem CallD.tree [CodesOf P] (Z7:DrawSound P) {g:FuncId} {N t:Nat} {ops:List SOp} {sb:SC} (hf:FnC P g N (.seq (.spec (.rcv t ops)) sb) []) {tb:Ctr} (htb:tb.OK P) {first caps:List D} {ob:Obs} {n k:Nat} {u:FrameMode} {R:FrameMode->Obs->Prop} {T:Tr}
  (e:goRc P tb k n ops sb ⟨(t,.raw (recM u).1)::Za t (Zv 0 (first++caps)),ob⟩=T)
  (h:T.ok (fun _ ob'=>R (recM u).2 ob') (fun _ _=>False)) (hone:(recM u).1.oneCell'=true:=by rfl) (hlen:Nat.ble (first++caps).length N=true:=by rfl) (hk:Nat.ble (Obs.top ob) k=true:=by rfl):CallD P u (.func (.func g) first caps) ob R:=by
 have h':(goRc P tb k n ops sb ⟨(t,.raw (recM u).1)::Za t (Zv 0 (first++caps)),ob⟩).ok (fun _ ob'=>R (recM u).2 ob') (fun _ _=>False):=e ▸ h
 unfold goRc at h'
 obtain⟨s1,h1,h2⟩:=Z2M htb h'
 refine CallD.fn Z7 hf k (Nat.le_of_ble_eq_true hk) (Nat.le_of_ble_eq_true hlen) hone (h1 _ (Z8w (Z30 htb (fun e s hf=> ?_) (fun _ _ h=>h.elim) h2)))
 cases e with
 | normal=>exact⟨.inl rfl,hf⟩
 | ret=>exact⟨.inr rfl,hf⟩
 | _=>exact hf.elim
end
end Go.Sx
/- How many bytes tokens take: no more than so many shown predicates. -/
namespace Go.Sx.Lx
open Go.Sx
def Z1u:List UInt8->Bool
 | b::_=>QG b
 | []=>false
def AdjL (lim:Nat):List Tk->Prop
 | []=>True
 | [t]=>t.2.2+t.2.1.length<=lim
 | t::u::r=>t.2.2+t.2.1.length+(if t.1=5/\Z1u u.2.1=true then 1 else 0)<=u.2.2/\AdjL lim (u::r)
theorem Z1n {p:UInt8->Bool}: ∀ l:List UInt8, ∀ b∈(l.drop (l.takeWhile p).length).head?,p b=false
 | [],b,h=>by cases h
 | a::r,b,h=>by
  by_cases ha:p a=true
  ·rw[List.takeWhile_cons,if_pos ha] at h
   exact Z1n r b (by simpa using h)
  ·rw[List.takeWhile_cons,if_neg ha] at h
   simp at h
   subst h
   simpa using ha
theorem Z8V {l:List UInt8} (h:(tok l).1=5):Z1u (l.drop (tok l).2.1.length)=false:=by
 cases l with
 | nil=>rfl
 | cons b r =>
  unfold tok at h ⊢
  simp only at h ⊢
  split at h
  ·exfalso
   unfold Z0n at h
   split at h
   ·cases h
   split at h
   ·cases h
   split at h <;> cases h
  split at h
  ·cases h
  split at h
  ·rename_i h1 h2 h3
   rw[if_neg h1,if_neg h2,if_pos h3]
   simp only[List.length_cons,List.drop_succ_cons]
   have:=Z1n (p:=QG) r
   unfold Z1u
   split
   ·rename_i b' r' he
    rw[he] at this
    exact this b' rfl
   ·rfl
  ·cases h
theorem ZbY {l:List UInt8} {o:Nat} {u:Tk} {r:List Tk} (h:(run o l).1=u::r):u.2.2=(o+skp false l:Nat)/\(Z1u u.2.1=true->Z1u (l.drop (skp false l))=true):=by
 by_cases hs:skp false l=l.length
 ·rw[Z0T hs] at h; cases h
 ·rw[Z1H hs] at h
  split at h
  ·rename_i he
   simp only[List.cons.injEq] at h
   rw[<- h.1]
   refine⟨rfl,fun hl=> ?_⟩
   have ht:=ZbJ (l.drop (skp false l))
   simp only at hl
   rw[<- ht] at hl
   generalize l.drop (skp false l)=d at hl
   cases d with
   | nil=>simp[Z1u] at hl
   | cons b r =>
    cases hn:(tok (b::r)).2.1.length with
    | zero=>rw[hn] at hl; simp[Z1u] at hl
    | succ n=>rw[hn] at hl; simpa [Z1u] using hl
  ·cases h
theorem Zfp: ∀ (m:Nat) (l:List UInt8) (o:Nat),l.length<m->AdjL (o+l.length) (run o l).1:=by
 intro m
 induction m with
 | zero=>intro l o h; omega
 | succ m ih =>
  intro l o hm
  have hk:=Z0G false l
  by_cases h:skp false l=l.length
  ·rw[Z0T h]; trivial
  ·have hne:l.drop (skp false l)≠[]:=fun he=>by
    have:=congrArg List.length he
    rw[List.length_drop,List.length_nil] at this
    omega
   rw[Z1H h]
   by_cases he:(tok (l.drop (skp false l))).2.2=0
   ·rw[if_pos he]
    have hp:=Z04 hne he
    have htl:=Z2B (l.drop (skp false l))
    rw[List.length_drop] at htl
    have h1:=ih (l.drop (skp false l+(tok (l.drop (skp false l))).2.1.length)) (o+skp false l+(tok (l.drop (skp false l))).2.1.length) (by rw[List.length_drop]; omega)
    rw[List.length_drop] at h1
    have e:o+skp false l+(tok (l.drop (skp false l))).2.1.length+(l.length-(skp false l+(tok (l.drop (skp false l))).2.1.length))=o+l.length:=by omega
    rw[e] at h1
    simp only
    cases hr:(run (o+skp false l+(tok (l.drop (skp false l))).2.1.length) (l.drop (skp false l+(tok (l.drop (skp false l))).2.1.length))).1 with
    | nil=>show _<=_; simp only; omega
    | cons u r =>
     rw[hr] at h1
     refine⟨?_,h1⟩
     obtain⟨h2,h3⟩:=ZbY hr
     rw[h2]
     simp only
     split
     ·rename_i h5
      have h6:=Z8V h5.1
      rw[List.drop_drop] at h6
      have h7:=h3 h5.2
      have h8:skp false (l.drop (skp false l+(tok (l.drop (skp false l))).2.1.length))≠0:=fun h0=>by
       rw[h0,List.drop_zero,h6] at h7; cases h7
      omega
     ·omega
   ·rw[if_neg he]; trivial
end Go.Sx.Lx
namespace Go.Sx.Ps
open Go.Sx
open Go.Sx.Lx (Tk AdjL Z1u)
def Z0d (ts:List Tk) (lim i:Nat):Int:=match ts[i]? with
 | some t=>t.2.2
 | none=>lim
theorem Z6n {lim:Nat}: ∀ {ts:List Tk},AdjL lim ts-> ∀ (i:Nat) (t:Tk),ts[i]? = some t->t.2.2+t.2.1.length+(match ts[i+1]? with | some u=>(if t.1=5/\Z1u u.2.1=true then (1:Int) else 0) | none=>0)<=Z0d ts lim (i+1)
 | [],_,i,t,h=>by simp at h
 | [a],h,i,t,hi=>by
  cases i with
  | zero =>
   simp at hi; subst hi
   have h':a.2.2+a.2.1.length<=(lim:Int):=h
   simpa [Z0d] using h'
  | succ i=>simp at hi
 | a::b::r,h,i,t,hi=>by
  cases i with
  | zero=>simp at hi; subst hi; simpa [Z0d] using h.1
  | succ i=>exact Z6n h.2 i t (by simpa using hi)
theorem Z1d {lim:Nat} {ts:List Tk} (h:AdjL lim ts) {i:Nat} (hi:i<ts.length):Z0d ts lim i+(Zb ts i).2.1.length<=Z0d ts lim (i+1):=by
 have h1:=Z6n h i ts[i] (List.getElem?_eq_getElem hi)
 have e:Zb ts i=ts[i]:=by simp only[Zb,List.getD_eq_getElem?_getD,List.getElem?_eq_getElem hi,Option.getD_some]
 have e2:Z0d ts lim i=ts[i].2.2:=by unfold Z0d; rw[List.getElem?_eq_getElem hi]
 rw[e,e2]
 split at h1
 ·split at h1 <;> omega
 ·omega
theorem Z2r {lim:Nat} {ts:List Tk} (h:AdjL lim ts) {i:Nat}: ∀ {j:Nat},i<=j->j<=ts.length->Z0d ts lim i<=Z0d ts lim j
 | 0,hij,hj=>by
  have:i=0:=by omega
  subst this; exact Int.le_refl _
 | j+1,hij,hj=>by
  by_cases e:i=j+1
  ·subst e; exact Int.le_refl _
  ·have h1:=Z2r h (i:=i) (j:=j) (by omega) (by omega)
   have h2:=Z1d h (i:=j) (by omega)
   omega
theorem Zga {lim:Nat} {ts:List Tk} (h:AdjL lim ts) {i:Nat} (hi:i<=ts.length):Z0d ts lim i<=lim:=by
 have h1:=Z2r h (i:=i) (j:=ts.length) hi (Nat.le_refl _)
 have e:Z0d ts lim ts.length=lim:=by unfold Z0d; rw[List.getElem?_eq_none (Nat.le_refl _)]
 omega
theorem Z5M {ts:List Tk} {i:Nat} {s:List UInt8} {u:Unit} {j:Nat} (h:Z0 ts s i= .ok u j):i<ts.length/\(Zb ts i).2.1=s/\j=i+1:=by
 unfold Z0 at h
 split at h
 ·rename_i hs
  cases h
  have:=Z6Y hs
  exact⟨Qg hs,by simpa using this,rfl⟩
 ·cases h
theorem ZbQ {ts:List Tk} (H:Z4D ts) {lim:Nat} (hA:AdjL lim ts) {a b:Ac} {i j:Nat} (h:Z0P ts a i= .ok b j) (hij:i<=j/\j<=ts.length):10*b.s.length+Z0d ts lim i<=10*a.s.length+Z0d ts lim j:=by
 have hmono:=Z2r hA hij.1 hij.2
 unfold Z0P at h
 cases h0:Zd a.s.length i with
 | bad x e=>rw[h0] at h; cases h
 | ok u i0 =>
  have hi0:i0=i:=by unfold Zd at h0; split at h0 <;> cases h0; rfl
  subst hi0
  rw[h0] at h
  simp only[PR.bind] at h
  cases h1:Z0 ts QV i0 with
  | bad x e=>rw[h1] at h; cases h
  | ok u1 i1 =>
   obtain⟨a1,a2,rfl⟩:=Z5M h1
   rw[h1] at h
   simp only at h
   by_cases hdot:Z1 ts (i0+1) [[46]]=true
   ·rw[if_pos hdot] at h
    simp only at h
    cases h2:Z0 ts [46] (i0+1) with
    | bad x e=>rw[h2] at h; cases h
    | ok u2 i2=>rw[h2] at h; cases h; simpa using hmono
   ·rw[if_neg hdot] at h
    cases h3:Zu ts 1 (i0+1) with
    | bad x e=>rw[h3] at h; cases h
    | ok n i2 =>
     obtain⟨b1,b2⟩:=Z2P h3
     have:=Z1L h3
     subst this
     rw[h3] at h
     simp only at h
     cases h4:Z0 ts [47] (i0+1+1) with
     | bad x e=>rw[h4] at h; cases h
     | ok u4 i3 =>
      obtain⟨c1,c2,rfl⟩:=Z5M h4
      rw[h4] at h
      simp only at h
      cases h5:Z1t ts (i0+1+1+1) with
      | bad x e=>rw[h5] at h; cases h
      | ok v i4 =>
       have:=Z5Y h5
       subst this
       rw[h5] at h
       simp only at h
       cases h6:Z0 ts [46] (i0+1+1+1+1) with
       | bad x e=>rw[h6] at h; cases h
       | ok u6 i5 =>
        obtain⟨d1,d2,rfl⟩:=Z5M h6
        rw[h6] at h
        cases h
        have hs:a.s.length+1=(a.s++[(n,v)]).length:=by simp
        simp only[<- hs]
        -- the bytes
        have e0:=Z6n hA i0 ts[i0] (List.getElem?_eq_getElem a1)
        have k1:i0+1<ts.length:=by omega
        have e1:=Z1d hA k1
        have e2:=Z1d hA c1
        have e3:=Z1d hA (i:=i0+1+1+1) (by omega)
        have e4:=Z1d hA d1
        rw[c2] at e2
        rw[d2] at e4
        have q0:Zb ts i0=ts[i0]:=by simp only[Zb,List.getD_eq_getElem?_getD,List.getElem?_eq_getElem a1,Option.getD_some]
        have q1:Zb ts (i0+1)=ts[i0+1]:=by simp only[Zb,List.getD_eq_getElem?_getD,List.getElem?_eq_getElem k1,Option.getD_some]
        have p0:Z0d ts lim i0=ts[i0].2.2:=by unfold Z0d; rw[List.getElem?_eq_getElem a1]
        have v0:Lx.Val ts[i0]:=H _ (List.getElem_mem a1)
        have v1:Lx.Val ts[i0+1]:=H _ (List.getElem_mem k1)
        have d0:ts[i0].1=5:=by rw[ZbE v0,<- q0,a2,ZbK]
        rw[List.getElem?_eq_getElem k1] at e0
        rw[q0] at a2
        rw[a2] at e0
        have l0:(QV.length:Int)=5:=rfl
        have l3:1<=(Zb ts (i0+1+1+1)).2.1.length:=by
         have k3:i0+1+1+1<ts.length:=by omega
         have q3:Zb ts (i0+1+1+1)=ts[i0+1+1+1]:=by simp only[Zb,List.getD_eq_getElem?_getD,List.getElem?_eq_getElem k3,Option.getD_some]
         have v3:Lx.Val ts[i0+1+1+1]:=H _ (List.getElem_mem k3)
         rw[q3]
         exact List.length_pos_iff.2 v3.1
        have w1:=Z5v v1 (by rw[<- q1]; exact b1)
        rw[q1] at e1
        simp only[d0,true_and] at e0
        have l4:2<=ts[i0+1].2.1.length+(if Z1u ts[i0+1].2.1=true then 1 else 0):=by
         generalize ts[i0+1].2.1=s at w1
         cases s with
         | nil=>simp[Lx.Qt,Lx.Z1o] at w1
         | cons x r =>
          cases r with
          | cons y r=>simp only[List.length_cons]; omega
          | nil =>
           have:Z1u [x]=true:=by
            simp only[Lx.Qt,Lx.Z1o,Bool.and_eq_true] at w1
            have w2:=w1.1
            simp only[List.dropWhile] at w2
            split at w2
            ·cases w2
            ·rename_i b r he
             split at he
             ·cases he
             ·cases he
              simp only[Bool.and_eq_true] at w2
              simp only[Z1u,Lx.QG,w2.1.1,Bool.true_or]
           rw[if_pos this]; simp
        have l5:(if Z1u ts[i0+1].2.1=true then (1:Int) else 0)=((if Z1u ts[i0+1].2.1=true then 1 else 0:Nat):Int):=by split <;> rfl
        rw[l5] at e0
        simp only[List.length_cons,List.length_nil] at e2 e4
        omega
theorem Z6U {ts:List Tk} (H:Z4D ts) {lim:Nat} (hA:AdjL lim ts) {a b:Ac} {i j:Nat} (hi:i<ts.length) (h:Zh ts a i= .ok b j):10*b.s.length+Z0d ts lim i<=10*a.s.length+Z0d ts lim j:=by
 have hw:=Q9 (Sm.self ts) a i (.inr rfl)
 rw[show i+0=i from rfl,h] at hw
 have hij:i<=j/\j<=ts.length:=⟨Nat.le_of_lt hw.1,hw.2.1 (Nat.le_of_lt hi)⟩
 have hmono:=Z2r hA hij.1 hij.2
 have same:b.s=a.s->10*b.s.length+Z0d ts lim i<=10*a.s.length+Z0d ts lim j:=fun e=>by rw[e]; omega
 unfold Zh at h
 split at h
 ·have hv:VP (fun c:Ac=>c.s=a.s) (Q0 ts a i):=by
   unfold Q0
   exact (VP.any _).bind fun _ i _ _=>(VP.any _).bind fun _ j _ _=>(VP.any _).bind fun n k _ _=>(VP.any _).bind fun _ m _ _=>(VP.any _).bind fun v o _ _=>(VP.any _).bind fun _ p _ _=>rfl
  rw[h] at hv; exact same hv
 split at h
 ·exact ZbQ H hA h hij
 split at h
 ·have hv:VP (fun c:Ac=>c.s=a.s) (ZZ ts a i):=by
   unfold ZZ
   exact (VP.any _).bind fun _ j _ _=>(VP.any _).bind fun _ k _ _=>(VP.any _).bind fun rs m _ _=>(VP.any _).bind fun _ o _ _=>(VP.any _).bind fun _ p _ _=>rfl
  rw[h] at hv; exact same hv
 ·have hv:VP (fun c:Ac=>c.s=a.s) ((Zd a.r.length i).bind fun _ i=>(Zy ts i).bind fun r j=> .ok { a with r:=a.r++[r] } j) :=
   (VP.any _).bind fun _ i _ _=>(VP.any _).bind fun r j _ _=>rfl
  rw[h] at hv; exact same hv
theorem Z73 {ts:List Tk} (H:Z4D ts) {lim:Nat} (hA:AdjL lim ts): ∀ (n:Nat) (a b:Ac) (i j:Nat),i<=ts.length->ZU ts n a i= .ok b j->10*b.s.length+Z0d ts lim i<=10*a.s.length+Z0d ts lim j
 | 0,_,_,_,_,_,h=>by cases h
 | n+1,a,b,i,j,hi,h=>by
  unfold ZU at h
  split at h
  ·rename_i hlt
   cases hx:Zh ts a i with
   | bad x e=>rw[hx] at h; cases h
   | ok c k =>
    rw[hx] at h
    have h1:=Z6U H hA hlt hx
    have hw:=Q9 (Sm.self ts) a i (.inr rfl)
    rw[show i+0=i from rfl,hx] at hw
    have h2:=Z73 H hA n c b k j (hw.2.1 hi) h
    omega
  ·cases h; omega
theorem Z8d {l:List UInt8} {o lim:Nat} (i:Nat):0<=Z0d (Lx.run o l).1 lim i:=by
 unfold Z0d
 split
 ·rename_i t ht
  have:=((Lx.Z4i (l.length+1) l o (Nat.lt_succ_self _)).2 t (List.mem_of_getElem? ht)).1
  omega
 ·omega
def Z5p {α:Type} (ts:List Tk) (s:List UInt8) (z:α) (x:PR α):α × Int × Int:=match ZjE ts x with
 | .ok a _=>(a,0,0)
 | .bad k e=>(z,Z0d ts s.length k,e)
def Za5 {α:Type} (z:α) (s:List UInt8) (f:List Tk->PR α):α × Int × Int:=if (Lx.ZJ s).2.2=0 then Z5p (Lx.ZJ s).1 s z (f (Lx.ZJ s).1) else (z,(Lx.ZJ s).2.1,(Lx.ZJ s).2.2)
def Zk (s:List UInt8):Ac × Int × Int:=Za5 ⟨[],[],[],false⟩ s Zz
def Z5P (s:List UInt8):Ru × Int × Int:=Za5 zR s fun ts=>Zy ts 0
theorem Z4l {ts:List Tk}: ∀ (n:Nat) (a b:Ac) (i j:Nat),ZU ts n a i= .ok b j-> ¬ j<ts.length
 | 0,_,_,_,_,h=>by cases h
 | n+1,a,b,i,j,h=>by
  unfold ZU at h
  split at h
  ·cases hx:Zh ts a i with
   | bad c e=>rw[hx] at h; cases h
   | ok c k=>rw[hx] at h; exact Z4l n c b k j h
  ·rename_i hn; cases h; exact hn
end Go.Sx.Ps
/- What is parsed is of moderate size. -/
namespace Go.Sx.Ps
open Go.Sx
open Go.Sx.Lx (Tk)
abbrev BB:Nat:=281474976710656
theorem Z3l {t:Tm} (h:TV t):t.wf BB:=by
 rcases h with rfl | h
 ·simp[Tm.wf,Tm.wfL]
 ·unfold Vd Tm.valid at h
  simp only[Bool.and_eq_true] at h
  exact ZeE t h.2
theorem Zku {t:Tm} (h:Vd t):t.wf BB:=Z3l (.inr h)
def LtW (l:Lt):Prop:=l.l.wf BB/\l.r.wf BB/\(∀ x∈l.a,x.wf BB)/\l.a.length<=1000000
def CdW (l:List Lt):Prop:=(∀ x∈l,LtW x)/\l.length<=1000000
def TuW (l:List Tm):Prop:=(∀ x∈l,x.wf BB)/\l.length<=1000000
def ElW (e:El):Prop:=TuW e.t/\CdW e.c
def BoW (b:Bo):Prop:=b.b.wf BB/\LtW b.l/\CdW b.c/\(∀ e∈b.e,ElW e)/\b.e.length<=1000000
def HeW (h:He):Prop:=TuW h.a/\CdW h.c
def RuW (r:Ru):Prop:=r.lo.wf BB/\r.up.wf BB/\r.w.wf BB/\r.lv.wf BB/\TuW r.t/\((∀ x∈r.h,HeW x)/\r.h.length<=1000000)/\(∀ x∈r.b,BoW x)/\r.b.length<=1000000
def CoW (c:Co):Prop:=c.v.wf BB
def AcW (a:Ac):Prop:=((∀ x∈a.r,RuW x)/\a.r.length<=1000000)/\((∀ x∈a.c,CoW x)/\a.c.length<=1000000)/\a.s.length<=1000000
theorem ZiJ {l:Lt} (h:LtT l):LtW l:=⟨Z3l h.1,Z3l h.2.1,fun x hx=>Z3l (h.2.2.1 x hx),by have:=h.2.2.2; omega⟩
theorem ZgO {l:List Lt} (h:CdV l):CdW l:=⟨fun x hx=>ZiJ (h.1 x hx).2,by have:=h.2; omega⟩
theorem ZhT {l:List Tm} (h:TuV l):TuW l:=⟨fun x hx=>Zku (h.1 x hx),by have:=h.2; omega⟩
theorem Zle {e:El} (h:ElV e):ElW e:=⟨ZhT h.1,ZgO h.2.2⟩
theorem Zlj {b:Bo} (h:BoV b):BoW b:=⟨Z3l h.1,ZiJ h.2.1,ZgO h.2.2.1,fun e he=>Zle (h.2.2.2.1.1 e he),by have:=h.2.2.2.1.2; omega⟩
theorem Zl6 {h:He} (hv:HeV h):HeW h:=⟨⟨fun x hx=>Z3l (hv.2.2.1 x hx),by have:=hv.2.1; omega⟩,ZgO hv.2.2.2⟩
theorem Zii {r:Ru} (h:RuV r):RuW r:=⟨Z3l h.lo,Z3l h.up,Z3l h.w,Z3l h.lv,ZhT h.t,⟨fun x hx=>Zl6 (h.h x hx),by have:=h.hl; omega⟩,fun x hx=>Zlj (h.b.1 x hx),by have:=h.b.2; omega⟩
theorem Zll:AcV ⟨[],[],[],false⟩:=⟨nofun,by decide,nofun,by decide,by decide,nofun⟩
theorem Z75 {ts:List Tk} {k:Nat} {e:Int} (h:Zz ts= .bad k e):e≠0:=by
 have hw:=Z2K (Sm.self ts) (fu ts) (fu ts) ⟨[],[],[],false⟩ 0 (by unfold fu; omega) (by unfold fu; omega)
 rw[show (0:Nat)+0=0 from rfl] at hw
 unfold Zz at h
 rw[h] at hw
 exact hw.1
theorem Z1K {ts:List Tk} {s:List UInt8} {z:Ac} {b:Ac} {j:Nat} (h:Zz ts= .ok b j):Z5p ts s z (Zz ts)=(b,0,0):=by
 have:=Z4l _ _ _ _ _ h
 unfold Z5p ZjE
 rw[h]
 simp only[PR.bind]
 rw[if_neg this]
theorem ZiF {ts:List Tk} (H:Z4D ts) (s:List UInt8):AcV (Z5p ts s ⟨[],[],[],false⟩ (Zz ts)).1:=by
 have hv:=Z8M H
 cases hp:Zz ts with
 | bad k e=>exact Zll
 | ok b j=>rw[<- hp,Z1K hp]; rw[hp] at hv; exact hv
end Go.Sx.Ps
/- Programs hang on their tokens alone. -/
namespace Go.Sx.Ps
open Go.Sx
open Go.Sx.Lx (Tk AdjL)
theorem Z2s {src:List UInt8} (h:(Lx.ZJ src).2.2=0):(Lx.ZJ src).1=(Lx.run 0 src).1/\src.length<=32768/\(Lx.run 0 src).2.1=none/\(Lx.ZJ src).2.1=0:=by
 rw[Lx.Z2X] at h ⊢
 split at h
 ·cases h
 ·rename_i hl
  rw[if_neg hl]
  have he:=Lx.Z4j (src.length+1) src 0 (Nat.lt_succ_self _)
  generalize Lx.run 0 src=q at h he ⊢
  obtain⟨l,o,n⟩:=q
  cases o with
  | none=>exact⟨rfl,by omega,rfl,rfl⟩
  | some x =>
   obtain⟨a,e⟩:=x
   have:=(he a e rfl).1
   exact absurd h this
theorem Z4q {src:List UInt8} (h:(Lx.ZJ src).2.2=0):Z4D (Lx.ZJ src).1:=by
 rw[(Z2s h).1]
 exact Lx.Z9i (src.length+1) src 0 (Nat.lt_succ_self _)
theorem Z7j {src:List UInt8} (h:(Lx.ZJ src).2.2=0):AdjL src.length (Lx.ZJ src).1:=by
 have:=Lx.Zfp (src.length+1) src 0 (Nat.lt_succ_self _)
 rw[(Z2s h).1]
 rwa [Nat.zero_add] at this
end Go.Sx.Ps
/- One program behind another. -/
namespace Go.Sx.Ps
open Go.Sx
open Go.Sx.Lx (Tk AdjL)
theorem Zc9 {ts:List Tk} {s:List UInt8} {z:Ac} (h:(Z5p ts s z (Zz ts)).2.2=0): ∃ b j,Zz ts= .ok b j/\Z5p ts s z (Zz ts)=(b,0,0):=by
 cases hp:Zz ts with
 | ok b j=>exact⟨b,j,rfl,by rw[<- hp,Z1K hp]⟩
 | bad k e =>
  rw[hp] at h
  have he:=Z75 hp
  unfold Z5p ZjE at h
  exact absurd h he
theorem Z2q {ts:List Tk} {s:List UInt8} {z:Ac} {k:Nat} {e:Int}:Z5p ts s z (.bad k e)=(z,Z0d ts s.length k,e):=rfl
def shT (d:Nat) (l:List Tk):List Tk:=l.map fun t=>(t.1,t.2.1,t.2.2+(d:Int))
theorem Zgn {a b:List UInt8} (ha:a.length<=2000) (hb:b.length<=2000) (h:(Lx.ZJ a).2.2=0) :
  ((Lx.ZJ b).2.2≠0->Lx.ZJ (a++[10]++b)=([],(Lx.ZJ b).2.1+a.length+1,(Lx.ZJ b).2.2)) ∧
  ((Lx.ZJ b).2.2=0->Lx.ZJ (a++[10]++b)=((Lx.ZJ a).1++shT (a.length+1) (Lx.ZJ b).1,0,0)):=by
 have em:Lx.ZJ (a++[10]++b)=Lx.ans (Lx.run 0 (a++10::b)):=by
  rw[Lx.Z2X,if_neg (by simp only[List.length_append,List.length_cons,List.length_nil]; omega)]; simp
 have hs:=Lx.Z9j b _ a 0 (Nat.lt_succ_self _)
 rw[Nat.zero_add,show a.length+1=0+(a.length+1) by omega,Lx.Z9k (a.length+1) _ b 0 (Nat.lt_succ_self _)] at hs
 obtain⟨g1,_,g2,_⟩:=Z2s h
 have eb:Lx.ZJ b=Lx.ans (Lx.run 0 b):=by rw[Lx.Z2X,if_neg (by omega)]
 have erb:=Lx.Z4j (b.length+1) b 0 (Nat.lt_succ_self _)
 rw[em,hs,g1,eb]
 generalize Lx.run 0 a=qa at g2 ⊢
 generalize Lx.run 0 b=qb at erb ⊢
 obtain⟨la,oa,pa⟩:=qa
 obtain⟨lb,ob,pb⟩:=qb
 simp only at g2
 subst g2
 cases ob with
 | some x =>
  obtain⟨x,e⟩:=x
  have he:=(erb x e rfl).1
  refine⟨fun _=> ?_,fun h=>absurd h he⟩
  simp only[Lx.shift,Option.map_some,Lx.ans]
  refine Prod.ext rfl (Prod.ext ?_ rfl)
  simp only
  omega
 | none =>
  exact⟨fun h=>absurd rfl h,fun _=>rfl⟩
theorem Z62 {b:List UInt8} (hb:b.length<=2000) (h:(Lx.ZJ b).2.2≠0):0<=(Lx.ZJ b).2.1/\(Lx.ZJ b).2.1<=2000:=by
 have eb:Lx.ZJ b=Lx.ans (Lx.run 0 b):=by rw[Lx.Z2X,if_neg (by omega)]
 have erb:=Lx.Z4j (b.length+1) b 0 (Nat.lt_succ_self _)
 rw[eb] at h ⊢
 generalize Lx.run 0 b=qb at erb h ⊢
 obtain⟨lb,ob,pb⟩:=qb
 cases ob with
 | some x =>
  obtain⟨x,e⟩:=x
  have he:=erb x e rfl
  simp only[Lx.ans]
  omega
 | none=>exact absurd rfl h
theorem Zey (ta tb:List Tk):Sm ta (ta++tb) 0 false:=by
 have key: ∀ i,i<ta.length->Zb (ta++tb) i=Zb ta i:=by
  intro i hi
  unfold Zb
  rw[List.getD_eq_getElem?_getD,List.getD_eq_getElem?_getD,List.getElem?_append_left hi]
 exact⟨fun i h=>by rw[Nat.add_zero,key i (by simpa using h)],fun i h=>by rw[Nat.add_zero,key i (by simpa using h)],by simp,fun h=>by cases h⟩
theorem ZbN (ta tb:List Tk) (d:Nat):Sm tb (ta++shT d tb) ta.length true:=by
 have key: ∀ i,((Zb (ta++shT d tb) (i+ta.length)).1,(Zb (ta++shT d tb) (i+ta.length)).2.1)=((Zb tb i).1,(Zb tb i).2.1):=by
  intro i
  unfold Zb shT
  rw[List.getD_eq_getElem?_getD,List.getD_eq_getElem?_getD,List.getElem?_append_right (by omega),Nat.add_sub_cancel,List.getElem?_map]
  cases tb[i]? <;> rfl
 exact⟨fun i _=>(Prod.mk.inj (key i)).1,fun i _=>(Prod.mk.inj (key i)).2,by simp[shT]; omega,fun _=>by simp[shT]; omega⟩
theorem Zgb (ta tb:List Tk) (a b:List UInt8) (k:Nat):Z0d (ta++shT (a.length+1) tb) (a++[10]++b).length (k+ta.length)=Z0d tb b.length k+a.length+1:=by
 unfold Z0d shT
 rw[List.getElem?_append_right (by omega),Nat.add_sub_cancel,List.getElem?_map]
 cases tb[k]? with
 | none=>simp only[Option.map_none,List.length_append,List.length_cons,List.length_nil]; omega
 | some t=>simp only[Option.map_some]; omega
theorem ZgV (p:Ac):p.app ⟨[],[],[],false⟩=p:=by
 obtain⟨r,c,s,so⟩:=p
 simp[Ac.app]
theorem Z5W {ts:List Tk} {lim:Nat} (hA:AdjL lim ts) (i:Nat):Z0d ts lim i<=lim:=by
 by_cases h:i<=ts.length
 ·exact Zga hA h
 ·unfold Z0d; rw[List.getElem?_eq_none (by omega)]; exact Int.le_refl _
theorem Z2W {s:List UInt8} (h:(Lx.ZJ s).2.2=0) (lim i:Nat):0<=Z0d (Lx.ZJ s).1 lim i:=by
 rw[(Z2s h).1]; exact Z8d i
theorem Zb0 {a b:List UInt8} (ha:a.length<=2000) (hb:b.length<=2000) (he:(Zk a).2.2=0) :
  ((Zk b).2.2=0->((Zk (a++[10]++b)).2.2=0/\(Zk (a++[10]++b)).1=(Zk a).1.app (Zk b).1)\/((Zk (a++[10]++b)).2.2=5/\ZhC (Zk a).1 (Zk b).1)) ∧
  ((Zk b).2.2≠0->(Zk (a++[10]++b)).2.2≠0/\((Zk (a++[10]++b)).2.2=5\/((Zk (a++[10]++b)).2.2=(Zk b).2.2/\(Zk (a++[10]++b)).2.1=(Zk b).2.1+a.length+1/\0<=(Zk b).2.1/\(Zk b).2.1<=2000))):=by
 have hla:(Lx.ZJ a).2.2=0:=by
  unfold Zk Za5 at he
  split at he
  ·assumption
  ·exact absurd he ‹_›
 obtain⟨l1,l2⟩:=Zgn ha hb hla
 have ea:Zk a=Z5p (Lx.ZJ a).1 a ⟨[],[],[],false⟩ (Zz (Lx.ZJ a).1):=by unfold Zk Za5; rw[if_pos hla]
 by_cases hlb:(Lx.ZJ b).2.2=0
 ·have ec':=l2 hlb
  have eb:Zk b=Z5p (Lx.ZJ b).1 b ⟨[],[],[],false⟩ (Zz (Lx.ZJ b).1):=by unfold Zk Za5; rw[if_pos hlb]
  have ec:Zk (a++[10]++b)=Z5p ((Lx.ZJ a).1++shT (a.length+1) (Lx.ZJ b).1) (a++[10]++b) ⟨[],[],[],false⟩ (Zz ((Lx.ZJ a).1++shT (a.length+1) (Lx.ZJ b).1)):=by
   unfold Zk Za5
   rw[ec',if_pos rfl]
  have Ha:=Z4q hla
  have Hb:=Z4q hlb
  have Aa:=Z7j hla
  have Ab:=Z7j hlb
  have n0:=Z2W hlb b.length
  have m0:=Z2W hla a.length
  rw[ea] at he
  obtain⟨P,j,p1,p2⟩:=Zc9 he
  rw[p2] at ea
  rw[ea,eb,ec]
  generalize (Lx.ZJ a).1=ta at *
  generalize (Lx.ZJ b).1=tb at *
  have hps:P.s.length<=200:=by
   have:=Z73 Ha Aa (fu ta) ⟨[],[],[],false⟩ P 0 j (Nat.zero_le _) p1
   have h1:=Z5W Aa j
   have h2:=m0 0
   simp only[List.length_nil] at this
   omega
  obtain⟨hj,m',hm',hx⟩:=Z74 (Zey ta (shT (a.length+1) tb)) (fu ta) (fu (ta++shT (a.length+1) tb)) ⟨[],[],[],false⟩ 0 (by unfold fu; omega) (by unfold fu; omega) (Nat.zero_le _) P j p1
  rw[Nat.add_zero,Nat.add_zero] at hx
  have hz:Zz (ta++shT (a.length+1) tb)=ZU (ta++shT (a.length+1) tb) m' P ta.length:=hx
  have hw:=Z2K (ZbN ta tb (a.length+1)) (fu tb) m' P 0 (by unfold fu; omega) (by rw[Nat.zero_add]; simpa using hm')
  rw[Nat.zero_add,<- hz] at hw
  have hB:ShOK tb P fun i=>(Z0d tb b.length i).toNat:=by
   refine⟨fun i c d k hi h=> ?_,fun i c hi h h2=> ?_⟩
   ·have:=Z6U Hb Ab hi h
    have h1:=n0 i
    have h2:=n0 k
    simp only
    omega
   ·have h1:=Z1d Ab hi
    have h3:=Z5W Ab (i+1)
    have h4:=n0 i
    rw[h] at h1
    have h5:(QV.length:Int)=6-1:=rfl
    have h6:QV.length=5:=rfl
    simp only at h2
    omega
  have hr:=Z9B P hB (fu tb) ⟨[],[],[],false⟩ 0 (Nat.zero_le _)
  rw[ZgV] at hr
  have ex:Zz tb=ZU tb (fu tb) ⟨[],[],[],false⟩ 0:=rfl
  rw[<- ex] at hr
  cases hq:Zz tb with
  | ok Q k =>
   rw[<- hq,Z1K hq]
   refine⟨fun _=> ?_,fun h=>absurd rfl h⟩
   rw[hq] at hr
   rcases hr with hy | ⟨⟨k',hy⟩,ho⟩
   ·rw[hy] at hw
    have hc:=hw.2.2 (.inr rfl)
    rw[Z1K hc]
    exact .inl ⟨rfl,rfl⟩
   ·rw[hy] at hw
    have hc:=hw.2 rfl
    rw[hc,Z2q]
    exact .inr ⟨rfl,ho⟩
  | bad k e =>
   have hne:=Z75 hq
   rw[Z2q]
   refine⟨fun h=>absurd h hne,fun _=> ?_⟩
   rw[hq] at hr
   rcases hr with hy | ⟨k',hy⟩
   ·rw[hy] at hw
    have hc:=hw.2 rfl
    rw[hc,Z2q]
    refine⟨hne,.inr ⟨rfl,Zgb ta tb a b k,n0 k, ?_⟩⟩
    have:=Z5W Ab k
    show Z0d tb b.length k<=2000
    omega
   ·rw[hy] at hw
    have hc:=hw.2 rfl
    rw[hc,Z2q]
    exact⟨(by decide:(5:Int)≠0),.inl rfl⟩
 ·have ec':=l1 hlb
  have eb:Zk b=(⟨[],[],[],false⟩,(Lx.ZJ b).2.1,(Lx.ZJ b).2.2):=by unfold Zk Za5; rw[if_neg hlb]
  have ec:Zk (a++[10]++b)=(⟨[],[],[],false⟩,(Lx.ZJ b).2.1+a.length+1,(Lx.ZJ b).2.2):=by
   unfold Zk Za5
   rw[ec',if_neg hlb]
  rw[eb,ec]
  have:=Z62 hb hlb
  exact⟨fun h=>absurd h hlb,fun _=>⟨hlb,.inr ⟨rfl,rfl,this.1,this.2⟩⟩⟩
end Go.Sx.Ps
