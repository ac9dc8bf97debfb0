/- Own work: a layer over the kit: plain data,a walk over it,its soundness. -/
import Derived.RecoverIn
import Derived.RangeFuncLeaves
import Derived.Test.YtecgehidegnmnaaGreatDoorSx5
import Derived.Test.YtecgehidegnmnaaGreatDoorSx4
set_option linter.unusedSectionVars false
set_option linter.unusedVariables false
set_option linter.unusedSimpArgs false
set_option linter.deprecated false
namespace Go.Sx
open Go.RowKit
variable [Globs] [Codes]
theorem Z1M {α β:Type} {f:α->Option β}: ∀ {l:List α} {l':List β},l.mapM f=some l'-> ∀ (k:Nat) (a:α),l[k]? = some a-> ∃ b,f a=some b/\l'[k]? = some b
 | [],_,_,k,a,hk=>by simp at hk
 | x::l,l',h,k,a,hk=>by
  simp only[List.mapM_cons,Option.bind_eq_bind,Option.bind_eq_some_iff,Option.pure_def,Option.some.injEq] at h
  obtain⟨b,h1,r,h2,rfl⟩:=h
  cases k with
  | zero=>simp at hk; subst hk; exact⟨b,h1,rfl⟩
  | succ k=>obtain⟨b',q1,q2⟩:=Z1M h2 k a (by simpa using hk); exact⟨b',q1,by simpa using q2⟩
theorem Z1f {α β:Type} {f:α->Option β}: ∀ {l:List α} {l':List β},l.mapM f=some l'->l'.length=l.length
 | [],_,h=>by simp at h; subst h; rfl
 | x::l,l',h=>by
  simp only[List.mapM_cons,Option.bind_eq_bind,Option.bind_eq_some_iff,Option.pure_def,Option.some.injEq] at h
  obtain⟨b,h1,r,h2,rfl⟩:=h
  simp[Z1f h2]
def un (ops:Array Oper) (listed:Array Bool):List Nat:=(List.range ops.size).filter fun i=> !listed.getD i true
theorem Z8T {ops:Array Oper} {listed:Array Bool} {i:Nat} (hs:listed.size=ops.size) (hi:i∈un ops listed):(un ops (listed.setIfInBounds i true)).length<(un ops listed).length:=by
 have e:un ops (listed.setIfInBounds i true)=(un ops listed).filter fun j=>decide (j≠i):=by
  unfold un
  rw[List.filter_filter]
  refine List.filter_congr fun j hj=> ?_
  have hj':j<listed.size:=by rw[hs]; exact List.mem_range.1 hj
  by_cases h:j=i
  ·subst h; simp[hj']
  ·simp[Array.getD_eq_getD_getElem?,Array.getElem?_setIfInBounds_ne (Ne.symm h),h]
 rw[e]
 exact List.length_filter_lt_length_iff_exists.2 ⟨i,hi,by simp⟩
theorem Z1I {ops:Array Oper} {listed:Array Bool} {i:Nat} (h:i∈Region.ready .any ops listed):i∈un ops listed:=by
 obtain⟨h1,o,h2,_⟩:=mem_ready.1 h
 exact List.mem_filter.2 ⟨List.mem_range.2 (Array.getElem?_eq_some_iff.1 h2).1,by simpa using h1⟩
def Closed (ops:Array Oper) (listed:Array Bool):Prop:= ∀ i o,ops[i]? = some o->listed.getD i false=true-> ∀ e∈o.after,Region.binds .any e=true->listed.getD e.on false=true
theorem Z3F {pre:List Nat} {i:Nat}: ∀ {l:List Edge} {m:Nat},(Z51 pre l m).testBit i=true->m.testBit i=true\/ ∃ e∈l,Region.binds .any e=true/\(i=e.on\/Qk pre i e.on=true)
 | [],m,h=> .inl h
 | e::r,m,h=>by
  simp only[Z51] at h
  rcases Z3F h with h | ⟨e',he,h⟩
  ·split at h
   ·rename_i hb
    simp only[Nat.testBit_or,Bool.or_eq_true] at h
    rcases h with (h | h) | h
    ·exact .inl h
    ·refine .inr ⟨e,by simp,hb,.inl ?_⟩
     have:=Nat.testBit_two_pow (n:=e.on) (m:=i)
     rw[this] at h
     exact (of_decide_eq_true h).symm
    ·exact .inr ⟨e,by simp,hb,.inr h⟩
   ·exact .inl h
  ·exact .inr ⟨e',List.mem_cons_of_mem _ he,h⟩
def Z6q (pre:List Nat) (ops:Array Oper):Prop:= ∀ i j,Qk pre i j=true-> ∃ o,ops[j]? = some o/\ ∃ e∈o.after,Region.binds .any e=true/\e.on<j/\(i=e.on\/Qk pre i e.on=true)
theorem Qp {ops:Array Oper} {listed:Array Bool} {pre:List Nat} (hp:Z6q pre ops) (hcl:Closed ops listed): ∀ (j i:Nat),(∀ o,ops[j]? = some o-> ∀ e∈o.after,Region.binds .any e=true->listed.getD e.on false=true)->Qk pre i j=true->listed.getD i false=true:=by
 intro j
 induction j using Nat.strongRecOn with
 | _ j ih =>
  intro i hd hb
  obtain⟨o,ho,e,he,hbi,hlt,h⟩:=hp i j hb
  have hl:=hd o ho e he hbi
  rcases h with rfl | h
  ·exact hl
  ·exact ih e.on hlt i (fun o' ho'=>hcl e.on o' ho' hl) h
theorem Z0z {listed:Array Bool} {i j:Nat} (hi:i<listed.size):(listed.setIfInBounds i true).getD j false=true ↔ listed.getD j false=true\/j=i:=by
 by_cases h:j=i
 ·subst h; simp[hi]
 ·simp[Array.getD_eq_getD_getElem?,Array.getElem?_setIfInBounds_ne (Ne.symm h),h]
theorem QJ {listed:Array Bool} {i:Nat} (hi:i<listed.size):listed.getD i true=listed.getD i false:=by simp[Array.getD,hi]
theorem Closed.set {ops:Array Oper} {listed:Array Bool} (hcl:Closed ops listed) {i:Nat} (hi:i<listed.size) (hr: ∀ o,ops[i]? = some o-> ∀ e∈o.after,Region.binds .any e=true->listed.getD e.on false=true):Closed ops (listed.setIfInBounds i true):=by
 intro j o ho hj e he hb
 rw[Z0z hi] at hj ⊢
 rcases hj with hj | rfl
 ·exact .inl (hcl j o ho hj e he hb)
 ·exact .inl (hr o ho e he hb)
section latest
variable {V:Type} {L L':Nat->Prop} {wr:Nat->Option V} {v0 v v':V}
def Latest (L:Nat->Prop) (wr:Nat->Option V) (v0 v:V):Prop :=
 (∃ k x,L k/\wr k=some x/\v=x/\ ∀ k',L k'->(wr k').isSome->k'<=k)\/((∀ k,L k->wr k=none)/\v=v0)
theorem Latest.none (h: ∀ k,¬ L k):Latest L wr v0 v0:= .inr ⟨fun k hk=>absurd hk (h k),rfl⟩
theorem Latest.skip {j:Nat} (h:Latest L wr v0 v) (hj:wr j=Option.none):Latest (fun k=>L k\/k=j) wr v0 v:=by
 rcases h with ⟨k,x,h1,h2,h3,h4⟩ | ⟨h1,h2⟩
 ·refine .inl ⟨k,x,.inl h1,h2,h3,fun k' hk' hw=> ?_⟩
  rcases hk' with hk' | rfl
  ·exact h4 k' hk' hw
  ·rw[hj] at hw; cases hw
 ·exact .inr ⟨fun k hk=>hk.elim (h1 k) fun e=>by rw[e]; exact hj,h2⟩
theorem Latest.put {j:Nat} {x:V} (hj:wr j=some x) (hl: ∀ k,L k->(wr k).isSome->k<=j):Latest (fun k=>L k\/k=j) wr v0 x :=
 .inl ⟨j,x,.inr rfl,hj,rfl,fun k' hk' hw=>hk'.elim (fun h=>hl k' h hw) fun e=>by omega⟩
theorem Latest.uniq (h:Latest L wr v0 v) (h':Latest L' wr v0 v') (he: ∀ k,(wr k).isSome->(L k ↔ L' k)):v=v':=by
 rcases h with ⟨k,x,h1,h2,h3,h4⟩ | ⟨h1,h2⟩ <;> rcases h' with ⟨k',x',q1,q2,q3,q4⟩ | ⟨q1,q2⟩
 ·have e1:k<=k':=q4 k ((he k (by rw[h2]; rfl)).1 h1) (by rw[h2]; rfl)
  have e2:k'<=k:=h4 k' ((he k' (by rw[q2]; rfl)).2 q1) (by rw[q2]; rfl)
  have:k=k':=by omega
  subst this
  rw[h2] at q2
  rw[h3,q3]; exact Option.some.inj q2
 ·have:=q1 k ((he k (by rw[h2]; rfl)).1 h1)
  rw[h2] at this; cases this
 ·have:=h1 k' ((he k' (by rw[q2]; rfl)).2 q1)
  rw[q2] at this; cases this
 ·rw[h2,q2]
theorem Latest.congr (h:Latest L wr v0 v) (he: ∀ k,L k ↔ L' k):Latest L' wr v0 v:=by
 rcases h with ⟨k,x,h1,h2,h3,h4⟩ | ⟨h1,h2⟩
 ·exact .inl ⟨k,x,(he k).1 h1,h2,h3,fun k' hk'=>h4 k' ((he k').2 hk')⟩
 ·exact .inr ⟨fun k hk=>h1 k ((he k).2 hk),h2⟩
end latest
def twr (e:Eff) (t:Nat):Option (Option D):=match e.tm with
 | some (t',d)=>if t=t' then some (some d) else none
 | none=>none
theorem ZjP (s:St) (e:Eff) (t:Nat):lk (s.app e).tm t=(twr e t).getD (lk s.tm t):=by
 simp only[St.app,twr]
 cases e.tm with
 | none=>rfl
 | some p =>
  obtain⟨t',d⟩:=p
  simp only[lk]
  split
  ·rfl
  ·rename_i hi; rw[ZE,if_neg hi]; rfl
theorem ZjQ (s:St) (e:Eff) (i:Nat):lk (s.app e).ob i=(lk e.ob i).getD (lk s.ob i):=by
 simp only[St.app]
 rw[Z4f]
 cases lk e.ob i <;> rfl
theorem Z15 {α:Type} {p:Nat × α->Bool} (id:Nat): ∀ {l:List (Nat × α)},l.all p=true->(Za id l).all p=true
 | [],_=>rfl
 | (j,x)::r,h=>by
  simp only[List.all_cons,Bool.and_eq_true] at h
  simp only[Za]
  split
  ·exact Z15 id h.2
  ·simp only[List.all_cons,Bool.and_eq_true]; exact⟨h.1,Z15 id h.2⟩
theorem Z4g {i:Nat}: ∀ {l:List (Nat × Option Ob)} {ob:Obs},(l.any fun p=>match p.2 with | some o=>Ob.men i o | none=>false)=false->(ob.all fun p=> !(Ob.men i p.2))=true->((setO l ob).all fun p=> !(Ob.men i p.2))=true
 | [],ob,_,h=>h
 | (j,none)::r,ob,h1,h2=>by
  simp only[List.any_cons,Bool.false_or] at h1
  exact Z15 j (Z4g h1 h2)
 | (j,some o)::r,ob,h1,h2=>by
  simp only[List.any_cons,Bool.or_eq_false_iff] at h1
  simp only[setO,List.all_cons,Bool.and_eq_true,Bool.not_eq_true']
  exact⟨h1.1,Z15 j (Z4g h1.2 h2)⟩
theorem Zb1 {s:St} {e:Eff} {i:Nat} (h:s.clean i=true) (he:e.men i=false):(s.app e).clean i=true:=by
 simp only[St.clean,Bool.and_eq_true] at h ⊢
 simp only[Eff.men,Bool.or_eq_false_iff] at he
 refine⟨?_,Z4g he.2 h.2⟩
 simp only[St.app]
 cases hq:e.tm with
 | none=>exact h.1
 | some p =>
  obtain⟨t,d⟩:=p
  have:=he.1
  rw[hq] at this
  simp only[List.all_cons,Bool.and_eq_true,Bool.not_eq_true']
  exact⟨this,Z15 t h.1⟩
theorem Env.top_erase (id:Nat): ∀ (l:Env),Env.top (Za id l)<=Env.top l
 | []=>Nat.le_refl _
 | (j,d)::r=>by
  have:=Env.top_erase id r
  simp only[Za]
  split <;> simp only[Env.top] <;> omega
theorem Obs.top_erase (id:Nat): ∀ (l:Obs),Obs.top (Za id l)<=Obs.top l
 | []=>Nat.le_refl _
 | (j,d)::r=>by
  have:=Obs.top_erase id r
  simp only[Za]
  split <;> simp only[Obs.top] <;> omega
theorem Z4e: ∀ (l:List (Nat × Option Ob)) (ob:Obs),Obs.top (setO l ob)<=max (otop l) (Obs.top ob)
 | [],ob=>by simp only[setO,otop]; omega
 | (j,none)::r,ob=>by
  have h1:=Z4e r ob
  have h2:=Obs.top_erase j (setO r ob)
  simp only[setO,otop]; omega
 | (j,some o)::r,ob=>by
  have h1:=Z4e r ob
  have h2:=Obs.top_erase j (setO r ob)
  simp only[setO,otop,Obs.top]; omega
theorem ZgU {s:St} {e:Eff} {q:Nat} (h:s.top<=q) (he:e.top<=q):(s.app e).top<=q:=by
 have h1:Env.top s.tm<=q:=Nat.le_trans (Nat.le_max_left _ _) h
 have h2:Obs.top s.ob<=q:=Nat.le_trans (Nat.le_max_right _ _) h
 have h3:=Z4e e.ob s.ob
 have h4:otop e.ob<=q:=Nat.le_trans (Nat.le_max_right _ _) he
 have h5:(match e.tm with | some (_,d)=>D.top d | none=>0)<=q:=Nat.le_trans (Nat.le_max_left _ _) he
 simp only[St.top,St.app]
 refine Nat.max_le.2 ⟨?_,by omega⟩
 cases hq:e.tm with
 | none=>exact h1
 | some p =>
  obtain⟨t,d⟩:=p
  rw[hq] at h5
  have:=Env.top_erase t s.tm
  simp only[Env.top]
  simp only at h5
  omega
def stAt:List Eff->St->Nat->St
 | _,s,0=>s
 | [],s,_=>s
 | e::es,s,k+1=>stAt es (s.app e) k
theorem Z4Q: ∀ {es:List Eff} {s:St} {k:Nat} {e:Eff},es[k]? = some e->stAt es s (k+1)=(stAt es s k).app e
 | [],_,k,_,h=>by simp at h
 | x::es,s,0,e,h=>by
  simp at h; subst h
  cases es <;> rfl
 | x::es,s,k+1,e,h=>by
  have:=Z4Q (es:=es) (s:=s.app x) (k:=k) (e:=e) (by simpa using h)
  simpa [stAt] using this
theorem Z26 {P:Program} {b:Nat}: ∀ {sops:List SOp} {s:St} {es:List Eff} {s':St},Z5m P b sops s es s'->sops.length=es.length/\s'=stAt es s es.length/\ ∀ k o,sops[k]? = some o-> ∃ e,es[k]? = some e/\Has P b o (stAt es s k) e
 | [],s,[],s',h=>⟨rfl,(show s'=s from h),fun k o hk=>by simp at hk⟩
 | o::r,s,e::es,s',h=>by
  obtain⟨h1,h2⟩:=h
  obtain⟨q1,q2,q3⟩:=Z26 h2
  refine⟨by simp[q1],by simpa [stAt] using q2,fun k o' hk=> ?_⟩
  cases k with
  | zero=>simp at hk; subst hk; exact⟨e,rfl,by simpa [stAt] using h1⟩
  | succ k=>obtain⟨e',r1,r2⟩:=q3 k o' (by simpa using hk); exact⟨e',by simpa using r1,by simpa [stAt] using r2⟩
 | [],_,_::_,_,h=>h.elim
 | _::_,_,[],_,h=>h.elim
theorem Z4P {pre:List Nat} {j:Nat} {o2:SOp}: ∀ {l:List SOp} {i0:Nat},Z93 pre j o2 i0 l=true-> ∀ (k:Nat) (o1:SOp),l[k]? = some o1->Qk pre (i0+k) j=true\/Z17 o1 o2=true
 | [],_,_,k,_,h=>by simp at h
 | o::l,i0,h,k,o1,h1=>by
  simp only[Z93,Bool.and_eq_true,Bool.or_eq_true] at h
  cases k with
  | zero=>simp at h1; subst h1; simpa using h.1
  | succ k =>
   have:=Z4P h.2 k o1 (by simpa using h1)
   rwa [show i0+1+k=i0+(k+1) by omega] at this
theorem Z3z {pre:List Nat} {ops0:List SOp}: ∀ {l:List SOp} {j0:Nat},Z6V pre ops0 j0 l=true-> ∀ (k:Nat) (o2:SOp),l[k]? = some o2->Z93 pre (j0+k) o2 0 (ops0.take (j0+k))=true
 | [],_,_,k,_,h=>by simp at h
 | o::l,j0,h,k,o2,h1=>by
  simp only[Z6V,Bool.and_eq_true] at h
  cases k with
  | zero=>simp at h1; subst h1; simpa using h.1
  | succ k =>
   have:=Z3z h.2 k o2 (by simpa using h1)
   rwa [show j0+1+k=j0+(k+1) by omega] at this
theorem Z2T: ∀ {es:List Eff} {i0 k:Nat} {e:Eff},es[k]? = some e->(e.ob=[]/\e.rd=[])\/(i0+k,e)∈Z60 i0 es
 | [],_,_,_,h=>by simp at h
 | x::es,i0,k,e,h=>by
  cases k with
  | zero =>
   simp at h
   subst h
   simp only[Z60]
   split
   ·rename_i h1 h2; exact .inl ⟨h1,h2⟩
   ·exact .inr (by simp)
  | succ k =>
   have:=Z2T (es:=es) (i0:=i0+1) (k:=k) (e:=e) (by simpa using h)
   rw[show i0+1+k=i0+(k+1) by omega] at this
   rcases this with this | this
   ·exact .inl this
   ·refine .inr ?_
    simp only[Z60]
    split
    ·exact this
    ·exact List.mem_cons_of_mem _ this
theorem Z2x {p:Nat->Eff->Bool}: ∀ {es:List Eff} {i0:Nat},allI p i0 es=true-> ∀ (k:Nat) (e:Eff),es[k]? = some e->p (i0+k) e=true
 | [],_,_,k,_,h=>by simp at h
 | x::es,i0,h,k,e,h1=>by
  simp only[allI,Bool.and_eq_true] at h
  cases k with
  | zero=>simp at h1; subst h1; simpa using h.1
  | succ k =>
   have:=Z2x h.2 k e (by simpa using h1)
   rwa [show i0+1+k=i0+(k+1) by omega] at this
theorem Z2R {b:Nat} {pre:List Nat} {es0:List Eff}: ∀ {l:List SOp} {es:List Eff} {j0:Nat},Z4p b pre es0 j0 l es=true-> ∀ (k:Nat) (o:SOp) (e:Eff),l[k]? = some o->es[k]? = some e →
  (e.ob≠[]-> ∀ t,o.dst=some t-> ∀ (i:Nat) (x:Eff),es0[i]? = some x->i=j0+k\/Qk pre (j0+k) i=true\/x.men (b+t)=false)/\(∀ q,e.cd=some q-> ∀ (i:Nat) (x:Eff),es0[i]? = some x->i=j0+k\/Qk pre (j0+k) i=true\/x.top<=q)
 | [],_,_,_,k,_,_,h,_=>by simp at h
 | _::_,[],_,_,k,_,_,_,h=>by simp at h
 | o'::l,e'::es,j0,h,k,o,e,h1,h2=>by
  simp only[Z4p,Bool.and_eq_true] at h
  cases k with
  | zero =>
   simp at h1 h2
   subst h1
   subst h2
   refine⟨fun hne t ht i x hx=> ?_,fun q hq i x hx=> ?_⟩
   ·have:=h.1.1
    split at this
    ·rename_i hnil; exact absurd hnil hne
    ·rw[ht] at this
     have:=Z2x this i x hx
     simp only[Nat.zero_add,Bool.or_eq_true,beq_iff_eq,Bool.not_eq_true'] at this
     rcases this with (this | this) | this
     ·exact .inl this
     ·exact .inr (.inl this)
     ·exact .inr (.inr this)
   ·have:=h.1.2
    rw[hq] at this
    have:=Z2x this i x hx
    simp only[Nat.zero_add,Bool.or_eq_true,beq_iff_eq,decide_eq_true_eq] at this
    rcases this with (this | this) | this
    ·exact .inl this
    ·exact .inr (.inl this)
    ·exact .inr (.inr this)
  | succ k =>
   have:=Z2R h.2 k o e (by simpa using h1) (by simpa using h2)
   rwa [show j0+1+k=j0+(k+1) by omega] at this
section
variable {b:Nat} {pre:List Nat} {ops:List SOp} {es:List Eff} {s:St}
theorem Z4z (h:dchk b pre ops es s=true) {i j:Nat} {o1 o2:SOp} (hij:i<j) (h1:ops[i]? = some o1) (h2:ops[j]? = some o2) (hb: ¬ Qk pre i j=true):Z17 o1 o2=true:=by
 simp only[dchk,Bool.and_eq_true] at h
 have:=Z3z h.1.1.1 j o2 h2
 rw[Nat.zero_add] at this
 have:=Z4P this i o1 (by rw[List.getElem?_take,if_pos hij]; exact h1)
 rw[Nat.zero_add] at this
 exact this.resolve_left hb
theorem Z4A (h:dchk b pre ops es s=true) {i j:Nat} {e1 e2:Eff} (hij:i<j) (q1:es[i]? = some e1) (q2:es[j]? = some e2) (hb: ¬ Qk pre i j=true) :
  (∀ p∈e1.ob,p.1 ∉ e2.rd/\ ∀ q∈e2.ob,q.1≠p.1)/\ ∀ p∈e2.ob,p.1 ∉ e1.rd:=by
 simp only[dchk,Bool.and_eq_true,List.all_eq_true,Bool.or_eq_true,decide_eq_true_eq] at h
 have hm:=h.1.1.2
 rcases Z2T (i0:=0) q1 with ⟨h1,h2⟩ | h1
 ·rw[h1,h2]; simp
 ·rcases Z2T (i0:=0) q2 with ⟨h3,h4⟩ | h3
  ·rw[h3,h4]; simp
  ·have:=hm _ h3 _ h1
   simp only[Nat.zero_add] at this
   rcases this with (this | this) | this
   ·omega
   ·exact absurd this hb
   ·unfold Z7e at this
    split at this
    ·rename_i h5 h6; rw[h5,h6]; simp
    ·simp only[Bool.and_eq_true,List.all_eq_true,Bool.not_eq_true',List.any_eq_false,beq_iff_eq] at this
     refine⟨fun p hp=>⟨fun hc=> ?_,fun q hq=>(this.1 p hp).2 q hq⟩,fun p hp hc=> ?_⟩
     ·have:=(this.1 p hp).1
      rw[List.contains_iff_mem.2 hc] at this; cases this
     ·have:=this.2 p hp
      rw[List.contains_iff_mem.2 hc] at this; cases this
theorem Z3N (h:dchk b pre ops es s=true) {j:Nat} {o:SOp} {e:Eff} (h1:ops[j]? = some o) (h2:es[j]? = some e) :
  (e.ob≠[]-> ∀ t,o.dst=some t-> ∀ (i:Nat) (x:Eff),es[i]? = some x->i=j\/Qk pre j i=true\/x.men (b+t)=false)/\(∀ q,e.cd=some q-> ∀ (i:Nat) (x:Eff),es[i]? = some x->i=j\/Qk pre j i=true\/x.top<=q):=by
 simp only[dchk,Bool.and_eq_true] at h
 have:=Z2R h.1.2 j o e h1 h2
 simpa using this
theorem Zcy (h:dchk b pre ops es s=true) {e:Eff} (he:e∈es) {q:Nat} (hq:e.cd=some q):s.top<=q:=by
 simp only[dchk,Bool.and_eq_true,List.all_eq_true] at h
 have:=h.2 e he
 rw[hq] at this
 simpa using this
end
end Go.Sx
namespace Go.Sx
open Go.RowKit
variable [Globs] [Codes]
section
variable {P:Program} {F:Fence} {N:Nat} {cx:Cx} {bs:Nat} {ops:Array Oper} {sops:List SOp} {ds:List Deferred} {Q:Exit->St->Prop} {bt fz:Nat->Bool} {pre:List Nat} {es:List Eff} {s0:St}
structure Inv (es:List Eff) (s0:St) (L:Nat->Prop) (s:St):Prop where
 tm: ∀ t,Latest L (fun k=>(es[k]?).bind (twr · t)) (lk s0.tm t) (lk s.tm t)
 ob: ∀ i,Latest L (fun k=>(es[k]?).bind (fun e=>lk e.ob i)) (lk s0.ob i) (lk s.ob i)
 clean: ∀ i,s0.clean i=true->(∀ k e,L k->es[k]? = some e->e.men i=false)->s.clean i=true
 top: ∀ q,s0.top<=q->(∀ k e,L k->es[k]? = some e->e.top<=q)->s.top<=q
theorem Inv.congr {L L':Nat->Prop} {s:St} (h:Inv es s0 L s) (he: ∀ k,L k ↔ L' k):Inv es s0 L' s :=
 ⟨fun t=>(h.tm t).congr he,fun i=>(h.ob i).congr he,fun i h1 h2=>h.clean i h1 fun k e hk=>h2 k e ((he k).1 hk),fun q h1 h2=>h.top q h1 fun k e hk=>h2 k e ((he k).1 hk)⟩
theorem Inv.zero:Inv es s0 (fun _=>False) s0:=⟨fun _=>Latest.none fun _ h=>h,fun _=>Latest.none fun _ h=>h,fun _ h _=>h,fun _ h _=>h⟩
theorem Inv.step {L:Nat->Prop} {s:St} (h:Inv es s0 L s) {k:Nat} {e:Eff} (hk:es[k]? = some e) (ht: ∀ t j e',L j->es[j]? = some e'->(twr e t).isSome->(twr e' t).isSome->j<=k) (ho: ∀ i j e',L j->es[j]? = some e'->(lk e.ob i).isSome->(lk e'.ob i).isSome->j<=k) :
  Inv es s0 (fun j=>L j\/j=k) (s.app e):=by
 refine⟨fun t=> ?_,fun i=> ?_,fun i h1 h2=> ?_,fun q h1 h2=> ?_⟩
 ·rw[ZjP]
  cases hq:twr e t with
  | none=>exact (h.tm t).skip (by simp[hk,hq])
  | some x =>
   refine Latest.put (by simp[hk,hq]) fun j hj hw=> ?_
   cases he:es[j]? with
   | none=>rw[he] at hw; cases hw
   | some e'=>rw[he] at hw; exact ht t j e' hj he (by rw[hq]; rfl) hw
 ·rw[ZjQ]
  cases hq:lk e.ob i with
  | none=>exact (h.ob i).skip (by simp[hk,hq])
  | some x =>
   refine Latest.put (by simp[hk,hq]) fun j hj hw=> ?_
   cases he:es[j]? with
   | none=>rw[he] at hw; cases hw
   | some e'=>rw[he] at hw; exact ho i j e' hj he (by rw[hq]; rfl) hw
 ·exact Zb1 (h.clean i h1 fun j e' hj he=>h2 j e' (.inl hj) he) (h2 k e (.inr rfl) hk)
 ·exact ZgU (h.top q h1 fun j e' hj he=>h2 j e' (.inl hj) he) (h2 k e (.inr rfl) hk)
theorem Inv.at (n:Nat) (hn:n<=es.length):Inv es s0 (· < n) (stAt es s0 n):=by
 induction n with
 | zero =>
  have:stAt es s0 0=s0:=by cases es <;> rfl
  rw[this]
  exact Inv.zero.congr fun k=>by simp
 | succ n ih =>
  have he:es[n]? = some es[n]:=List.getElem?_eq_getElem (by omega)
  rw[Z4Q he]
  exact ((ih (by omega)).step he (fun t j e' hj _ _ _=>Nat.le_of_lt hj) (fun i j e' hj _ _ _=>Nat.le_of_lt hj)).congr fun k=>by show (k<n\/k=n) ↔ k<n+1; omega
theorem Zae {b:Nat} {o:SOp} {s:St} {e:Eff} (h:Has P b o s e) {t:Nat} (ht:(twr e t).isSome):o.dst=some t:=by
 have key: ∀ d:Option Nat,(∃ x,e.tm=d.map (·,x))->d=some t:=fun d ⟨x,hx⟩=>by
  simp only[twr,hx] at ht
  cases d with
  | none=>cases ht
  | some t' =>
   simp only[Option.map_some] at ht
   split at ht
   ·rename_i e; rw[e]
   ·cases ht
 have body:HasB P b o s e->o.dst=some t:=fun hb=>by
  cases o with
  | a dst g op xs =>
   obtain⟨_,_,h3⟩:=hb
   by_cases hx: ∃ x,e.tm=dst.map (·,x)
   ·exact key dst hx
   ·exact (let ⟨d,nb,hk⟩:=ZjC h3; hx ⟨d,hk.1⟩).elim
  | st g sz x y =>
   simp only[HasB] at hb
   split at hb
   ·rw[hb.2] at ht; simp[twr] at ht
   ·exact hb.elim
  | app dst g fz sz et x y =>
   simp only[HasB] at hb
   split at hb
   ·obtain⟨_,hb⟩:=hb
    split at hb
    ·exact key (some dst) ⟨_,by rw[hb.2]; rfl⟩
    ·split at hb
     ·exact key (some dst) ⟨_,by rw[hb.2.2.2]; rfl⟩
     ·exact hb.elim
    ·exact hb.elim
   ·exact hb.elim
  | cd dst g x xs =>
   obtain⟨nm,r,ob',base,_,_,_,_,_,he⟩:=hb
   exact key dst ⟨_,by rw[he]⟩
 have skip:e=⟨[],o.dst.map (·,.nov),[],none⟩->o.dst=some t:=fun he=>key o.dst ⟨_,by rw[he]⟩
 unfold Has at h
 cases hg:o.gd with
 | none=>rw[hg] at h; exact body h
 | some gw =>
  obtain⟨q,w⟩:=gw
  rw[hg] at h
  simp only[gud] at h
  split at h
  ·split at h
   ·exact body h
   ·exact skip h
  ·exact skip h
  ·exact h.elim
theorem Zer {o:SOp} {t:Nat} (h:t∈Z5C o.gd):t∈o.tmps:=by
 cases o <;> simp only[SOp.gd] at h <;> simp only[SOp.tmps,List.mem_append] <;> first | exact .inr h | exact .inl (.inr h)
theorem Has.congr {b:Nat} {o:SOp} {s s':St} {e:Eff} (h:Has P b o s e) (ht: ∀ t∈o.tmps,lk s.tm t=lk s'.tm t) (ho: ∀ i∈e.rd,lk s.ob i=lk s'.ob i):Has P b o s' e :=
 Zag (fun t h=>ht t (Zer h)) (Qq (fun hb=>hb.congr ht ho) id h)
theorem Z78 {H:Nat->SOp->St->Eff->Prop} (hdst: ∀ {k o s e t},H k o s e->(twr e t).isSome->o.dst=some t) (hcong: ∀ {k o s s' e},H k o s e->(∀ t∈o.tmps,lk s.tm t=lk s'.tm t)->(∀ i∈e.rd,lk s.ob i=lk s'.ob i)->H k o s' e)
  (hcan: ∀ k o,sops[k]? = some o-> ∃ e,es[k]? = some e/\H k o (stAt es s0 k) e) (hlen:sops.length=es.length) (hchk:dchk bs pre sops es s0=true) {L:Nat->Prop} {s:St} (hI:Inv es s0 L s) (htop:s0.top<=bs)
  {k:Nat} {o:SOp} (hk:sops[k]? = some o) (hL: ¬ L k) (hlt: ∀ j,L j->j<es.length) (hpre: ∀ i,Qk pre i k=true->L i) (hcl: ∀ j i,L j->Qk pre i j=true->L i) :
  ∃ e,es[k]? = some e/\H k o s e/\(e.ob≠[]-> ∀ t,o.dst=some t->s.clean (bs+t)=true)/\(∀ q,e.cd=some q->s.top<=q)/\Inv es s0 (fun j=>L j\/j=k) (s.app e):=by
 obtain⟨e,he,hh⟩:=hcan k o hk
 have hkl:k<es.length:=(List.getElem?_eq_some_iff.1 he).1
 have hsop: ∀ j e',es[j]? = some e'-> ∃ o',sops[j]? = some o'/\H j o' (stAt es s0 j) e':=fun j e' hj=>by
  have hjl:=(List.getElem?_eq_some_iff.1 hj).1
  have:sops[j]? = some sops[j]:=List.getElem?_eq_getElem (by omega)
  obtain⟨e'',q1,q2⟩:=hcan j _ this
  rw[hj] at q1
  cases q1
  exact⟨_,this,q2⟩
 -- an operation ahead in the text that is not in L,and one behind that is
 have nbe: ∀ j,j<k-> ¬ L j-> ¬ Qk pre j k=true:=fun j _ hnl hb=>hnl (hpre j hb)
 have naf: ∀ j,k<j->L j-> ¬ Qk pre k j=true:=fun j _ hl hb=>hL (hcl j k hl hb)
 have hcat:=Inv.at (es:=es) (s0:=s0) k (by omega)
 have hmem: ∀ {l:List Nat} {t:Nat},l.contains t=false->t ∉ l:=fun h hm=>by rw[List.contains_iff_mem.2 hm] at h; cases h
 have hag: ∀ t∈o.tmps,lk (stAt es s0 k).tm t=lk s.tm t:=fun t ht=>(hcat.tm t).uniq (hI.tm t) fun j hw=>by
  cases hj:es[j]? with
  | none=>rw[hj] at hw; cases hw
  | some e' =>
   rw[hj] at hw
   obtain⟨o',ho',hh'⟩:=hsop j e' hj
   have hd:=hdst hh' (t:=t) hw
   refine⟨fun hjk=> ?_,fun hl=> ?_⟩
   ·apply Classical.byContradiction
    intro hnl
    have:=Z4z hchk hjk ho' hk (nbe j hjk hnl)
    simp only[Z17,hd,Bool.and_eq_true,Bool.not_eq_true'] at this
    exact hmem this.1.1 ht
   ·rcases Nat.lt_trichotomy j k with h | h | h
    ·exact h
    ·subst h; exact absurd hl hL
    ·have:=Z4z hchk h hk ho' (naf j h hl)
     simp only[Z17,hd,Bool.and_eq_true,Bool.not_eq_true'] at this
     exact absurd ht (hmem this.2)
 have hao: ∀ i∈e.rd,lk (stAt es s0 k).ob i=lk s.ob i:=fun i hi=>(hcat.ob i).uniq (hI.ob i) fun j hw=>by
  cases hj:es[j]? with
  | none=>rw[hj] at hw; cases hw
  | some e' =>
   rw[hj] at hw
   obtain⟨x,hx⟩:=Option.isSome_iff_exists.1 hw
   obtain⟨p,hp,hpi⟩:=Z7h hx
   refine⟨fun hjk=> ?_,fun hl=> ?_⟩
   ·apply Classical.byContradiction
    intro hnl
    have:=((Z4A hchk hjk hj he (nbe j hjk hnl)).1 p hp).1
    rw[hpi] at this
    exact this hi
   ·rcases Nat.lt_trichotomy j k with h | h | h
    ·exact h
    ·subst h; exact absurd hl hL
    ·have:=(Z4A hchk h he hj (naf j h hl)).2 p hp
     rw[hpi] at this
     exact absurd hi this
 refine⟨e,he,hcong hh hag hao,fun hne t ht=> ?_,fun q hq=> ?_,hI.step he (fun t j e' hj hej hw hw'=> ?_) (fun i j e' hj hej hw hw'=> ?_)⟩
 ·refine hI.clean _ ?_ fun j e' hj hej=> ?_
  ·simp only[St.clean,Bool.and_eq_true,List.all_eq_true,Bool.not_eq_true']
   refine⟨fun p hp=>D.top_men _ _ ?_,fun p hp=>D.topL_men _ _ ?_⟩
   ·have h1:Env.top s0.tm<=bs+t:=Nat.le_trans (Nat.le_max_left _ _) (Nat.le_trans htop (Nat.le_add_right _ _))
    exact Zaw h1 hp
   ·have h1:Obs.top s0.ob<=bs+t:=Nat.le_trans (Nat.le_max_right _ _) (Nat.le_trans htop (Nat.le_add_right _ _))
    exact Z9P h1 hp
  ·rcases (Z3N hchk hk he).1 hne t ht j e' hej with h | h | h
   ·subst h; exact absurd hj hL
   ·exact absurd (hcl j k hj h) hL
   ·exact h
 ·refine hI.top q (Zcy hchk (List.mem_of_getElem? he) hq) fun j e' hj hej=> ?_
  rcases (Z3N hchk hk he).2 q hq j e' hej with h | h | h
  ·subst h; exact absurd hj hL
  ·exact absurd (hcl j k hj h) hL
  ·exact h
 ·obtain⟨o',ho',hh'⟩:=hsop j e' hej
  apply Classical.byContradiction
  intro hlt'
  have:=Z4z hchk (by omega) hk ho' (naf j (by omega) hj)
  have d1:=hdst hh hw
  have d2:=hdst hh' hw'
  simp[Z17,d1,d2] at this
 ·apply Classical.byContradiction
  intro hlt'
  obtain⟨x,hx⟩:=Option.isSome_iff_exists.1 hw
  obtain⟨y,hy⟩:=Option.isSome_iff_exists.1 hw'
  obtain⟨p,hp,hpi⟩:=Z7h hx
  obtain⟨p',hp',hpi'⟩:=Z7h hy
  exact ((Z4A hchk (by omega) he hej (naf j (by omega) hj)).1 p hp).2 p' hp' (by rw[hpi,hpi'])
theorem Z9O (hcan: ∀ k o,sops[k]? = some o-> ∃ e,es[k]? = some e/\Has P bs o (stAt es s0 k) e) (hlen:sops.length=es.length) (hchk:dchk bs pre sops es s0=true) {L:Nat->Prop} {s:St} (hI:Inv es s0 L s) (htop:s0.top<=bs)
  {k:Nat} {o:SOp} (hk:sops[k]? = some o) (hL: ¬ L k) (hlt: ∀ j,L j->j<es.length) (hpre: ∀ i,Qk pre i k=true->L i) (hcl: ∀ j i,L j->Qk pre i j=true->L i) :
  ∃ e,es[k]? = some e/\Has P bs o s e/\(e.ob≠[]-> ∀ t,o.dst=some t->s.clean (bs+t)=true)/\(∀ q,e.cd=some q->s.top<=q)/\Inv es s0 (fun j=>L j\/j=k) (s.app e) :=
 Z78 (H:=fun _ o s e=>Has P bs o s e) (fun h ht=>Zae h ht) (fun h=>h.congr) hcan hlen hchk hI htop hk hL hlt hpre hcl
theorem Zcx (hF:Fence.Open F) (hbs:cx.bs<=bs) (hgl:GlobC cx.φ0 cx.w0 cx.Z) (hl:ops.toList.mapM (fun o=>QZ P bt (fz (o.dst.getD 0)) ops o)=some sops) (hd:QR cx.N ops=true)
  (hlow: ∀ i o,ops[i]? = some o-> ∀ e∈o.after,Region.binds .any e=true->e.on<i) (hwt:Z6q pre ops)
  (hcan: ∀ k o,sops[k]? = some o-> ∃ e,es[k]? = some e/\Has P bs o (stAt es s0 k) e) (hlen:sops.length=es.length) (hchk:dchk bs pre sops es s0=true) (htop:s0.top<=bs) (hK:Q .normal (stAt es s0 es.length)) :
  ∀ (fuel:Nat) (listed:Array Bool) (s:St) (φ:Mem) (h:Nat->Value) (tmps:Array Value) (w:World),listed.size=ops.size->Closed ops listed →
   Inv es s0 (fun k=>listed.getD k false=true) s->(un ops listed).length<=fuel->Mod cx s φ h tmps w->wpAnyIn F N P .any ops (PostM cx ds Q) fuel listed ⟨tmps,ds⟩ w:=by
 have hlo:sops.length=ops.size:=by have:=Z1f hl; simpa using this
 -- all are done
 have last: ∀ (listed:Array Bool) (s:St) (φ:Mem) (h:Nat->Value) (tmps:Array Value) (w:World),listed.size=ops.size->(∀ k,k<ops.size->listed.getD k false=true)->Inv es s0 (fun k=>listed.getD k false=true) s->Mod cx s φ h tmps w->PostM cx ds Q .normal ⟨tmps,ds⟩ w:=by
  intro listed s φ h tmps w hsz hall hI hm
  have hat:=Inv.at (es:=es) (s0:=s0) es.length (Nat.le_refl _)
  have hiff: ∀ k,k<es.length ↔ listed.getD k false=true:=fun k=>by
   refine⟨fun hk=>hall k (by omega),fun hk=> ?_⟩
   apply Classical.byContradiction
   intro hn
   have:listed.getD k false=false:=by simp[Array.getD,show ¬ k<listed.size by omega]
   rw[this] at hk; cases hk
  refine PostM.of hK (hm.weaken (fun t d hd=> ?_) fun i o ho=> ?_)
  ·rw[<- hd]; exact (hI.tm t).uniq (hat.tm t) fun k _=>(hiff k).symm
  ·rw[<- ho]; exact (hI.ob i).uniq (hat.ob i) fun k _=>(hiff k).symm
 have hnone: ∀ listed:Array Bool,listed.size=ops.size->un ops listed=[]-> ∀ k,k<ops.size->listed.getD k false=true:=fun listed hsz hun k hk=>by
  cases hq:listed.getD k false with
  | true=>rfl
  | false =>
   have:k∈un ops listed:=List.mem_filter.2 ⟨List.mem_range.2 hk,by rw[QJ (by omega),hq]; rfl⟩
   rw[hun] at this; cases this
 intro fuel
 induction fuel with
 | zero =>
  intro listed s φ h tmps w hsz hcl hI hun hm
  have hunil:un ops listed=[]:=List.eq_nil_of_length_eq_zero (by omega)
  refine⟨?_,last listed s φ h tmps w hsz (hnone listed hsz hunil) hI hm⟩
  cases hq:Region.ready .any ops listed with
  | nil=>rfl
  | cons x xs =>
   have:=Z1I (ops:=ops) (listed:=listed) (i:=x) (by rw[hq]; simp)
   rw[hunil] at this; cases this
 | succ fuel ih =>
  intro listed s φ h tmps w hsz hcl hI hun hm
  refine⟨fun hrn=> ?_,fun i hi=> ?_⟩
  ·-- nothing is ready: all are done
   refine last listed s φ h tmps w hsz (fun k hk=> ?_) hI hm
   cases hq:listed.getD k false with
   | true=>rfl
   | false =>
    exfalso
    have: ∃ k,k<ops.size/\listed.getD k false=false/\ ∀ j,j<k->listed.getD j false=true:=by
     induction k using Nat.strongRecOn with
     | _ k ihk =>
      by_cases hj: ∃ j,j<k/\listed.getD j false=false
      ·obtain⟨j,hjk,hjq⟩:=hj
       exact ihk j hjk (by omega) hjq
      ·refine⟨k,hk,hq,fun j hjk=> ?_⟩
       cases hq':listed.getD j false with
       | true=>rfl
       | false=>exact absurd ⟨j,hjk,hq'⟩ hj
    obtain⟨k0,h1,h2,h3⟩:=this
    have hr:k0∈Region.ready .any ops listed:=mem_ready.2 ⟨by rw[QJ (by omega)]; exact h2,ops[k0],Array.getElem?_eq_getElem h1,fun e he hb=>h3 _ (hlow k0 ops[k0] (Array.getElem?_eq_getElem h1) e he hb)⟩
    rw[hrn] at hr; cases hr
  ·obtain⟨h1,o,ho,hrd⟩:=mem_ready.1 hi
   have hilt:=(Array.getElem?_eq_some_iff.1 ho).1
   rw[QJ (by omega)] at h1
   obtain⟨so,hcs,hso⟩:=Z1M hl i o (by simpa using ho)
   obtain⟨e,he,hh,hclean,hcd,hI'⟩:=Z9O hcan hlen hchk hI htop hso (by simp only[h1]; simp)
    (fun j hj=>by
     apply Classical.byContradiction
     intro hn
     have:listed.getD j false=false:=by simp[Array.getD,show ¬ j<listed.size by omega]
     rw[this] at hj; cases hj)
    (fun j hb=>Qp hwt hcl i j (fun o' ho'=>by rw[ho] at ho'; cases ho'; exact hrd) hb)
    (fun j q hj hb=>Qp hwt hcl j q (fun o' ho'=>hcl j o' ho' hj) hb)
   have hst:=Z1V hh hclean hcd
   have hs:=Qz (ds:=ds) (n:=N) (Q:=PostM cx ds Q) hF hbs hgl hcs (Qd hd o (by simpa using Array.mem_of_getElem? ho)) hm hst
   have hnext: ∀ a w',Z0E cx ds (fun s1=>Alike s1 (s.app e)) a w'->wpAnyIn F N P .any ops (PostM cx ds Q) fuel (listed.setIfInBounds i true) a w':=by
    rintro⟨tm,df⟩ w' ⟨hdf,s1,φ',h',hal,hm'⟩
    cases hdf
    refine ih _ (s.app e) φ' h' tm w' (by simpa using hsz) (hcl.set (by omega) fun o' ho'=>by rw[ho] at ho'; cases ho'; exact hrd) (hI'.congr fun k=>(Z0z (by omega)).symm) (by have:=Z8T hsz (Z1I hi); omega) (hm'.weaken (fun t d hd=>by rw[hal.1 t]; exact hd) fun i o ho=>by rw[hal.2 i]; exact ho)
   unfold wpOpIn
   simp only[ho]
   split at hs
   ·rename_i hw
    rw[if_pos hw]
    exact Oper.wpIn_mono hnext hs
   ·rename_i hw
    rw[if_neg hw]
    exact⟨hs.1,hnext _ _ hs.2⟩
theorem HasPn.congr {b:Nat} {o:SOp} {s s':St} {v:Value} {e:Eff} (h:HasPn P b o s v e) (ht: ∀ t∈o.tmps,lk s.tm t=lk s'.tm t) (ho: ∀ i∈e.rd,lk s.ob i=lk s'.ob i):HasPn P b o s' v e:=by
 cases o with
 | cd dst g x xs =>
  cases g with
  | some _=>exact h.elim
  | none =>
   obtain⟨nm,base,h1,h2,h3,h4,h5⟩:=h
   have hx:=Qu (s:=s) (s':=s') (x:=x) fun t h=>ht t (by simp only[SOp.tmps,List.mem_append]; exact .inl (ZW.2 (.inl h)))
   have hxs: ∀ x∈xs,s.get x=s'.get x:=fun y hy=>Qu fun t h=>ht t (by simp only[SOp.tmps,List.mem_append]; exact .inl (ZW.2 (.inr (Z4K hy h))))
   have hrd: ∀ i,i∈nm\/i∈vids (xs.map s.get)->lk s.ob i=lk s'.ob i:=fun i hi=>ho i (by rw[h5]; exact List.mem_append.2 hi)
   have e1:xs.map s.get=xs.map s'.get:=List.map_congr_left hxs
   have e2:(xs.map fun y=>dva (s.get x) (lk s.ob) (s.get y))=xs.map fun y=>dva (s.get x) (lk s'.ob) (s'.get y):=List.map_congr_left fun y hy=>by
    rw[<- hxs y hy]; exact Z5e fun i hi=>hrd i (.inr (Z6G hy hi))
   refine⟨nm,base,h1,fun i hi=>by rw[<- hrd i (.inl hi)]; exact h2 i hi,h3, ?_,by rw[h5,e1]⟩
   rw[<- hx,<- e2,<- Z1v (ob:=s.ob) fun i hi=>hrd i (.inl hi)]
   exact h4
 | _=>exact h.elim
theorem HasC.congr {b:Nat} {o:SOp} {s s':St} {q:Eff × Option (Nat × Nat × D)} (h:HasC P b o s q) (ht: ∀ t∈o.tmps,lk s.tm t=lk s'.tm t) (ho: ∀ i∈q.1.rd,lk s.ob i=lk s'.ob i):HasC P b o s' q:=by
 obtain⟨e,c⟩:=q
 cases c with
 | none=>exact Has.congr h ht ho
 | some c =>
  obtain⟨id,off,m⟩:=c
  simp only[HasC] at h ⊢
  split at h
  ·rename_i t x
   refine⟨?_,h.2⟩
   rw[<- h.1]
   cases x with
   | t n=>simp only[St.get]; rw[ht n (by simp[SOp.tmps,Z0N])]
   | c d=>rfl
  ·exact h.elim
theorem HasC.dst {b:Nat} {o:SOp} {s:St} {q:Eff × Option (Nat × Nat × D)} (h:HasC P b o s q) {t:Nat} (ht:(twr q.1 t).isSome):o.dst=some t:=by
 obtain⟨e,c⟩:=q
 cases c with
 | none=>exact Zae h ht
 | some c =>
  obtain⟨id,off,m⟩:=c
  simp only[HasC] at h
  split at h
  ·obtain⟨_,rfl⟩:=h
   simp only[twr] at ht
   split at ht
   ·rename_i e; rw[e]; rfl
   ·cases ht
  ·exact h.elim
theorem HasO.dst {b k:Nat} {pan:Option (Nat × Value)} {o:SOp} {s:St} {q:Eff × Option (Nat × Nat × D)} (h:HasO P b pre pan k o s q) {t:Nat} (ht:(twr q.1 t).isSome):o.dst=some t:=by
 unfold HasO at h
 split at h
 ·exact h.dst ht
 ·split at h
  ·unfold HasPn at h
   split at h
   ·obtain⟨nm,base,_,_,_,_,he⟩:=h
    rw[he] at ht; cases ht
   ·exact h.elim
  ·split at h
   ·rw[h] at ht; cases ht
   ·exact h.dst ht
theorem HasO.congr {b k:Nat} {pan:Option (Nat × Value)} {o:SOp} {s s':St} {q:Eff × Option (Nat × Nat × D)} (h:HasO P b pre pan k o s q) (ht: ∀ t∈o.tmps,lk s.tm t=lk s'.tm t) (ho: ∀ i∈q.1.rd,lk s.ob i=lk s'.ob i):HasO P b pre pan k o s' q:=by
 unfold HasO at h ⊢
 split at h
 ·exact h.congr ht ho
 ·split at h
  ·rename_i hk; rw[if_pos hk]; exact h.congr ht ho
  ·rename_i hk
   rw[if_neg hk]
   split at h
   ·rename_i hb; rw[if_pos hb]; exact h
   ·rename_i hb; rw[if_neg hb]; exact h.congr ht ho
theorem Z3c {b:Nat} {pan:Option (Nat × Value)}: ∀ {sops:List SOp} {k0:Nat} {s:St} {qs:List (Eff × Option (Nat × Nat × D))} {s':St},Z3k P b pre pan k0 sops s qs s'->sops.length=qs.length/\s'=stAt (qs.map (·.1)) s qs.length ∧
  ∀ k o,sops[k]? = some o-> ∃ q,qs[k]? = some q/\HasO P b pre pan (k0+k) o (stAt (qs.map (·.1)) s k) q
 | [],_,s,[],s',h=>⟨rfl,(show s'=s from h),fun k o hk=>by simp at hk⟩
 | o::r,k0,s,q::qs,s',h=>by
  obtain⟨h1,h2⟩:=h
  obtain⟨q1,q2,q3⟩:=Z3c h2
  refine⟨by simp[q1],by simpa [stAt] using q2,fun k o' hk=> ?_⟩
  cases k with
  | zero=>simp at hk; subst hk; exact⟨q,rfl,by simpa [stAt] using h1⟩
  | succ k =>
   obtain⟨e',r1,r2⟩:=q3 k o' (by simpa using hk)
   refine⟨e',by simpa using r1, ?_⟩
   rw[show k0+(k+1)=k0+1+k by omega]
   simpa [stAt] using r2
 | [],_,_,_::_,_,h=>h.elim
 | _::_,_,_,[],_,h=>h.elim
theorem Z0D {w:Bool} {es0:List Eff}: ∀ {qs:List (Eff × Option (Nat × Nat × D))} {k0:Nat},ZV w pre s0 es0 k0 qs=true-> ∀ (k:Nat) (e:Eff) (id off:Nat) (m:D),numD m=w->qs[k]? = some (e,some (id,off,m)) →
  Z0i m off (lk s0.ob id)=true/\allI (fun j e=>j == (k0+k) || Qk pre (k0+k) j || (match lk e.ob id with | none=>true | some x=>Z0i m off x)) 0 es0=true
 | [],_,_,k,_,_,_,_,_,h=>by simp at h
 | (e0,none)::r,k0,h,k,e,id,off,m,hm,hk=>by
  simp only[ZV] at h
  cases k with
  | zero=>simp at hk
  | succ k =>
   have:=Z0D h k e id off m hm (by simpa using hk)
   rwa [show k0+1+k=k0+(k+1) by omega] at this
 | (e0,some (id0,off0,m0))::r,k0,h,k,e,id,off,m,hm,hk=>by
  simp only[ZV] at h
  cases k with
  | zero =>
   simp at hk
   obtain⟨_,rfl,rfl,rfl⟩:=hk
   simp only[hm,beq_self_eq_true,Bool.and_eq_true] at h
   exact h.1
  | succ k =>
   have h2:ZV w pre s0 es0 (k0+1) r=true:=by
    split at h
    ·simp only[Bool.and_eq_true] at h; exact h.2
    ·exact h
   have:=Z0D h2 k e id off m hm (by simpa using hk)
   rwa [show k0+1+k=k0+(k+1) by omega] at this
theorem Z66 {d:D} {o:Option D} (h:Z58 d o=true):o=some d:=by
 unfold Z58 at h
 split at h
 ·split at h
  ·simp at h; rw[h]
  ·simp at h; rw[h.1,h.2]
  ·cases h
 ·cases h
theorem Z57 {d:D} {off:Nat} {o:Option Ob} (h:Z0i d off o=true): ∃ cs,o=some (.cells cs)/\cs[off]? = some d:=by
 unfold Z0i at h
 split at h
 ·rename_i cs; exact⟨cs,rfl,Z66 h⟩
 ·cases h
theorem Z67 {d:D} {off:Nat} {o:Option Ob} (h:Z0i d off o=true):(∃ m,d= .vec m)\/ ∃ k n,d= .int k n:=by
 unfold Z0i Z58 at h
 split at h
 ·split at h
  ·split at h
   ·exact .inl ⟨_,rfl⟩
   ·exact .inr ⟨_,_,rfl⟩
   ·cases h
  ·cases h
 ·cases h
theorem ZaB (hF:Fence.Open F) (hbs:cx.bs<=bs) (hgl:GlobC cx.φ0 cx.w0 cx.Z) (hl:ops.toList.mapM (fun o=>QZ P bt (fz (o.dst.getD 0)) ops o)=some sops) (hd:QR cx.N ops=true)
  (hlow: ∀ i o,ops[i]? = some o-> ∀ e∈o.after,Region.binds .any e=true->e.on<i) (hwt:Z6q pre ops) {pan:Option (Nat × Value)} {qs:List (Eff × Option (Nat × Nat × D))} (hes:es=qs.map (·.1))
  (hcan: ∀ k o,sops[k]? = some o-> ∃ q,qs[k]? = some q/\HasO P bs pre pan k o (stAt es s0 k) q) (hlen:sops.length=es.length) (hchk:dchk bs pre sops es s0=true) (hcell:ZV false pre s0 es 0 qs=true) (hcelI:ZV true pre s0 es 0 qs=true) (htop:s0.top<=bs)
  (hK:match pan with | none=>Q .normal (stAt es s0 es.length) | some (c,v)=>c<ops.size/\Q (pnc v) ⟨[],[]⟩) :
  ∀ (fuel:Nat) (listed:Array Bool) (s:St) (φ:Mem) (h:Nat->Value) (tmps:Array Value) (w:World),listed.size=ops.size->Closed ops listed->(∀ c v,pan=some (c,v)-> ∀ k,listed.getD k false=true->k≠c/\Qk pre c k=false) →
   Inv es s0 (fun k=>listed.getD k false=true) s->(un ops listed).length<=fuel->Mod cx s φ h tmps w->wpAnyIn F N P .any ops (PostM cx ds Q) fuel listed ⟨tmps,ds⟩ w:=by
 have hlo:sops.length=ops.size:=by have:=Z1f hl; simpa using this
 -- all are done
 have last: ∀ (listed:Array Bool) (s:St) (φ:Mem) (h:Nat->Value) (tmps:Array Value) (w:World),listed.size=ops.size->(∀ c v,pan=some (c,v)-> ∀ k,listed.getD k false=true->k≠c/\Qk pre c k=false)->(∀ k,k<ops.size->listed.getD k false=true)->Inv es s0 (fun k=>listed.getD k false=true) s->Mod cx s φ h tmps w->PostM cx ds Q .normal ⟨tmps,ds⟩ w:=by
  intro listed s φ h tmps w hsz hcut hall hI hm
  cases pan with
  | some cv =>
   obtain⟨c,v⟩:=cv
   exact absurd rfl (hcut c v rfl c (hall c hK.1)).1
  | none =>
  have hat:=Inv.at (es:=es) (s0:=s0) es.length (Nat.le_refl _)
  have hiff: ∀ k,k<es.length ↔ listed.getD k false=true:=fun k=>by
   refine⟨fun hk=>hall k (by omega),fun hk=> ?_⟩
   apply Classical.byContradiction
   intro hn
   have:listed.getD k false=false:=by simp[Array.getD,show ¬ k<listed.size by omega]
   rw[this] at hk; cases hk
  refine PostM.of hK (hm.weaken (fun t d hd=> ?_) fun i o ho=> ?_)
  ·rw[<- hd]; exact (hI.tm t).uniq (hat.tm t) fun k _=>(hiff k).symm
  ·rw[<- ho]; exact (hI.ob i).uniq (hat.ob i) fun k _=>(hiff k).symm
 have hnone: ∀ listed:Array Bool,listed.size=ops.size->un ops listed=[]-> ∀ k,k<ops.size->listed.getD k false=true:=fun listed hsz hun k hk=>by
  cases hq:listed.getD k false with
  | true=>rfl
  | false =>
   have:k∈un ops listed:=List.mem_filter.2 ⟨List.mem_range.2 hk,by rw[QJ (by omega),hq]; rfl⟩
   rw[hun] at this; cases this
 intro fuel
 induction fuel with
 | zero =>
  intro listed s φ h tmps w hsz hcl hcut hI hun hm
  have hunil:un ops listed=[]:=List.eq_nil_of_length_eq_zero (by omega)
  refine⟨?_,last listed s φ h tmps w hsz hcut (hnone listed hsz hunil) hI hm⟩
  cases hq:Region.ready .any ops listed with
  | nil=>rfl
  | cons x xs =>
   have:=Z1I (ops:=ops) (listed:=listed) (i:=x) (by rw[hq]; simp)
   rw[hunil] at this; cases this
 | succ fuel ih =>
  intro listed s φ h tmps w hsz hcl hcut hI hun hm
  refine⟨fun hrn=> ?_,fun i hi=> ?_⟩
  ·-- nothing is ready: all are done
   refine last listed s φ h tmps w hsz hcut (fun k hk=> ?_) hI hm
   cases hq:listed.getD k false with
   | true=>rfl
   | false =>
    exfalso
    have: ∃ k,k<ops.size/\listed.getD k false=false/\ ∀ j,j<k->listed.getD j false=true:=by
     induction k using Nat.strongRecOn with
     | _ k ihk =>
      by_cases hj: ∃ j,j<k/\listed.getD j false=false
      ·obtain⟨j,hjk,hjq⟩:=hj
       exact ihk j hjk (by omega) hjq
      ·refine⟨k,hk,hq,fun j hjk=> ?_⟩
       cases hq':listed.getD j false with
       | true=>rfl
       | false=>exact absurd ⟨j,hjk,hq'⟩ hj
    obtain⟨k0,h1,h2,h3⟩:=this
    have hr:k0∈Region.ready .any ops listed:=mem_ready.2 ⟨by rw[QJ (by omega)]; exact h2,ops[k0],Array.getElem?_eq_getElem h1,fun e he hb=>h3 _ (hlow k0 ops[k0] (Array.getElem?_eq_getElem h1) e he hb)⟩
    rw[hrn] at hr; cases hr
  ·obtain⟨h1,o,ho,hrd⟩:=mem_ready.1 hi
   have hilt:=(Array.getElem?_eq_some_iff.1 ho).1
   rw[QJ (by omega)] at h1
   obtain⟨so,hcs,hso⟩:=Z1M hl i o (by simpa using ho)
   have hwait: ∀ j,Qk pre j i=true->listed.getD j false=true:=fun j hb=>Qp hwt hcl i j (fun o' ho'=>by rw[ho] at ho'; cases ho'; exact hrd) hb
   have hltL: ∀ j,listed.getD j false=true->j<es.length:=fun j hj=>by
    apply Classical.byContradiction
    intro hn
    have:listed.getD j false=false:=by simp[Array.getD,show ¬ j<listed.size by omega]
    rw[this] at hj; cases hj
   have hclL: ∀ j q,listed.getD j false=true->Qk pre q j=true->listed.getD q false=true:=fun j q hj hb=>Qp hwt hcl j q (fun o' ho'=>hcl j o' ho' hj) hb
   obtain⟨e,he,⟨q,hq,hqe,hh⟩,hclean,hcd,hI'⟩:=Z78 (H:=fun k o s e=> ∃ q,qs[k]? = some q/\q.1=e/\HasO P bs pre pan k o s q)
    (fun ⟨q,_,h2,h3⟩ ht=>h3.dst (by rw[h2]; exact ht)) (fun ⟨q,h1,h2,h3⟩ ht ho=>⟨q,h1,h2,h3.congr ht (by rw[h2]; exact ho)⟩)
    (fun k o hk=>by
     obtain⟨q,h1,h2⟩:=hcan k o hk
     exact⟨q.1,by rw[hes,List.getElem?_map,h1]; rfl,q,h1,rfl,h2⟩) hlen hchk hI htop hso (by simp only[h1]; simp) hltL hwait hclL
   subst hqe
   have hdo:=Qd hd o (by simpa using Array.mem_of_getElem? ho)
   -- it is done,and there is more
   have go:HasC P bs so s q->(∀ c v,pan=some (c,v)->i≠c/\Qk pre c i=false)->wpOpIn F N P ops (PostM cx ds Q) i (wpAnyIn F N P .any ops (PostM cx ds Q) fuel (listed.setIfInBounds i true)) ⟨tmps,ds⟩ w:=fun hc hic=>by
    have hst:stp P bs so s (fun s1=>Alike s1 (s.app q.1)):=by
     obtain⟨e0,cc⟩:=q
     cases cc with
     | none=>exact Z1V hc hclean hcd
     | some cc =>
      obtain⟨id,off,m⟩:=cc
      simp only[HasC] at hc
      split at hc
      ·rename_i t x
       obtain⟨hx,rfl⟩:=hc
       obtain⟨c1,c2⟩:_/\_:=by
        cases hm:numD m with
        | false=>exact Z0D hcell i _ id off m hm hq
        | true=>exact Z0D hcelI i _ id off m hm hq
       have hcv:Z0i m off (lk s.ob id)=true:=by
        rcases hI.ob id with ⟨j,y,hj,hw,hv,_⟩ | ⟨_,hv⟩
        ·rw[hv]
         have hw:(es[j]?).bind (fun e=>lk e.ob id)=some y:=hw
         cases hej:es[j]? with
         | none=>rw[hej] at hw; cases hw
         | some e' =>
          rw[hej] at hw
          have hw:lk e'.ob id=some y:=hw
          have:=Z2x c2 j e' hej
          simp only[Nat.zero_add,Bool.or_eq_true,beq_iff_eq] at this
          rcases this with (h | h) | h
          ·subst h; rw[h1] at hj; cases hj
          ·have:=hclL j i hj h
           rw[h1] at this; cases this
          ·rw[hw] at h; exact h
        ·rw[hv]; exact c1
       obtain⟨cs,hcs1,hcs2⟩:=Z57 hcv
       rcases Z67 hcv with ⟨m',rfl⟩ | ⟨k',n',rfl⟩
       ·simp only[stp,gud,evl,List.map_cons,List.map_nil,hx,hcs1,hcs2,Bool.false_eq_true,if_false]
        exact Alike.of_eq rfl
       ·simp only[stp,gud,evl,List.map_cons,List.map_nil,hx,hcs1,hcs2,Bool.false_eq_true,if_false]
        exact Alike.of_eq rfl
      ·exact hc.elim
    have hs:=Qz (ds:=ds) (n:=N) (Q:=PostM cx ds Q) hF hbs hgl hcs hdo hm hst
    have hnext: ∀ a w',Z0E cx ds (fun s1=>Alike s1 (s.app q.1)) a w'->wpAnyIn F N P .any ops (PostM cx ds Q) fuel (listed.setIfInBounds i true) a w':=by
     rintro⟨tm,df⟩ w' ⟨hdf,s1,φ',h',hal,hm'⟩
     cases hdf
     refine ih _ (s.app q.1) φ' h' tm w' (by simpa using hsz) (hcl.set (by omega) fun o' ho'=>by rw[ho] at ho'; cases ho'; exact hrd) (fun c v hcv k hk=> ?_) (hI'.congr fun k=>(Z0z (by omega)).symm) (by have:=Z8T hsz (Z1I hi); omega) (hm'.weaken (fun t d hd=>by rw[hal.1 t]; exact hd) fun i o ho=>by rw[hal.2 i]; exact ho)
     rcases (Z0z (by omega)).1 hk with hk | rfl
     ·exact hcut c v hcv k hk
     ·exact hic c v hcv
    unfold wpOpIn
    simp only[ho]
    split at hs
    ·rename_i hw
     rw[if_pos hw]
     exact Oper.wpIn_mono hnext hs
    ·rename_i hw
     rw[if_neg hw]
     exact⟨hs.1,hnext _ _ hs.2⟩
   cases pan with
   | none=>exact go hh fun _ _ h=>by cases h
   | some cv =>
    obtain⟨c,v⟩:=cv
    simp only[HasO] at hh
    split at hh
    ·rename_i hic
     -- the one that panics
     subst hic
     have hst:stpX P bs so s (fun _=>False) (fun v' _=>v'=v):=by
      unfold HasPn at hh
      split at hh
      ·rename_i dst x xs
       obtain⟨nm,base,h1',h2',h3',h4',h5'⟩:=hh
       exact⟨nm,_,base,h1',h2',h3',hcd base (by rw[h5']),h4',fun r ob' hr=> .inr ⟨v,hr,rfl⟩⟩
      ·exact hh.elim
     have hs:=Z1s (ds:=ds) (n:=N) (Q:=PostM cx ds Q) hF hbs hgl hcs hdo hm hst (fun v' s' φ' h' w' hk hm'=>by
      subst hk
      exact PostM.of hK.2 (hm'.weaken (fun t d hd=>by cases hd) fun i o ho=>by cases ho))
     have hnext: ∀ a w',Z0E cx ds (fun _=>False) a w'->wpAnyIn F N P .any ops (PostM cx ds Q) fuel (listed.setIfInBounds i true) a w':=by
      rintro⟨tm,df⟩ w' ⟨hdf,s1,φ',h',hk,hm'⟩
      exact hk.elim
     unfold wpOpIn
     simp only[ho]
     split at hs
     ·rename_i hw
      rw[if_pos hw]
      exact Oper.wpIn_mono hnext hs
     ·rename_i hw
      rw[if_neg hw]
      exact⟨hs.1,hnext _ _ hs.2⟩
    ·rename_i hic
     split at hh
     ·rename_i hb
      exact absurd rfl (hcut c v rfl c (hwait c hb)).1
     ·rename_i hb
      refine go hh fun c' v' he=> ?_
      cases he
      exact⟨hic,by simpa using hb⟩
theorem Zaj (hF:Fence.Open F) {b2:Nat} (hbs:cx.bs<=b2) (hgl:GlobC cx.φ0 cx.w0 cx.Z) (hl:ops.toList.mapM (fun o=>QZ P bt (fz (o.dst.getD 0)) ops o)=some sops) (hd:QR cx.N ops=true)
  (hlow: ∀ i o,ops[i]? = some o-> ∀ e∈o.after,Region.binds .any e=true->e.on<i) (hwt:Z6q pre ops) {p:Nat} (hp: ∀ i,p<=i->i<ops.size-> ∀ j,j<i->Qk pre j i=true) :
  ∀ (m j fuel:Nat) (listed:Array Bool) (s:St) (φ:Mem) (h:Nat->Value) (tmps:Array Value) (w:World),ops.size-j=m->p<=j->j<=ops.size->m<=fuel->listed.size=ops.size->Closed ops listed →
   (∀ k,listed.getD k false=true ↔ k<j)->Mod cx s φ h tmps w->Z1U P b2 (sops.drop j) s (Q .normal) (fun v s1=>Q (pnc v) s1)->wpAnyIn F N P .any ops (PostM cx ds Q) fuel listed ⟨tmps,ds⟩ w:=by
 have hlo:sops.length=ops.size:=by have:=Z1f hl; simpa using this
 intro m
 induction m with
 | zero =>
  intro j fuel listed s φ h tmps w hm hpj hj hfu hsz hcl hL hmod hst
  have hje:j=ops.size:=by omega
  rw[List.drop_eq_nil_of_le (by omega)] at hst
  have hready:Region.ready .any ops listed=[]:=by
   refine List.eq_nil_iff_forall_not_mem.2 fun i hi=> ?_
   obtain⟨h1,o,ho,_⟩:=mem_ready.1 hi
   have hil:=(Array.getElem?_eq_some_iff.1 ho).1
   rw[QJ (by omega),(hL i).2 (by omega)] at h1
   cases h1
  cases fuel with
  | zero=>exact⟨hready,PostM.of hst hmod⟩
  | succ fuel =>
   refine⟨fun _=>PostM.of hst hmod,fun i hi=> ?_⟩
   rw[hready] at hi
   cases hi
 | succ m ih =>
  intro j fuel listed s φ h tmps w hm hpj hj hfu hsz hcl hL hmod hst
  have hjl:j<ops.size:=by omega
  obtain⟨fuel,rfl⟩: ∃ f,fuel=f+1:=⟨fuel-1,by omega⟩
  have ho:ops[j]? = some ops[j]:=Array.getElem?_eq_getElem hjl
  have hnl:listed.getD j false=false:=by
   cases hq:listed.getD j false with
   | false=>rfl
   | true=>have:=(hL j).1 hq; omega
  refine⟨fun hr=> ?_,fun i hi=> ?_⟩
  ·exfalso
   have:j∈Region.ready .any ops listed:=mem_ready.2 ⟨by rw[QJ (by omega)]; exact hnl,ops[j],ho,fun e he hb=>(hL _).2 (hlow j ops[j] ho e he hb)⟩
   rw[hr] at this; cases this
  ·obtain⟨h1,o,hoi,hrd⟩:=mem_ready.1 hi
   have hil:=(Array.getElem?_eq_some_iff.1 hoi).1
   rw[QJ (by omega)] at h1
   have hij:i=j:=by
    rcases Nat.lt_trichotomy i j with hlt | he | hgt
    ·rw[(hL i).2 hlt] at h1; cases h1
    ·exact he
    ·have:=Qp hwt hcl i j (fun o' ho'=>by rw[hoi] at ho'; cases ho'; exact hrd) (hp i (by omega) hil j hgt)
     rw[hnl] at this; cases this
   subst hij
   obtain⟨so,hcs,hso⟩:=Z1M hl i o (by simpa using hoi)
   have hdrop:sops.drop i=so::sops.drop (i+1):=by
    rw[List.drop_eq_getElem_cons (by omega)]
    have:sops[i]? = some sops[i]:=List.getElem?_eq_getElem (by omega)
    rw[this] at hso
    cases hso
    rfl
   rw[hdrop] at hst
   have hs:=Z1s (ds:=ds) (n:=N) (Q:=PostM cx ds Q) hF hbs hgl hcs (Qd hd o (by simpa using Array.mem_of_getElem? hoi)) hmod hst (fun v s' φ' h' w' hk hm'=>PostM.of hk hm')
   have hnext: ∀ a w',Z0E cx ds (fun s1=>Z1U P b2 (sops.drop (i+1)) s1 (Q .normal) (fun v s1=>Q (pnc v) s1)) a w'->wpAnyIn F N P .any ops (PostM cx ds Q) fuel (listed.setIfInBounds i true) a w':=by
    rintro⟨tm,df⟩ w' ⟨hdf,s1,φ',h',hk,hm'⟩
    cases hdf
    refine ih (i+1) fuel _ s1 φ' h' tm w' (by omega) (by omega) (by omega) (by omega) (by simpa using hsz) (hcl.set (by omega) fun o' ho'=>by rw[hoi] at ho'; cases ho'; exact hrd) (fun k=> ?_) hm' hk
    rw[Z0z (by omega),hL k]
    omega
   unfold wpOpIn
   simp only[hoi]
   split at hs
   ·rename_i hw
    rw[if_pos hw]
    exact Oper.wpIn_mono hnext hs
   ·rename_i hw
    rw[if_neg hw]
    exact⟨hs.1,hnext _ _ hs.2⟩
theorem ZaA (hF:Fence.Open F) {b2:Nat} (hbs:cx.bs<=bs) (hb2:cx.bs<=b2) (hgl:GlobC cx.φ0 cx.w0 cx.Z) (hl:ops.toList.mapM (fun o=>QZ P bt (fz (o.dst.getD 0)) ops o)=some sops) (hd:QR cx.N ops=true)
  (hlow: ∀ i o,ops[i]? = some o-> ∀ e∈o.after,Region.binds .any e=true->e.on<i) (hwt:Z6q pre ops) {p:Nat} (hpl:p<ops.size) (hp: ∀ i,p<=i->i<ops.size-> ∀ j,j<i->Qk pre j i=true)
  (hcan: ∀ k o,(sops.take p)[k]? = some o-> ∃ e,es[k]? = some e/\Has P bs o (stAt es s0 k) e) (hlen:(sops.take p).length=es.length) (hchk:dchk bs pre (sops.take p) es s0=true) (htop:s0.top<=bs)
  (hK:Z1U P b2 (sops.drop p) (stAt es s0 es.length) (Q .normal) (fun v s1=>Q (pnc v) s1)) :
  ∀ (fuel:Nat) (listed:Array Bool) (s:St) (φ:Mem) (h:Nat->Value) (tmps:Array Value) (w:World),listed.size=ops.size->Closed ops listed->(∀ k,listed.getD k false=true->k<p) →
   Inv es s0 (fun k=>listed.getD k false=true) s->(un ops listed).length<=fuel->Mod cx s φ h tmps w->wpAnyIn F N P .any ops (PostM cx ds Q) fuel listed ⟨tmps,ds⟩ w:=by
 have hlo:sops.length=ops.size:=by have:=Z1f hl; simpa using this
 have hel:es.length=p:=by rw[<- hlen,List.length_take]; omega
 intro fuel
 induction fuel with
 | zero =>
  intro listed s φ h tmps w hsz hcl hlt hI hun hm
  exfalso
  have:p∈un ops listed:=List.mem_filter.2 ⟨List.mem_range.2 hpl,by
   rw[QJ (by omega)]
   cases hq:listed.getD p false with
   | false=>rfl
   | true=>have:=hlt p hq; omega⟩
  have:=List.length_pos_of_mem this
  omega
 | succ fuel ih =>
  intro listed s φ h tmps w hsz hcl hlt hI hun hm
  by_cases hall: ∀ k,k<p->listed.getD k false=true
  ·-- all ahead are done
   have hat:=Inv.at (es:=es) (s0:=s0) es.length (Nat.le_refl _)
   have hiff: ∀ k,k<es.length ↔ listed.getD k false=true:=fun k=>⟨fun hk=>hall k (by omega),fun hk=>by have:=hlt k hk; omega⟩
   have hmod:Mod cx (stAt es s0 es.length) φ h tmps w:=hm.weaken (fun t d hd=>by rw[<- hd]; exact (hI.tm t).uniq (hat.tm t) fun k _=>(hiff k).symm) fun i o ho=>by rw[<- ho]; exact (hI.ob i).uniq (hat.ob i) fun k _=>(hiff k).symm
   have hun2:ops.size-p<=(un ops listed).length:=by
    have hnd:(List.range' p (ops.size-p)).Nodup:=List.nodup_range'
    have:=List.Nodup.length_le_of_subset hnd (l₂:=un ops listed) fun i hi=>by
     rw[List.mem_range'_1] at hi
     refine List.mem_filter.2 ⟨List.mem_range.2 (by omega), ?_⟩
     rw[QJ (by omega)]
     cases hq:listed.getD i false with
     | false=>rfl
     | true=>have:=hlt i hq; omega
    simpa using this
   exact Zaj hF hb2 hgl hl hd hlow hwt hp _ p (fuel+1) listed (stAt es s0 es.length) φ h tmps w rfl (Nat.le_refl _) (by omega) (by omega) hsz hcl (fun k=>⟨hlt k,hall k⟩) hmod hK
  ·refine⟨fun hrn=> ?_,fun i hi=> ?_⟩
   ·exfalso
    have: ∃ k,k<p/\listed.getD k false=false/\ ∀ j,j<k->listed.getD j false=true:=by
     have h0: ∃ k,k<p/\listed.getD k false=false:=Classical.byContradiction fun hn=>hall fun k hk=>by
      cases hq:listed.getD k false with
      | true=>rfl
      | false=>exact absurd ⟨k,hk,hq⟩ hn
     obtain⟨k,hk,hq⟩:=h0
     induction k using Nat.strongRecOn with
     | _ k ihk =>
      by_cases hj: ∃ j,j<k/\listed.getD j false=false
      ·obtain⟨j,hjk,hjq⟩:=hj
       exact ihk j hjk (by omega) hjq
      ·refine⟨k,hk,hq,fun j hjk=> ?_⟩
       cases hq':listed.getD j false with
       | true=>rfl
       | false=>exact absurd ⟨j,hjk,hq'⟩ hj
    obtain⟨k0,h1,h2,h3⟩:=this
    have hk0:k0<ops.size:=by omega
    have hr:k0∈Region.ready .any ops listed:=mem_ready.2 ⟨by rw[QJ (by omega)]; exact h2,ops[k0],Array.getElem?_eq_getElem hk0,fun e he hb=>h3 _ (hlow k0 ops[k0] (Array.getElem?_eq_getElem hk0) e he hb)⟩
    rw[hrn] at hr; cases hr
   ·obtain⟨h1,o,ho,hrd⟩:=mem_ready.1 hi
    have hilt:=(Array.getElem?_eq_some_iff.1 ho).1
    rw[QJ (by omega)] at h1
    have hwait:=fun j hb=>Qp hwt hcl i j (fun o' ho'=>by rw[ho] at ho'; cases ho'; exact hrd) hb
    have hip:i<p:=by
     apply Classical.byContradiction
     intro hn
     exact hall fun k hk=>hwait k (hp i (by omega) hilt k (by omega))
    obtain⟨so,hcs,hso⟩:=Z1M hl i o (by simpa using ho)
    have hso':(sops.take p)[i]? = some so:=by rw[List.getElem?_take,if_pos hip]; exact hso
    obtain⟨e,he,hh,hclean,hcd,hI'⟩:=Z9O hcan hlen hchk hI htop hso' (by simp only[h1]; simp) (fun j hj=>by have:=hlt j hj; omega) hwait
     (fun j q hj hb=>Qp hwt hcl j q (fun o' ho'=>hcl j o' ho' hj) hb)
    have hst:=Z1V hh hclean hcd
    have hs:=Qz (ds:=ds) (n:=N) (Q:=PostM cx ds Q) hF hbs hgl hcs (Qd hd o (by simpa using Array.mem_of_getElem? ho)) hm hst
    have hnext: ∀ a w',Z0E cx ds (fun s1=>Alike s1 (s.app e)) a w'->wpAnyIn F N P .any ops (PostM cx ds Q) fuel (listed.setIfInBounds i true) a w':=by
     rintro⟨tm,df⟩ w' ⟨hdf,s1,φ',h',hal,hm'⟩
     cases hdf
     refine ih _ (s.app e) φ' h' tm w' (by simpa using hsz) (hcl.set (by omega) fun o' ho'=>by rw[ho] at ho'; cases ho'; exact hrd) (fun k hk=>by
      rcases (Z0z (by omega)).1 hk with hk | rfl
      ·exact hlt k hk
      ·exact hip) (hI'.congr fun k=>(Z0z (by omega)).symm) (by have:=Z8T hsz (Z1I hi); omega) (hm'.weaken (fun t d hd=>by rw[hal.1 t]; exact hd) fun i o ho=>by rw[hal.2 i]; exact ho)
    unfold wpOpIn
    simp only[ho]
    split at hs
    ·rename_i hw
     rw[if_pos hw]
     exact Oper.wpIn_mono hnext hs
    ·rename_i hw
     rw[if_neg hw]
     exact⟨hs.1,hnext _ _ hs.2⟩
end
theorem Z22 {ops:Array Oper} {pre:List Nat} (hok:Z1O pre ops=true):(∀ i o,ops[i]? = some o-> ∀ e∈o.after,Region.binds .any e=true->e.on<i)/\Z6q pre ops:=by
 simp only[Z1O,Bool.and_eq_true,decide_eq_true_eq,List.all_eq_true,List.mem_range,beq_iff_eq] at hok
 obtain⟨hplen,h2⟩:=hok
 have hlow: ∀ i o,ops[i]? = some o-> ∀ e∈o.after,Region.binds .any e=true->e.on<i:=fun i o ho e he hb=>by
  have:=h2 i (Array.getElem?_eq_some_iff.1 ho).1
  simp only[ho,List.all_eq_true,Bool.and_eq_true,Bool.or_eq_true,Bool.not_eq_true',decide_eq_true_eq] at this
  rcases this.1 e (by simpa using he) with h | h
  ·rw[hb] at h; cases h
  ·exact h
 have hwt:Z6q pre ops:=fun i j hb=>by
  have hj:j<ops.size:=by
   apply Classical.byContradiction
   intro hn
   simp only[Qk,List.getD,List.getElem?_eq_none (show pre.length<=j by omega)] at hb
   simp at hb
  have ho:ops[j]? = some ops[j]:=Array.getElem?_eq_getElem hj
  have:=h2 j hj
  simp only[ho,Bool.and_eq_true,beq_iff_eq] at this
  have hbit:(pre.getD j 0 &&& Z51 pre (ops[j]).after.toList 0).testBit i=true:=by rw[this.2]; exact hb
  rw[Nat.testBit_and,Bool.and_eq_true] at hbit
  rcases Z3F hbit.2 with h | ⟨e,he,hbi,h⟩
  ·simp at h
  ·exact⟨_,ho,e,by simpa using he,hbi,hlow j _ ho e (by simpa using he) hbi,h⟩
 exact⟨hlow,hwt⟩
theorem Zlf {P:Program} (hmix:P.follows .mixedOrders=true):Zkm P:=by
 intro cx F N ds hF bt fz ops Q sops pre id bs hbs hgl hl hd hN hok s φ h tmps w htop hm es s' hcan hchk hK
 obtain⟨hlow,hwt⟩:=Z22 hok
 obtain⟨hlen,rfl,hc⟩:=Z26 hcan
 refine wpIn_region_any hmix ?_
 have hnl: ∀ i,(Array.replicate ops.size false).getD i false=false:=fun i=>by
  by_cases hi:i<ops.size <;> simp[Array.getD,hi]
 refine Zcx hF hbs hgl hl hd hlow hwt hc hlen hchk htop hK ops.size (Array.replicate ops.size false) s φ h tmps _ (by simp) (fun i o ho hi=>by rw[hnl i] at hi; cases hi) (Inv.zero.congr fun k=>by rw[hnl k]; simp) ?_ hm.drew
 unfold un
 exact Nat.le_trans (List.length_filter_le _ _) (by simp)
theorem Zlg {P:Program} (hmix:P.follows .mixedOrders=true):Zkn P:=by
 intro cx F N ds hF bt fz ops Q sops pre id bs p hbs hgl hl hd hN hok hpan s φ h tmps w htop hm es s' b2 hcan hchk hb2 hK
 obtain⟨hlow,hwt⟩:=Z22 hok
 obtain⟨hlen,rfl,hc⟩:=Z26 hcan
 simp only[Zc8,Bool.and_eq_true,decide_eq_true_eq,List.all_eq_true,List.mem_range,Bool.or_eq_true,beq_iff_eq] at hpan
 refine wpIn_region_any hmix ?_
 have hnl: ∀ i,(Array.replicate ops.size false).getD i false=false:=fun i=>by
  by_cases hi:i<ops.size <;> simp[Array.getD,hi]
 refine ZaA hF hbs hb2 hgl hl hd hlow hwt hpan.1 (fun i h1 h2 j hj=> ?_) hc hlen hchk htop hK ops.size (Array.replicate ops.size false) s φ h tmps _ (by simp) (fun i o ho hi=>by rw[hnl i] at hi; cases hi) (fun k hk=>by rw[hnl k] at hk; cases hk) (Inv.zero.congr fun k=>by rw[hnl k]; simp) ?_ hm.drew
 ·rcases hpan.2 i h2 with h | h
  ·omega
  ·simp only[Qk]
   rw[h,Nat.testBit_two_pow_sub_one]
   simpa using hj
 ·unfold un
  exact Nat.le_trans (List.length_filter_le _ _) (by simp)
theorem Zlh {P:Program} (hmix:P.follows .mixedOrders=true):Zko P:=by
 intro cx F N ds hF bt fz ops Q sops pre id bs hbs hgl hl hd hN hok s φ h tmps w htop hm pan qs s' hcan hchk hcell hK
 obtain⟨hlow,hwt⟩:=Z22 hok
 obtain⟨hlen,rfl,hc⟩:=Z3c hcan
 have hlo:sops.length=ops.size:=by have:=Z1f hl; simpa using this
 refine wpIn_region_any hmix ?_
 have hnl: ∀ i,(Array.replicate ops.size false).getD i false=false:=fun i=>by
  by_cases hi:i<ops.size <;> simp[Array.getD,hi]
 refine ZaB (pan:=pan) hF hbs hgl hl hd hlow hwt rfl (fun k o hk=> ?_) (by simpa using hlen) hchk hcell.1 hcell.2 htop ?_ ops.size (Array.replicate ops.size false) s φ h tmps _ (by simp) (fun i o ho hi=>by rw[hnl i] at hi; cases hi) (fun _ _ _ k hk=>by rw[hnl k] at hk; cases hk) (Inv.zero.congr fun k=>by rw[hnl k]; simp) ?_ hm.drew
 ·obtain⟨q,h1,h2⟩:=hc k o hk
  exact⟨q,h1,by simpa using h2⟩
 ·cases pan with
  | none=>simpa using hK
  | some cv=>exact⟨by rw[<- hlo]; exact hK.1,hK.2⟩
 ·unfold un
  exact Nat.le_trans (List.length_filter_le _ _) (by simp)
theorem ZaC {P:Program} (hmix:P.follows .mixedOrders=true):DrawSound P:=⟨Zlf hmix,Zlg hmix,Zlh hmix⟩
end Go.Sx
namespace Go.Sx
open Go.RowKit
variable [Globs] [Codes]
def ZcL (op:BinOp) (k:IntKind) (a b:Int):Option D :=
 match op with
 | .add=>some (.int k (k.wrap (a+b)))
 | .sub=>some (.int k (k.wrap (a-b)))
 | .mul=>some (.int k (k.wrap (a*b)))
 | .quo=>if b=0 then none else some (.int k (k.wrap (a.tdiv b)))
 | .rem=>if b=0 then none else some (.int k (a.tmod b))
 | .eql=>some (.bool (decide (a=b)))
 | .neq=>some (.bool (!decide (a=b)))
 | .lss=>some (.bool (decide (a<b)))
 | .leq=>some (.bool (decide (a<=b)))
 | .gtr=>some (.bool (decide (b<a)))
 | .geq=>some (.bool (decide (b<=a)))
 | .and=>some (.int k (bitI .and k a b))
 | .or=>some (.int k (bitI .or k a b))
 | .xor=>some (.int k (bitI .xor k a b))
 | .andNot=>some (.int k (bitI .andNot k a b))
 | _=>none
def ZcJ (op:BinOp) (a b:List UInt8):Option D :=
 match op with
 | .add=>if a.length+b.length<=4611686018427387904 then some (.str (a++b)) else none
 | .eql=>some (.bool (decide (a=b)))
 | .neq=>some (.bool (!decide (a=b)))
 | .lss=>some (.bool (Op.bytesLess a b))
 | .leq=>some (.bool (Op.bytesLess a b || decide (a=b)))
 | .gtr=>some (.bool (!(Op.bytesLess a b || decide (a=b))))
 | .geq=>some (.bool (!Op.bytesLess a b))
 | _=>none
def isBy:List (List D)->Bool
 | []=>true
 | [.int .u8 n]::r=>decide (0<=n) && decide (n<256) && isBy r
 | _=>false
theorem Z3H: ∀ {es:List (List D)},isBy es=true->es=byC (QC es)
 | [],_=>rfl
 | e::r,h=>by
  unfold isBy at h
  split at h
  ·rename_i heq; cases heq
  ·rename_i n r' heq
   cases heq
   simp only[Bool.and_eq_true,decide_eq_true_eq] at h
   have ih:=Z3H h.2
   have e1:((UInt8.ofNat n.toNat).toNat:Int)=n:=by
    rw[UInt8.toNat_ofNat_of_lt' (by show _<256; omega)]; omega
   simp only[QC,byC,List.map_cons] at ih ⊢
   rw[e1,<- ih]
  ·cases h
def one1 (d:Option D):Option (D × Option Ob):=match d with
 | some d=>some (d,none)
 | none=>none
def ZcF (dst:Nat):D->D × Option Ob
 | .own sz e es=>(.vec dst,some (.arr true sz e es))
 | r=>(r,none)
def evE (fn:FuncId->List D->Option D) (dst:Nat) (o:AOp) (xs:List D) (obs:Nat->Option Ob):Option (D × Option Ob) :=
 match o,xs with
 | .mv,[d]=>some (d,none)
 | .pick,[.bool c,a,b]=>some (if c then a else b,none)
 | .bin op,[.int k a,.int k' b]=>if k=k' then one1 (ZcL op k a b) else none
 | .bin op,[.str a,.str b]=>one1 (ZcJ op a b)
 | .binb .eql,[.bool a,.bool b]=>some (.bool (a == b),none)
 | .binb .neq,[.bool a,.bool b]=>some (.bool (!(a == b)),none)
 | .un .not,[.bool a]=>some (.bool (!a),none)
 | .un .neg,[.int k a]=>some (.int k (k.wrap (0-a)),none)
 | .conv k,[.int _ n]=>some (.int k (k.wrap n),none)
 | .len true,[.str s]=>some (.int .i64 s.length,none)
 | .len false,[.slice es _]=>some (.int .i64 es.length,none)
 | .len false,[.nils]=>some (.int .i64 0,none)
 | .len false,[.vec id]=>match obs id with
  | some (.arr _ _ _ es)=>some (.int .i64 es.length,none)
  | _=>none
 | .box,[d]=>if D.okc d=true then some (.ptr dst 0,some (.cells d.cells)) else none
 | .alloc z,[]=>some (.ptr dst 0,some (.cells z))
 | .build z ps,ds=>match QS obs z ps ds with
  | some cs=>some (.agg cs,none)
  | none=>none
 | .bslice fz sz n e z ps,ds=>match QS obs z ps ds with
  | some cs=>if cs.all D.pur=true then some (.vec dst,some (.arr fz sz e (Z3t sz n cs))) else none
  | none=>none
 | .load agg sz,[.ptr id off]=>match obs id with
  | some (.cells cs)=>match agg with
   | true=>if off+sz<=cs.length then some (.agg (((cs.drop off).take sz).map (dv obs)),none) else none
   | false=>match cs[off]? with
    | some d=>some (d,none)
    | none=>none
  | _=>none
 | .load agg sz,[.fptr cs]=>match agg with
  | true=>if sz<=cs.length then some (.agg (cs.take sz),none) else none
  | false=>match cs with
   | d::_=>some (d,none)
   | []=>none
 | .load agg sz,[.vptr id i j sz']=>match obs id with
  | some (.arr false sz2 _ es)=>if sz2=sz'/\j+sz<=sz' then (match es[i]? with
   | some cs=>(match agg with
    | true=>some (.agg ((cs.drop j).take sz),none)
    | false=>match cs[j]? with
     | some d=>some (d,none)
     | none=>none)
   | none=>none) else none
  | _=>none
 | .faddr off,[.ptr id o]=>some (.ptr id (o+off),none)
 | .faddr off,[.fptr cs]=>some (.fptr (cs.drop off),none)
 | .faddr off,[.vptr id i j sz]=>some (.vptr id i (j+off) sz,none)
 | .field off agg sz,[.agg cs]=>match agg with
  | true=>if off+sz<=cs.length then some (.agg ((cs.drop off).take sz),none) else none
  | false=>match cs[off]? with
   | some d=>some (d,none)
   | none=>none
 | .iaddr sz,[.slice es _,.int _ n]=>if 0<=n/\n<es.length/\(es.getD n.toNat []).length=sz then some (.fptr (es.getD n.toNat []),none) else none
 | .iaddr sz,[.vec id,.int _ n]=>match obs id with
  | some (.arr true _ _ es)=>if 0<=n/\n<es.length/\(es.getD n.toNat []).length=sz then some (.fptr (es.getD n.toNat []),none) else none
  | some (.arr false sz' _ es)=>if sz'=sz/\0<=n/\n<es.length then some (.vptr id n.toNat 0 sz,none) else none
  | _=>none
 | .index,[.str s,.int _ n]=>if 0<=n/\n<s.length then some (.int .u8 (s.getD n.toNat 0).toNat,none) else none
 | .sliceS lo hi,.str s::bs=>match Z0c lo hi s.length bs with
  | some (a,b)=>if 0<=a/\a<=b/\b<=s.length then some (.str ((s.take b.toNat).drop a.toNat),none) else none
  | none=>none
 | .slice sz lo hi,d::bs=>match Z05 obs d with
  | some (es,ext)=>match Z0c lo hi es.length bs with
   | some (a,b)=>if ((es++ext).all fun q=>q.length == sz)=true/\0<=a/\a<=b/\b<=(es++ext).length then some (.slice (((es++ext).take b.toNat).drop a.toNat) ((es++ext).drop b.toNat),none) else none
   | none=>none
  | none=>(match d,bs with
   | .vec id,[.int _ n]=>(match lo,hi with
    | true,false=>(match obs id with
     | some (.arr false sz' _ es)=>if sz'=sz/\es.isEmpty=false/\0<=n/\n<=es.length then some (.vwin id n.toNat sz,none) else none
     | _=>none)
    | _,_=>none)
   | _,_=>none)
 | .extract i,[.tuple ds]=>match ds[i]? with
  | some d=>some (d,none)
  | none=>none
 | .call f,ds=>match fn f (ds.map (dv obs)) with
  | some r=>some (ZcF dst r)
  | none=>none
 | .nilck,[d]=>if D.nn d=true then some (d,none) else none
 | .eqs neg ks,[.agg a,.agg b]=>match ZG ks a b with
  | some r=>some (.bool (match neg with | true=> !r | false=>r),none)
  | none=>none
 | .mks fz sz e z bt,[.int _ n]=>if z.all D.pur=true/\0<=n/\n*bt<=281474976710656/\n<=1073741824 then some (.vec dst,some (.arr fz sz e (List.replicate n.toNat z))) else none
 | .mke fz sz e bt,[.int _ n]=>if 0<=n/\n*bt<=281474976710656/\n<=1073741824 then some (.vec dst,some (.arr fz sz e [])) else none
 | .b2s,[d]=>match Z1Y obs d with
  | some es=>if isBy es=true then some (.str (QC es),none) else none
  | none=>none
 | .nilv fz sz e,[.nils]=>if 0<sz then some (.vec dst,some (.arr fz sz e [])) else none
 | .mkfn f n,ds=>if n<=ds.length then some (.func f (ds.take n) (ds.drop n),none) else none
 | .eqn op kd,[a,b]=>match eqD kd a b with
  | some r=>match op with
   | .eql=>some (.bool r,none)
   | .neq=>some (.bool (!r),none)
   | _=>none
  | none=>none
 | .iaddrA len sz,[.fptr cs,.int _ n]=>if 0<=n/\n<len then some (.fptr (cs.drop (n.toNat*sz)),none) else none
 | .iaddrA len sz,[.ptr id off,.int _ n]=>if 0<=n/\n<len then some (.ptr id (off+n.toNat*sz),none) else none
 | .mm big,.int k a::ds=>match mmI big k a ds with
  | some r=>some (.int k r,none)
  | none=>none
 | .sh left,[.int k a,.int _ b]=>if 0<=b then some (.int k (shI left k a b),none) else none
 | .mkmap,[]=>some (.map dst,some (.gen (.map []) []))
 | .mkmapC,[]=>some (.map dst,some (.gen (.mapC [] []) []))
 | .ext k,xs=>match extD k xs obs with
  | some d=>some (d,none)
  | none=>none
 | .mlook kd z,[.map id,key]=>match obs id with
  | some (.gen (.map ks) ds)=>if isKD kd key=true then (match Z2n key ks ds with
   | some r=>some (r.getD z,none)
   | none=>none) else none
  | _=>none
 | _,_=>none
section
variable {P:Program} {fn:FuncId->List D->Option D} {dst:Nat} {obs:Nat->Option Ob} {K:D->Option Ob->Prop}
theorem Z3f {op:BinOp} {k:IntKind} {a b:Int} {d:D} {K:D->Prop} (h:ZcL op k a b=some d) (hk:K d):binI op k a b K:=by
 cases op <;> simp only[ZcL,Option.some.injEq,reduceCtorEq] at h <;> simp only[binI] <;> first | (subst h; exact hk) | (split at h; cases h; simp only[Option.some.injEq] at h; subst h; exact⟨by assumption,hk⟩)
theorem Z3e {op:BinOp} {a b:List UInt8} {d:D} {K:D->Prop} (h:ZcJ op a b=some d) (hk:K d):binS op a b K:=by
 cases op <;> simp only[ZcJ,Option.some.injEq,reduceCtorEq] at h <;> simp only[binS] <;> first | (subst h; exact hk) | (split at h; simp only[Option.some.injEq] at h; subst h; exact⟨by assumption,hk⟩; cases h)
theorem Z54 {x:Option D} {d:D} {nb:Option Ob} (h:one1 x=some (d,nb)):x=some d/\nb=none:=by
 unfold one1 at h
 split at h
 ·simp only[Option.some.injEq,Prod.mk.injEq] at h; exact⟨by rw[h.1],h.2.symm⟩
 ·cases h
theorem ZgH {d d':D} {nb:Option Ob} (h:evE fn dst .b2s [d'] obs=some (d,nb)) (hk:K d nb):evl P dst .b2s [d'] obs K:=by
 simp only[evE] at h
 simp only[evl]
 cases hq:Z1Y obs d' with
 | none=>rw[hq] at h; cases h
 | some es =>
  rw[hq] at h
  simp only at h ⊢
  split at h
  ·rename_i hb
   simp only[Option.some.injEq,Prod.mk.injEq] at h
   obtain⟨rfl,rfl⟩:=h
   exact⟨Z3H hb,hk⟩
  ·cases h
theorem ZgG {agg:Bool} {sz id i j sz':Nat} {d:D} {nb:Option Ob} (h:evE fn dst (.load agg sz) [.vptr id i j sz'] obs=some (d,nb)) (hk:K d nb):evl P dst (.load agg sz) [.vptr id i j sz'] obs K:=by
 simp only[evE] at h
 simp only[evl]
 cases hq:obs id with
 | none=>rw[hq] at h; cases h
 | some o =>
  rw[hq] at h
  cases o with
  | cells _=>cases h
  | gen _ _=>cases h
  | arr fz sz2 e es =>
   cases fz with
   | true=>cases h
   | false =>
    simp only at h ⊢
    split at h
    ·rename_i hc
     refine⟨hc.1,hc.2, ?_⟩
     cases hi:es[i]? with
     | none=>rw[hi] at h; cases h
     | some cs =>
      rw[hi] at h
      cases agg with
      | true=>simp only[Option.some.injEq,Prod.mk.injEq] at h; obtain⟨rfl,rfl⟩:=h; exact hk
      | false =>
       simp only[Bool.false_eq_true,if_false] at h ⊢
       cases hj:cs[j]? with
       | none=>rw[hj] at h; cases h
       | some d=>rw[hj] at h; simp only[Option.some.injEq,Prod.mk.injEq] at h; obtain⟨rfl,rfl⟩:=h; exact hk
    ·cases h
theorem Zar {kd:Option IntKind} {z key:D} {id:Nat} {d:D} {nb:Option Ob} (h:evE fn dst (.mlook kd z) [.map id,key] obs=some (d,nb)) (hk:K d nb):evl P dst (.mlook kd z) [.map id,key] obs K:=by
 simp only[evE] at h
 simp only[evl]
 cases hq:obs id with
 | none=>rw[hq] at h; cases h
 | some o =>
  rw[hq] at h
  cases o with
  | cells _=>cases h
  | arr _ _ _ _=>cases h
  | gen g ds =>
   cases g with
   | loop=>cases h
   | mapC=>cases h
   | mapB=>cases h
   | mapS=>cases h
   | iter=>cases h
   | map ks =>
    simp only at h ⊢
    split at h
    ·rename_i hc
     refine⟨hc, ?_⟩
     cases hf:Z2n key ks ds with
     | none=>rw[hf] at h; cases h
     | some r=>rw[hf] at h; simp only[Option.some.injEq,Prod.mk.injEq] at h; obtain⟨rfl,rfl⟩:=h; exact hk
    ·cases h
theorem ZjD {sz:Nat} {lo hi:Bool} {d:D} {bs:List D} {r:D} {nb:Option Ob} (h:evE fn dst (.slice sz lo hi) (d::bs) obs=some (r,nb)) (hk:K r nb):evl P dst (.slice sz lo hi) (d::bs) obs K:=by
 simp only[evE] at h
 simp only[evl]
 cases hs:Z05 obs d with
 | some p =>
  obtain⟨es,ext⟩:=p
  rw[hs] at h
  simp only at h ⊢
  cases hb:Z0c lo hi es.length bs with
  | none=>rw[hb] at h; cases h
  | some q =>
   obtain⟨a,b⟩:=q
   rw[hb] at h
   simp only at h ⊢
   split at h
   ·rename_i hc
    simp only[Option.some.injEq,Prod.mk.injEq] at h
    obtain⟨rfl,rfl⟩:=h
    refine⟨?_,hc.2.1,hc.2.2.1,hc.2.2.2,hk⟩
    have:=hc.1
    simp only[List.all_eq_true,beq_iff_eq] at this
    exact this
   ·cases h
 | none =>
  rw[hs] at h
  simp only at h ⊢
  split at h
  ·split at h
   ·split at h
    ·rename_i heq
     simp only[heq]
     split at h
     ·rename_i hc
      simp only[Option.some.injEq,Prod.mk.injEq] at h
      obtain⟨rfl,rfl⟩:=h
      exact⟨hc.1,fun e=>(by rw[e] at hc; simp at hc),hc.2.2.1,hc.2.2.2,hk⟩
     ·cases h
    ·cases h
   ·cases h
  ·cases h
theorem Z0r (hfn: ∀ f az r,fn f az=some r->FnOK P f az r) {op:AOp} {xs:List D} {d:D} {nb:Option Ob} (h:evE fn dst op xs obs=some (d,nb)) (hk:K d nb):evl P dst op xs obs K:=by
 by_cases hb:op= .b2s/\ ∃ d,xs=[d]
 ·obtain⟨rfl,d,rfl⟩:=hb; exact ZgH h hk
 by_cases hl:(∃ a s,op= .load a s)/\ ∃ a b c d,xs=[.vptr a b c d]
 ·obtain⟨⟨_,_,rfl⟩,_,_,_,_,rfl⟩:=hl; exact ZgG h hk
 by_cases hlm:(∃ a s,op= .mlook a s)/\ ∃ a b,xs=[.map a,b]
 ·obtain⟨⟨_,_,rfl⟩,_,_,rfl⟩:=hlm; exact Zar h hk
 by_cases hsl:(∃ sz lo hi,op= .slice sz lo hi)/\ ∃ d bs,xs=d::bs
 ·obtain⟨⟨_,_,_,rfl⟩,_,_,rfl⟩:=hsl; exact ZjD h hk
 unfold evE at h
 split at h
 all_goals try exact absurd ⟨⟨_,_,_,rfl⟩,_,_,rfl⟩ hsl
 all_goals try exact absurd ⟨rfl,_,rfl⟩ hb
 all_goals try exact absurd ⟨⟨_,_,rfl⟩,_,_,_,_,rfl⟩ hl
 all_goals try exact absurd ⟨⟨_,_,rfl⟩,_,_,rfl⟩ hlm
 all_goals clear hb hl hlm
 all_goals try simp only[evl]
 all_goals first
  | (simp only[Option.some.injEq,Prod.mk.injEq] at h; obtain⟨rfl,rfl⟩:=h; exact hk)
  | (cases h; done)
  | (obtain⟨h1,rfl⟩:=Z54 h; exact Z3e h1 hk)
  | (
   split at h
   ·rename_i hc; obtain⟨h1,rfl⟩:=Z54 h; exact⟨hc,Z3f h1 hk⟩
   ·cases h)
  | (
   split at h
   ·rename_i r hr
    refine⟨r,hfn _ _ _ hr, ?_⟩
    simp only[Option.some.injEq] at h
    cases r <;> (simp only[ZcF,Prod.mk.injEq] at h; obtain⟨rfl,rfl⟩:=h; exact hk)
   ·cases h)
  | skip
 all_goals
  repeat' split at h
 all_goals first
  | (cases h; done)
  | skip
 all_goals try (simp only[Option.some.injEq,Prod.mk.injEq] at h; obtain⟨rfl,rfl⟩:=h)
 all_goals first
  | exact hk
  | exact⟨by assumption,hk⟩
  | (simp[*]; done)
  | (rename_i hc; exact⟨hc.1,hc.2,hk⟩)
  | (rename_i hc; exact⟨hc.1,hc.2.1,hc.2.2,hk⟩)
  | (simp only[*]; exact hk)
  | (simp only[*]; exact⟨by assumption,hk⟩)
  | (rename_i hc; simp only[*]; exact⟨hc.1,hc.2.1,hc.2.2,hk⟩)
  | skip
 all_goals first
  | (rename_i cs heq agg hle; rw[heq]; exact⟨hle,hk⟩)
  | (rename_i sz e es heq hc; rw[heq]; exact⟨hc.1,hc.2.1,hc.2.2,hk⟩)
  | (rename_i hc; exact⟨hc.1,hc.2.1,hc.2.2.1,hc.2.2.2,hk⟩)
  | (rename_i r heq; rw[heq]; cases ‹Bool› <;> exact hk)
  | (
   rename_i es ext heq1 x2 a b heq hc
   rw[heq1]
   simp only[heq]
   refine⟨?_,hc.2.1,hc.2.2.1,hc.2.2.2,hk⟩
   have:=hc.1
   simp only[List.all_eq_true,beq_iff_eq] at this
   exact this)
end
def gudE {α:Type} (g:Option (Nat × Bool)) (s:St) (body skip:Option α):Option α :=
 match g with
 | none=>body
 | some (t,want)=>match lk s.tm t with
  | some (.bool b)=>if b=want then body else skip
  | some (.tuple [])=>skip
  | _=>none
theorem Qr {α:Type} {g:Option (Nat × Bool)} {s:St} {body skip:Option α} {x:α} (h:gudE g s body skip=some x) {p q:Prop} (hp:body=some x->p) (hq:skip=some x->q):gud g s p q:=by
 cases g with
 | none=>exact hp h
 | some gw =>
  obtain⟨t,w⟩:=gw
  simp only[gudE] at h
  simp only[gud]
  split at h
  ·rename_i b0 heq
   rw[heq]
   simp only
   split at h
   ·rename_i hb; rw[if_pos hb]; exact hp h
   ·rename_i hb; rw[if_neg hb]; exact hq h
  ·rename_i heq; rw[heq]; exact hq h
  ·cases h
def Z1w (s:St) (ds:List D):List Nat:=(Zip s.ob (D.collL ds [])).filter fun i=>(lk s.ob i).isSome
def Z0p:List Nat->Bool
 | []=>true
 | i::r=> !(r.contains i) && Z0p r
theorem Zx: ∀ {l:List Nat},Z0p l=true->l.Nodup
 | [],_=>List.nodup_nil
 | i::r,h=>by
  simp only[Z0p,Bool.and_eq_true,Bool.not_eq_true'] at h
  refine List.nodup_cons.2 ⟨fun hm=> ?_,Zx h.2⟩
  rw[List.contains_iff_mem.2 hm] at h; exact absurd h.1 (by simp)
theorem ZR {s:St} {ds:List D}: ∀ i∈Z1w s ds,(lk s.ob i).isSome:=fun i hi=>by
 have:=(List.mem_filter.1 hi).2
 simpa using this
abbrev Z3v:=D->List D->Obs->Option (D × Obs)
def hasE (cl:Z3v) (fn:FuncId->List D->Option D) (b:Nat) (o:SOp) (s:St):Option Eff :=
 match o with
 | .a dst g op xs=>gudE g s (match evE fn (b+dst.getD 0) op (xs.map s.get) (lk s.ob) with
   | some (d,none)=>some ⟨rdA (lk s.ob) op (xs.map s.get),dst.map (·,d),[],none⟩
   | some (d,some ob)=>if dst.isSome then some ⟨rdA (lk s.ob) op (xs.map s.get),dst.map (·,d),[(b+dst.getD 0,some ob)],none⟩ else none
   | none=>none) (some ⟨[],dst.map (·,.nov),[],none⟩)
 | .st g sz x y=>gudE g s (match stO (sz.at s) (s.get x) (s.get y) (lk s.ob) with
   | some (a,b,id,o)=>if a<b then some ⟨[id],none,[(id,some o)],none⟩ else none
   | none=>none) (some ⟨[],none,[],none⟩)
 | .app dst g fz sz et x y=>gudE g s (match Z3m (lk s.ob) (s.get y) with
   | some (ys,_)=>if (ys.all fun q=>q.length == sz)=true then (match s.get x with
    | .nils=>if ys.length<=1073741824 then some ⟨vids [s.get y],some (dst,.vec (b+dst)),[(b+dst,some (.arr fz sz et ys))],none⟩ else none
    | .vec id=>match lk s.ob id with
     | some (.arr fz' sz' e' es)=>if sz'=sz/\e'=et/\es.length+ys.length<=1073741824 then some ⟨id::vids [s.get y],some (dst,.vec (b+dst)),[(b+dst,some (.arr fz' sz et (es++ys))),(id,none)],none⟩ else none
     | _=>none
    | _=>none) else none
   | none=>none) (some ⟨[],some (dst,.nov),[],none⟩)
 | .cd dst g x xs=>gudE g s
   (
    let az:=xs.map fun y=>dva (s.get x) (lk s.ob) (s.get y)
    let nm:=Z1w s (s.get x::az)
    if Z0p nm=true then (match cl ((s.get x).ren (idx · nm)) (az.map (D.ren (idx · nm))) (Qc s.ob (idx · nm) 0 nm) with
     | some (r,ob')=>if r.isPan=true then none else some ⟨nm++vids (xs.map s.get),dst.map (·,r.ren (bkN (s.base b) nm)),(renO (fun j=>match nm[j]? with | some i=>i | none=>s.base b+j) (bkN (s.base b) nm) ob').map (fun p=>(p.1,some p.2))++nm.map (·,none),some (s.base b)⟩
     | none=>none) else none)
   (some ⟨[],dst.map (·,.nov),[],none⟩)
theorem Z8j {P:Program} {cl:Z3v} {fn:FuncId->List D->Option D} (hfn: ∀ f az r,fn f az=some r->FnOK P f az r) (hcl: ∀ d az ob r ob',cl d az ob=some (r,ob')->CallL P d az ob fun r0 ob0=>r0=r/\ob0=ob') {b:Nat} {o:SOp} {s:St} {e:Eff}
  (h:hasE cl fn b o s=some e):Has P b o s e/\(∀ q,e.cd=some q->s.top<=q):=by
 have hcd: ∀ q,e.cd=some q->s.top<=q:=by
  have key: ∀ {g:Option (Nat × Bool)} {body skip:Option Eff},gudE g s body skip=some e->(body=some e-> ∀ q,e.cd=some q->s.top<=q)->(skip=some e->e.cd=none)-> ∀ q,e.cd=some q->s.top<=q:=fun {g body skip} h h1 h2=>by
   have:=Qr h (p:= ∀ q,e.cd=some q->s.top<=q) (q:=e.cd=none) h1 h2
   cases g with
   | none=>exact this
   | some gw =>
    obtain⟨t,w⟩:=gw
    simp only[gud] at this
    split at this
    ·split at this
     ·exact this
     ·intro q hq; rw[this] at hq; cases hq
    ·intro q hq; rw[this] at hq; cases hq
    ·exact this.elim
  cases o with
  | a dst g op xs =>
   refine key h (fun hb q hq=> ?_) (fun hs=>by cases hs; rfl)
   split at hb
   ·cases hb; cases hq
   ·split at hb
    ·cases hb; cases hq
    ·cases hb
   ·cases hb
  | st g sz x y =>
   refine key h (fun hb q hq=> ?_) (fun hs=>by cases hs; rfl)
   split at hb
   ·split at hb
    ·cases hb; cases hq
    ·cases hb
   ·cases hb
  | app dst g fz sz et x y =>
   refine key h (fun hb q hq=> ?_) (fun hs=>by cases hs; rfl)
   split at hb
   ·split at hb
    ·split at hb
     ·split at hb
      ·cases hb; cases hq
      ·cases hb
     ·split at hb
      ·split at hb
       ·cases hb; cases hq
       ·cases hb
      ·cases hb
     ·cases hb
    ·cases hb
   ·cases hb
  | cd dst g x xs =>
   refine key h (fun hb q hq=> ?_) (fun hs=>by cases hs; rfl)
   simp only at hb
   split at hb
   ·split at hb
    ·split at hb
     ·cases hb
     ·cases hb; cases hq; exact Nat.le_max_right _ _
    ·cases hb
   ·cases hb
 refine⟨?_,hcd⟩
 cases o with
 | a dst g op xs =>
  refine Qr h (fun hb=> ?_) (fun hs=>by cases hs; rfl)
  split at hb
  ·rename_i d hev
   cases hb
   exact⟨rfl,rfl,Z0r hfn hev ⟨rfl,rfl⟩⟩
  ·rename_i d ob hev
   split at hb
   ·rename_i hds
    cases hb
    exact⟨rfl,rfl,Z0r hfn hev ⟨rfl,hds,rfl⟩⟩
   ·cases hb
  ·cases hb
 | st g sz x y =>
  refine Qr h (fun hb=> ?_) (fun hs=>by cases hs; rfl)
  simp only[HasB]
  split at hb
  ·rename_i a1 b1 id ob hst
   split at hb
   ·rename_i hc
    cases hb
    simp only[hst]
    exact⟨hc,trivial⟩
   ·cases hb
  ·cases hb
 | app dst g fz sz et x y =>
  refine Qr h (fun hb=> ?_) (fun hs=>by cases hs; rfl)
  simp only[HasB]
  split at hb
  ·rename_i ys ext hso
   split at hb
   ·rename_i hall
    simp only[hso]
    refine⟨by simpa using hall, ?_⟩
    split at hb
    ·rename_i hx
     split at hb
     ·cases hb; simp only[hx]; exact⟨by assumption,trivial⟩
     ·cases hb
    ·rename_i id hx
     split at hb
     ·rename_i fz' sz' e' es hl
      split at hb
      ·rename_i hc; cases hb; simp only[hx,hl]; exact⟨hc.1,hc.2.1,hc.2.2,trivial⟩
      ·cases hb
     ·cases hb
    ·cases hb
   ·cases hb
  ·cases hb
 | cd dst g x xs =>
  refine Qr h (fun hb=> ?_) (fun hs=>by cases hs; rfl)
  simp only at hb
  split at hb
  ·rename_i hnd
   split at hb
   ·rename_i r ob' hc
    split at hb
    ·cases hb
    ·rename_i hpn
     cases hb
     exact⟨_,r,ob',_,Zx hnd,ZR,Nat.le_max_left _ _,hcl _ _ _ _ _ hc,by simpa using hpn,rfl⟩
   ·cases hb
  ·cases hb
def opE (cl:Z3v) (fn:FuncId->List D->Option D) (b:Nat) (o:SOp) (s:St):Option St :=
 match o with
 | .a dst g op xs=>gudE g s (match evE fn (b+dst.getD 0) op (xs.map s.get) (lk s.ob) with
   | some (d,none)=>some (s.put dst d)
   | some (d,some ob)=>match dst with
    | some t=>if s.clean (b+t)=true then some (s.put2 t (b+t) d ob) else none
    | none=>none
   | none=>none) (some (s.put dst .nov))
 | .st g sz x y=>gudE g s (match stO (sz.at s) (s.get x) (s.get y) (lk s.ob) with
   | some (a,b,id,o)=>if a<b then some { s with ob:=(id,o)::Za id s.ob } else none
   | none=>none) (some s)
 | .app dst g fz sz et x y=>gudE g s (match Z3m (lk s.ob) (s.get y) with
   | some (ys,_)=>if (ys.all fun q=>q.length == sz)=true then (match s.get x with
    | .nils=>if ys.length<=1073741824/\s.clean (b+dst)=true then some (s.put2 dst (b+dst) (.vec (b+dst)) (.arr fz sz et ys)) else none
    | .vec id=>match lk s.ob id with
     | some (.arr fz' sz' e' es)=>if sz'=sz/\e'=et/\es.length+ys.length<=1073741824/\s.clean (b+dst)=true then some (St.put2 ⟨s.tm,Za id s.ob⟩ dst (b+dst) (.vec (b+dst)) (.arr fz' sz et (es++ys))) else none
     | _=>none
    | _=>none) else none
   | none=>none) (some (s.put (some dst) .nov))
 | .cd dst g x xs=>gudE g s
   (
    let az:=xs.map fun y=>dva (s.get x) (lk s.ob) (s.get y)
    let nm:=Z1w s (s.get x::az)
    if Z0p nm=true then (match cl ((s.get x).ren (idx · nm)) (az.map (D.ren (idx · nm))) (Qc s.ob (idx · nm) 0 nm) with
     | some (r,ob')=>if r.isPan=true then none else some ((s.back (s.base b) nm ob').put dst (r.ren (bkN (s.base b) nm)))
     | none=>none) else none)
   (some (s.put dst .nov))
theorem Z9N {P:Program} {cl:Z3v} {fn:FuncId->List D->Option D} (hfn: ∀ f az r,fn f az=some r->FnOK P f az r) (hcl: ∀ d az ob r ob',cl d az ob=some (r,ob')->CallL P d az ob fun r0 ob0=>r0=r/\ob0=ob') {b:Nat} {o:SOp} {s s':St} {K:St->Prop}
  (h:opE cl fn b o s=some s') (hk:K s'):stp P b o s K:=by
 cases o with
 | a dst g op xs =>
  refine Qr h (fun hb=> ?_) (fun hs=>by cases hs; exact hk)
  split at hb
  ·rename_i d hev
   cases hb
   exact Z0r hfn hev hk
  ·rename_i d ob hev
   split at hb
   ·split at hb
    ·rename_i hcl'
     cases hb
     exact Z0r hfn hev ⟨hcl',hk⟩
    ·cases hb
   ·cases hb
  ·cases hb
 | st g sz x y =>
  refine Qr h (fun hb=> ?_) (fun hs=>by cases hs; exact hk)
  split at hb
  ·rename_i a1 b1 id ob hst
   split at hb
   ·rename_i hc
    cases hb
    simp only[hst]
    exact⟨hc,hk⟩
   ·cases hb
  ·cases hb
 | app dst g fz sz et x y =>
  refine Qr h (fun hb=> ?_) (fun hs=>by cases hs; exact hk)
  split at hb
  ·rename_i ys ext hso
   split at hb
   ·rename_i hall
    simp only[hso]
    refine⟨by simpa using hall, ?_⟩
    split at hb
    ·rename_i hx
     split at hb
     ·rename_i hc; cases hb; simp only[hx]; exact⟨hc.1,hc.2,hk⟩
     ·cases hb
    ·rename_i id hx
     split at hb
     ·rename_i fz' sz' e' es hl
      split at hb
      ·rename_i hc; cases hb; simp only[hx,hl]; exact⟨hc.1,hc.2.1,hc.2.2.1,hc.2.2.2,hk⟩
      ·cases hb
     ·cases hb
    ·cases hb
   ·cases hb
  ·cases hb
 | cd dst g x xs =>
  refine Qr h (fun hb=> ?_) (fun hs=>by cases hs; exact hk)
  simp only at hb
  split at hb
  ·rename_i hnd
   split at hb
   ·rename_i r ob' hc
    split at hb
    ·cases hb
    ·rename_i hpn
     cases hb
     exact⟨_,_,_,Zx hnd,ZR,Nat.le_max_left _ _,Nat.le_max_right _ _,hcl _ _ _ _ _ hc,by rintro r0 ob0 ⟨rfl,rfl⟩; exact⟨by simpa using hpn,hk⟩⟩
   ·cases hb
  ·cases hb
def opsE (cl:Z3v) (fn:FuncId->List D->Option D) (b:Nat):List SOp->St->Option St
 | [],s=>some s
 | o::r,s=>match opE cl fn b o s with
  | some s'=>opsE cl fn b r s'
  | none=>none
theorem Z0o {P:Program} {cl:Z3v} {fn:FuncId->List D->Option D} (hfn: ∀ f az r,fn f az=some r->FnOK P f az r) (hcl: ∀ d az ob r ob',cl d az ob=some (r,ob')->CallL P d az ob fun r0 ob0=>r0=r/\ob0=ob') {b:Nat} :
  ∀ {ops:List SOp} {s s':St} {K:St->Prop},opsE cl fn b ops s=some s'->K s'->stps P b ops s K
 | [],s,s',K,h,hk=>by cases h; exact hk
 | o::r,s,s',K,h,hk=>by
  simp only[opsE] at h
  split at h
  ·rename_i s1 h1
   exact Z9N hfn hcl h1 (Z0o hfn hcl h hk)
  ·cases h
theorem Z1C {P:Program} {b:Nat} {o:SOp} {s:St} {K K':St->Prop} (h:stp P b o s K) (hk: ∀ s,K s->K' s):stp P b o s K':=by
 cases o with
 | a dst g op xs =>
  refine Qq (fun hb=>Z4x hb fun d nb hq=> ?_) (hk _) h
  cases nb with
  | none=>exact hk _ hq
  | some ob=>cases dst with
   | none=>exact hq
   | some t=>exact⟨hq.1,hk _ hq.2⟩
 | st g sz x y =>
  refine Qq (fun hb=> ?_) (hk _) h
  split at hb
  ·exact⟨hb.1,hk _ hb.2⟩
  ·exact hb.elim
 | app dst g fz sz e x y =>
  refine Qq (fun hb=> ?_) (hk _) h
  split at hb
  ·rename_i ys ext hso
   refine⟨hb.1, ?_⟩
   have h2:=hb.2
   split at h2
   ·exact⟨h2.1,h2.2.1,hk _ h2.2.2⟩
   ·rename_i id hx
    split at h2
    ·exact⟨h2.1,h2.2.1,h2.2.2.1,h2.2.2.2.1,hk _ h2.2.2.2.2⟩
    ·exact h2.elim
   ·exact h2.elim
  ·exact hb.elim
 | cd dst g x xs =>
  refine Qq (fun hb=> ?_) (hk _) h
  obtain⟨nm,R,base,h1,h2,h3,h4,h5,h6⟩:=hb
  exact⟨nm,R,base,h1,h2,h3,h4,h5,fun r ob' hr=>⟨(h6 r ob' hr).1,hk _ (h6 r ob' hr).2⟩⟩
theorem Z0O {P:Program} {b:Nat}: ∀ {ops:List SOp} {s:St} {K K':St->Prop},stps P b ops s K->(∀ s,K s->K' s)->stps P b ops s K'
 | [],_,_,_,h,hk=>hk _ h
 | o::r,_,_,_,h,hk=>Z1C (o:=o) h fun _ hs=>Z0O (ops:=r) hs hk
def canE (cl:Z3v) (fn:FuncId->List D->Option D) (b:Nat):List SOp->St->Option (List Eff × St)
 | [],s=>some ([],s)
 | o::r,s=>match hasE cl fn b o s with
  | some e=>match canE cl fn b r (s.app e) with
   | some (es,s')=>some (e::es,s')
   | none=>none
  | none=>none
theorem Z3U {P:Program} {cl:Z3v} {fn:FuncId->List D->Option D} (hfn: ∀ f az r,fn f az=some r->FnOK P f az r) (hcl: ∀ d az ob r ob',cl d az ob=some (r,ob')->CallL P d az ob fun r0 ob0=>r0=r/\ob0=ob') {b:Nat} :
  ∀ {ops:List SOp} {s s':St} {es:List Eff},canE cl fn b ops s=some (es,s')->Z5m P b ops s es s'
 | [],s,s',es,h=>by simp only[canE,Option.some.injEq,Prod.mk.injEq] at h; obtain⟨rfl,rfl⟩:=h; rfl
 | o::r,s,s',es,h=>by
  simp only[canE] at h
  split at h
  ·rename_i e he
   split at h
   ·rename_i es' s'' hc
    simp only[Option.some.injEq,Prod.mk.injEq] at h
    obtain⟨rfl,rfl⟩:=h
    exact⟨(Z8j hfn hcl he).1,Z3U hfn hcl hc⟩
   ·cases h
  ·cases h
end Go.Sx
/- DEFERRED CALLS,RECOVERY. -/
namespace Go.Sx
open Go.RowKit
variable [Globs] [Codes]
section
variable {F:Fence} {n:Nat} {P:Program}
def recS (cs:List Frame):Value × List Frame:=match recoverD cs with
 | some x=>x
 | none=>(.nilIface,cs)
theorem Zc5 {cs:List Frame}:(recS cs).2.length=cs.length:=by
 unfold recS
 split
 ·rename_i x hx; exact recoverD_length (v:=x.1) (cs':=x.2) hx
 ·rfl
theorem Z43 (hF:Fence.Open F) (hround:F.round=none) {id t:Nat} {ops:Array Oper} {o:Oper} {rest:List Oper} (hops:ops.toList=o::rest) {c:Call} (ho:o.op= .call c) (hc:c.callee= .builtin .recover) (hd:o.dst=some t) (hg0:o.guard=none)
  {Q:Exit->Act->List Frame->World->Prop} {a:Act} {cs:List Frame} {w:World}
  (h:wpListIn F n P ops (fun e a' w'=>Q e a' (recS cs).2 w') rest (a.put (some t) (recS cs).1) w):(Code.region id ops false).wpSIn F n P Q a cs w:=by
 intro b k hb hro hFb hroom
 have hsz:ops.size=rest.length+1:=by rw[<- Array.length_toList,hops]; rfl
 have ho0:ops[0]? = some o:=by rw[<- Array.getElem?_toList,hops]; rfl
 have hrange:List.range ops.size=0::List.range' 1 rest.length:=by
  rw[hsz,List.range_eq_range',List.range'_succ]
 have hrun:(execOp a.eval o).run P w= .ok .recover w:=by
  simp[execOp,ho,hc,resolve,invoke,builtin]
 have hw:Region.wanted o (yielded ops a.tmps)=true:=Z03 hg0 _
 have h0:(lone (b.atR a (.inRegion ops (0::List.range' 1 rest.length)::k)) cs w).fenced P F:=fenced_oper hFb hroom ho0 (fun f _=>hF.fn f)
 have hg:=stepGR_op (P:=P) (b:=b) (a:=a) (k:=k) (cs:=cs) (w:=w) (rest:=List.range' 1 rest.length) ho0 hw
 rw[hro,Oper.semAt_none] at hg
 have hfin: ∀ v,(b.atR a (.inRegion ops (0::List.range' 1 rest.length)::k)).finish v=b.atR (a.put o.dst v) (.inRegion ops (List.range' 1 rest.length)::k):=by
  intro v; rw[Frame.finish_atR,ho0]; rfl
 have hk:(b.atR a (.inRegion ops (0::List.range' 1 rest.length)::k)).kind= .deferred:=hb
 have htr:=tryRecover_deferred hk cs
 have hlen:=Zc5 (cs:=cs)
 have hl:wpOpsIn F n P ops (fun e a' w'=>Q e a' (recS cs).2 w') (List.range' 1 rest.length) (a.put (some t) (recS cs).1) w:=by
  rw[wpOpsIn_eq_wpListIn rest 1 (fun j=>by
   rw[<- Array.getElem?_toList,hops,Nat.add_comm]; rfl)]
  exact h
 obtain⟨e,a',w',hq,harr⟩:=wp_opsIn (F:=F) (n:=n) _ _ _ hl b k (recS cs).2 (hro.trans hround.symm) hFb (by rw[hlen]; exact hroom)
 refine⟨e,a',(recS cs).2,w',hlen,hq,.of_steps (.head (fenced_calm hFb hroom rfl) stepR_region ?_) harr⟩
 rw[hrange]
 refine .one h0 (step_lone_go ?_)
 rw[hg,<- hd,<- hfin]
 simp only[Frame.atR,hro] at htr ⊢
 unfold recS
 cases hrec:recoverD cs with
 | none=>simp[stepG.apply,hrun,htr,hrec]
 | some x=>simp[stepG.apply,hrun,htr,hrec]
def takes (P:Program):List Nat->World->World->Prop
 | [],w,w'=>w=w'
 | b::ms,w,w'=> ∃ w1,(Instr.takeDeferred b).run P w= .ok [] w1/\takes P ms w1 w'
theorem Z1q: ∀ (ms:List Nat) (w w':World) (fr:Frame) (cs:List Frame),fr.mode≠ .run->fr.defers=ms.map mkd->F.fn fr.fn->F.room (cs.length+1+n)->takes P ms w w' →
  StepsIn (Machine.fenced P F) P (lone fr cs w) (lone { fr with defers:=[] } cs w')
 | [],w,w',fr,cs,_,hd,_,_,ht=>by
  cases ht
  have:{ fr with defers:=[] }=fr:=by rw[show ([]:List Deferred)=fr.defers from hd.symm]
  rw[this]
  exact StepsIn.refl _
 | b::ms,w,w',fr,cs,hm,hd,hb,hr,⟨w1,h1,h2⟩=>by
  have s1:=step_collected (cs:=cs) hm hd rfl h1
  have i1:(lone fr cs w).fenced P F:=fenced_out hb hr hm hd (fun g hg=>by simp[mkd,Target.leads] at hg)
  have:=Z1q ms w1 w' { fr with defers:=[]++ms.map mkd } cs hm rfl hb hr h2
  exact .head i1 s1 this
def Z27 (P:Program) (fn:Func) (c₀:Frame) (cs:List Frame) (R:Ending->FrameMode->World->Prop):Exit->Act->List Frame->World->Prop:=fun e a cs' w =>
 (e= .normal\/e= .ret)/\ ∃ ms w1,a.defers=ms.map mkd/\takes P ms w w1/\ ∃ u',cs'={ c₀ with mode:=u' }::cs/\ ∃ v,(results fn a.tmps).run P w1= .ok v w1/\R (.returned v) u' w1
theorem Z2o {f:FuncId} {fn:Func} {c:Code} {args:Array Value} {u:FrameMode} {w:World} {R:Ending->FrameMode->World->Prop}
  (hf:P.funcs[f]? = some fn) (hb:fn.body=some c) (hF:F.fn f)
  (h: ∀ (c₀:Frame) (cs:List Frame),c₀.mode=u →
   c.wpSIn F n P (Z27 P fn c₀ cs R) { tmps:=args++Array.replicate (fn.ntmps-args.size) undef,defers:=[] } (c₀::cs) w) :
  CallsDIn F n P f args u w R:=by
 refine⟨hF,fun c₀ cs hu hroom=> ?_⟩
 let b:Frame:={ (default:Frame) with fn:=f,kind:= .deferred,roundOf:=none }
 have henter:Frame.enter P f args .deferred =
   b.atR { tmps:=args++Array.replicate (fn.ntmps-args.size) undef,defers:=[] } [.code c]:=by
  simp[Frame.enter,Frame.atR,hf,hb,b]
 obtain⟨e,a',cs',w',hl,hq,harr⟩:=h c₀ cs hu b [] rfl rfl hF hroom
 rw[<- henter] at harr
 obtain⟨he,ms,w1,hdf,htk,u',rfl,v,hr,hR⟩:=hq
 have hroom':F.room (({ c₀ with mode:=u' }::cs:List Frame).length+1+n):=hroom
 rcases he with rfl | rfl
 ·have s2:=Z1q (P:=P) (F:=F) (n:=n) ms w' w1 { b.atR a' [] with mode:= .returning } ({ c₀ with mode:=u' }::cs) (by simp) hdf hF hroom' htk
  exact⟨.returned v,u',w1,_,hR,(StepsIn.trans harr (.one (fenced_calm (fr:=b.atR a' []) hF hroom rfl) (stepR_end rfl))).trans s2,rfl,rfl,rfl,rfl,fn,hf,hr⟩
 ·obtain⟨todo,hs⟩:=harr.1 rfl
  have s2:=Z1q (P:=P) (F:=F) (n:=n) ms w' w1 { b.atR a' todo with mode:= .returning } ({ c₀ with mode:=u' }::cs) (by simp) hdf hF hroom' htk
  exact⟨.returned v,u',w1,_,hR,StepsIn.trans hs s2,rfl,rfl,rfl,rfl,fn,hf,hr⟩
def recM:FrameMode->Value × FrameMode
 | .panicking (⟨v,false,false⟩::older)=>(v,.panicking ({ v,recovered:=true }::older))
 | u=>(.nilIface,u)
theorem Zg1 (c₀:Frame) (cs:List Frame):recS (c₀::cs)=((recM c₀.mode).1,{ c₀ with mode:=(recM c₀.mode).2 }::cs):=by
 obtain⟨fn,tmps,todo,defers,mode,kind,ro⟩:=c₀
 cases mode with
 | panicking ch =>
  cases ch with
  | nil=>rfl
  | cons p older =>
   obtain⟨v,r,g⟩:=p
   cases r <;> cases g <;> rfl
 | run=>rfl
 | returning=>rfl
def CallD (P:Program) (u:FrameMode) (d:D) (ob:Obs) (R:FrameMode->Obs->Prop):Prop :=
 ∀ (F:Fence) (_:Fence.Open F) (_:F.round=none) (n:Nat) (φ:Mem) (h:Nat->Value) (w:World) (g:FuncId) (va vc:Array Value),Loc (fun _=>True) ob φ h w->RV φ h (.func (.func g) va vc) d →
  CallsDIn F n P g (va++vc) u w (fun e u' w'=> ∃ v ob' φ' h',e= .returned v/\R u' ob'/\After ob φ h w ob' φ' h' w')
theorem Z5g {N:Nat} {hi:Hints} {a b:Code} {sa sb:SC} (hc:ZN P N hi (.seq a b)=some (.seq sa sb)):ZN P N hi a=some sa/\(ZN P N hi b=some sb\/ ∃ ts b',sb= .seq (.spec (.frg ts)) b'/\ZN P N hi b=some b'):=by
 simp only[ZN] at hc
 split at hc
 ·rename_i sa' sb' ha hb
  split at hc
  ·cases hc; exact⟨ha,.inl hb⟩
  ·rename_i ts _; cases hc; exact⟨ha,.inr ⟨ts,sb',rfl,hb⟩⟩
 ·cases hc
theorem Z3R {N:Nat} {hi:Hints} {c:Code} {sa sb:SC} (hc:ZN P N hi c=some (.seq sa sb)): ∃ a b,c= .seq a b:=by
 cases c with
 | seq a b=>exact⟨a,b,rfl⟩
 | region id ops draw =>
  simp only[ZN] at hc
  split at hc
  ·split at hc
   ·obtain⟨_,_,_,_,⟨_,_,h⟩ | h⟩:=Z37 hc <;> cases h
   ·cases hc
  ·split at hc
   ·split at hc
    ·split at hc
     ·split at hc <;> cases hc
     ·cases hc
    ·cases hc
   ·cases hc
 | cond x a b=>simp only[ZN] at hc; split at hc <;> cases hc
 | block id c=>simp only[ZN] at hc; cases hq:ZN P N hi c <;> rw[hq] at hc <;> cases hc
 | loop c=>simp only[ZN] at hc; cases hq:ZN P N hi c <;> rw[hq] at hc <;> cases hc
 | rangeFunc g ps a b=>simp only[ZN] at hc; split at hc <;> cases hc
 | _=>cases hc
theorem Z3E [CodesOf P] (Z7:DrawSound P) (hF:Fence.Open F) {hi:Hints} {cb:Code} {sb:SC} {cx:Cx} {ds:List Deferred} (hc:ZN P cx.N hi cb=some sb\/ ∃ ts b',sb= .seq (.spec (.frg ts)) b'/\ZN P cx.N hi cb=some b') (hgl:GlobC cx.φ0 cx.w0 cx.Z) (hro:InRound F cx)
  {Q:Exit->St->Prop} {s:St} {φ:Mem} {h:Nat->Value} {tmps:Array Value} {w:World} (hm:Mod cx s φ h tmps w) (hs:sw P cx.bs sb Q s):cb.wpIn F n P (PostM cx ds Q) ⟨tmps,ds⟩ w:=by
 rcases hc with hc | ⟨ts,b',rfl,hc⟩
 ·exact Z18 (n:=n) Z7 hF cb sb hc cx ds rfl rfl hgl hro Q s φ h tmps w hm hs
 ·obtain⟨φ2,hk,hmk⟩:=hm.canonM ts
  have hs':sw P cx.bs b' Q (s.canon cx.bs ts):=hs
  exact Z18 (n:=n) Z7 hF cb b' hc cx ds rfl rfl hgl hro Q _ φ2 hk tmps w hmk hs'
theorem Z24 {N:Nat} {hi:Hints} {c:Code} {k:Sp} (hc:ZN P N hi c=some (.spec k)): ∃ id ops,c= .region id ops false/\Z0I P N hi ops=some k:=by
 cases c with
 | region id ops draw =>
  simp only[ZN] at hc
  split at hc
  ·rename_i k' hk
   split at hc
   ·obtain⟨_,_,_,_,⟨_,_,h⟩ | h⟩:=Z37 hc <;> cases h
   ·rename_i hd
    cases hc
    exact⟨id,ops,by simp at hd; rw[hd],hk⟩
  ·split at hc
   ·split at hc
    ·split at hc
     ·split at hc <;> cases hc
     ·cases hc
    ·cases hc
   ·cases hc
 | seq a b =>
  simp only[ZN] at hc
  split at hc
  ·split at hc <;> cases hc
  ·cases hc
 | cond x a b=>simp only[ZN] at hc; split at hc <;> cases hc
 | block id c=>simp only[ZN] at hc; cases hq:ZN P N hi c <;> rw[hq] at hc <;> cases hc
 | loop c=>simp only[ZN] at hc; cases hq:ZN P N hi c <;> rw[hq] at hc <;> cases hc
 | rangeFunc g ps a b=>simp only[ZN] at hc; split at hc <;> cases hc
 | _=>cases hc
theorem Z8r {N:Nat} {hi:Hints} {ops:Array Oper} {t:Nat} {sops:List SOp} (hc:Z0I P N hi ops=some (.rcv t sops)): ∃ o rest c,ops.toList=o::rest/\o.op= .call c/\c.callee= .builtin .recover/\o.dst=some t/\o.guard=none ∧
  rest.mapM (fun o=>QZ P hi.bt (hi.fz (o.dst.getD 0)) ops o)=some sops/\QR N ops=true/\t<N:=by
 unfold Z0I at hc
 split at hc
 ·split at hc
  ·split at hc <;> cases hc
  ·cases hc
 ·split at hc
  ·split at hc
   ·split at hc <;> cases hc
   ·cases hc
  ·split at hc
   ·split at hc
    ·split at hc <;> cases hc
    ·cases hc
   ·split at hc
    ·rename_i t' rest hr
     split at hc
     ·rename_i sops' hs
      split at hc
      ·rename_i hd
       cases hc
       simp only[Bool.and_eq_true,decide_eq_true_eq] at hd
       unfold Ziq at hr
       split at hr
       ·rename_i heq
        cases hr
        exact⟨_,_,_,heq,rfl,rfl,rfl,rfl,hs,hd.1,hd.2⟩
       ·cases hr
      ·cases hc
     ·cases hc
    ·split at hc
     ·split at hc
      ·split at hc <;> cases hc
      ·cases hc
     ·cases hc
theorem Z8t {N:Nat} {hi:Hints} {ops:Array Oper} {x':X} {sops:List SOp} (hc:Z0I P N hi ops=some (.dfr sops x')): ∃ init o c x,ops.toList=init++[o]/\o.op= .defer c/\c.callee= .value x/\c.args= #[]/\o.dst=none/\o.guard=none/\Qj x=some x' ∧
  init.mapM (fun o=>QZ P hi.bt (hi.fz (o.dst.getD 0)) ops o)=some sops/\QR N ops=true:=by
 unfold Z0I at hc
 split at hc
 ·split at hc
  ·split at hc <;> cases hc
  ·cases hc
 ·split at hc
  ·split at hc
   ·split at hc <;> cases hc
   ·cases hc
  ·split at hc
   ·rename_i x hx
    split at hc
    ·rename_i x'' sops' hcx hs
     split at hc
     ·rename_i hd
      cases hc
      unfold ZjF at hx
      split at hx
      ·rename_i heq
       split at hx
       case isFalse=>cases hx
       rename_i hargs
       cases hx
       have hargs:=Array.eq_empty_of_size_eq_zero hargs
       subst hargs
       rcases List.eq_nil_or_concat ops.toList with h0 | ⟨l,a,h0⟩
       ·rw[h0] at heq; cases heq
       ·rw[List.concat_eq_append] at h0
        rw[h0] at heq hs
        simp at heq
        subst heq
        rw[List.dropLast_concat] at hs
        exact⟨l,_,_,x,h0,rfl,rfl,rfl,rfl,rfl,hcx,hs,hd⟩
      ·cases hx
     ·cases hc
    ·cases hc
   ·split at hc
    ·split at hc
     ·split at hc <;> cases hc
     ·cases hc
    ·split at hc
     ·split at hc
      ·split at hc <;> cases hc
      ·cases hc
     ·cases hc
end
end Go.Sx
namespace Go.Sx
open Go.RowKit
variable [Globs] [Codes]
section
variable {F:Fence} {n:Nat} {P:Program}
theorem Z4L {cx:Cx} {s:St} {φ:Mem} {h:Nat->Value} {tmps:Array Value}: ∀ (ms:List Nat) (w:World),(ms.Nodup/\ ∀ b∈ms,cx.kp b=none/\cx.w0.heap.size<=b)->Mod (cx.more ms) s φ h tmps w-> ∃ w1,takes P ms w w1/\Mod cx s φ h tmps w1
 | [],w,_,hm=>by rw[Cx.more_nil] at hm; exact⟨w,rfl,hm⟩
 | b::ms,w,hnd,hm=>by
  obtain⟨hnd1,hnd2⟩:=hnd
  rw[List.nodup_cons] at hnd1
  obtain⟨hb,hk,hge⟩:=And.intro hnd1.1 (hnd2 b (by simp))
  obtain⟨h1,hm'⟩:=hm.unmark hb hk hge
  obtain⟨w1,q1,q2⟩:=Z4L ms _ ⟨hnd1.2,fun c hc=>hnd2 c (List.mem_cons_of_mem _ hc)⟩ hm'
  exact⟨w1,⟨_,run_takeDeferred h1,q1⟩,q2⟩
theorem CallD.fn [CodesOf P] (Z7:DrawSound P) {g:FuncId} {N t:Nat} {ops:List SOp} {sb:SC} (hf:FnC P g N (.seq (.spec (.rcv t ops)) sb) []) {first caps:List D} {ob:Obs} (k:Nat) (hk:Obs.top ob<=k) (hlen:(first++caps).length<=N) {u:FrameMode} (hone:(recM u).1.oneCell'=true) {R:FrameMode->Obs->Prop}
  (hst:stps P (St.nx ⟨(t,.raw (recM u).1)::Za t (Zv 0 (first++caps)),ob⟩ k) ops ⟨(t,.raw (recM u).1)::Za t (Zv 0 (first++caps)),ob⟩
   fun s1=>sw P k sb (fun e s=>(e= .normal\/e= .ret)/\RetL k (fun _ ob'=>R (recM u).2 ob') s (.tuple [])) s1) :
  CallD P u (.func (.func g) first caps) ob R:=by
 intro F hF hround n φ h w g' va vc hp hrv
 obtain⟨va',vc',hve,ha,hc,ha',hc'⟩:=func_inv hrv
 cases hve
 obtain⟨fn,c,hi,hfn,hbody,hN,hcomp,hres⟩:=hf.ex
 obtain⟨ca,cb,rfl⟩:=Z3R hcomp
 obtain⟨hca,hcb⟩:=Z5g hcomp
 obtain⟨id,ops0,rfl,hsp⟩:=Z24 hca
 obtain⟨o,rest,c,hops,ho,hcal,hdst,hgd,hmap,hdd,ht⟩:=Z8r hsp
 have hall:RVL φ h (va++vc).toList (first++caps):=by
  rw[Array.toList_append]
  exact QD (ZB _ _ (by simpa using ha) fun j d hd=>by have:=ha' j d hd; simpa [Array.getD_eq_getD_getElem?,List.getD] using this)
   (ZB _ _ (by simpa using hc) fun j d hd=>by have:=hc' j d hd; simpa [Array.getD_eq_getD_getElem?,List.getD] using this)
 have hsz:(va++vc).size<=N:=by
  have:=hall.length
  simp only[Array.length_toList] at this
  omega
 refine Z2o hfn hbody (hF.fn g) fun c₀ cs hu=> ?_
 rw[hN]
 have hm0:=hp.enter (N:=N) (k:=k) (kp:=fun _=>none) (vs:=(va++vc)++Array.replicate (N-(va++vc).size) Go.undef) (by rw[Array.size_append,Array.size_replicate]; omega) (fun t d hd=>Z35 hall t d hd) (ob1:=ob) (fun _ _ h=>h) (fun _ _ h=>by cases h)
 have hm1:=(hm0.setTmp ht (d:= .raw (recM u).1) (v:=(recM u).1) (.pure (.raw _ hone))).weaken (s':=⟨(t,.raw (recM u).1)::Za t (Zv 0 (first++caps)),ob⟩) (fun i d hi=>by simp only[ZQ] at hi; exact hi) (fun _ _ h=>h)
 refine wpSIn_seq (Z43 hF hround hops ho hcal hdst hgd ?_)
 rw[Zg1,hu]
 have hro:InRound F { N,w0:=w,φ0:=φ,Z:=ZOf ob h,bs:=k,h0:=h,kp:=fun _=>none }:=fun l hl=>by rw[hround] at hl; cases hl
 have key:=Z1r (n:=n) (F:=F) (ds:=[]) (cx:={ N,w0:=w,φ0:=φ,Z:=ZOf ob h,bs:=k,h0:=h,kp:=fun _=>none }) (rest:=[]) (Nat.le_max_left k _) hp.glob hF
  (Y:=fun e a' w'=>Exit.thenS (cb.wpSIn F n P (Z27 P fn c₀ cs fun e u' w'=> ∃ v ob' φ' h',e= .returned v/\R u' ob'/\After ob φ h w ob' φ' h' w')) (Z27 P fn c₀ cs fun e u' w'=> ∃ v ob' φ' h',e= .returned v/\R u' ob'/\After ob φ h w ob' φ' h' w') e a' ({ c₀ with mode:=(recM u).2 }::cs) w')
  (K:=fun s1=>sw P k sb (fun e s=>(e= .normal\/e= .ret)/\RetL k (fun _ ob'=>R (recM u).2 ob') s (.tuple [])) s1)
  (fun s1 φ1 h1 tm w1 hm hk'=> ?_) rest ops hmap (fun o' ho'=>Qd hdd o' (by rw[hops]; exact List.mem_cons_of_mem _ ho')) _ φ h _ w hm1 hst
 ·rw[List.append_nil] at key
  exact key
 ·show cb.wpSIn F n P _ ⟨tm,[]⟩ _ w1
  refine wpSIn_of_wpIn hround (wpIn_mono (Z3E (n:=n) (ds:=[]) (cx:={ N,w0:=w,φ0:=φ,Z:=ZOf ob h,bs:=k,h0:=h,kp:=fun _=>none }) Z7 hF hcb hp.glob hro hm hk') ?_)
  rintro e ⟨tm2,df⟩ w2 ⟨ms,hnd,hdf,s2,φ2,h2,⟨he,hR⟩,hm2⟩
  obtain⟨w3,htk,hm3⟩:=Z4L (P:=P) ms w2 hnd hm2
  obtain⟨v,hrun,hrv2⟩:=Z5R hres (ds:=[]) rfl hm3
  obtain⟨h3,_,haf⟩:=hm3.leave rfl rfl rfl rfl rfl hp.glob hk hrv2
  exact⟨he,ms,w3,by simpa using hdf,htk,_,rfl,v,hrun,v,_,φ2,h3,rfl,hR,haf⟩
theorem Mod.rebase {cx:Cx} {s:St} {φ:Mem} {h:Nat->Value} {tmps:Array Value} {w:World} (hm:Mod cx s φ h tmps w) (k2:Nat):Mod { cx with bs:=k2,h0:=h,φ0:=φ } s φ h tmps w :=
 ⟨hm.size,hm.tm,hm.mem,fun _ _ _ h=>h,(fun b o v h1 h2=>by have h3:φ b o=none:=h2; rw[h1] at h3; cases h3),hm.ob,hm.sep,hm.os,hm.tape,hm.output,hm.grow,hm.one,hm.frame,fun _ _=>rfl,hm.kept⟩
theorem Mod.unbase {cx:Cx} {k2:Nat} {h1:Nat->Value} {φ1:Mem} {s:St} {φ:Mem} {h:Nat->Value} {tmps:Array Value} {w:World} (hm:Mod { cx with bs:=k2,h0:=h1,φ0:=φ1 } s φ h tmps w) (hle:cx.bs<=k2) (hfix: ∀ i,i<cx.bs->h1 i=cx.h0 i)
  (hext: ∀ b o v,cx.φ0 b o=some v->φ1 b o=some v) (hnew: ∀ b o v,φ1 b o=some v->cx.φ0 b o=none->cx.own b):Mod cx s φ h tmps w :=
 ⟨hm.size,hm.tm,hm.mem,fun b o v h=>hm.ext b o v (hext b o v h),(fun b o v h1 h2=>by
  cases hq:φ1 b o with
  | none=>exact hm.new b o v h1 hq
  | some u=>exact hnew b o u hq h2),hm.ob,hm.sep,hm.os,hm.tape,hm.output,hm.grow,hm.one,hm.frame,fun i hi=>by rw[hm.hfix i (Nat.lt_of_lt_of_le hi hle)]; exact hfix i hi,hm.kept⟩
def swD (P:Program) (bs:Nat) (Q1:Exit->St->Prop) (KD:D->SC->St->Prop):SC->St->Prop
 | .seq a b,s=>match a with
  | .spec (.dfr ops x)=>stps P (s.nx bs) ops s fun s1=>KD (s1.get x) b s1
  | .spec (.frg ts)=>swD P bs Q1 KD b (s.canon bs ts)
  | a=>sw P bs a (thenS (swD P bs Q1 KD b) Q1) s
 | _,_=>False
theorem Z8s {N:Nat} {hi:Hints} {ops:Array Oper} {ts:List Nat} (hc:Z0I P N hi ops=some (.frg ts)):False:=by
 unfold Z0I at hc
 split at hc
 ·split at hc
  ·split at hc <;> cases hc
  ·cases hc
 ·split at hc
  ·split at hc
   ·split at hc <;> cases hc
   ·cases hc
  ·split at hc
   ·split at hc
    ·split at hc <;> cases hc
    ·cases hc
   ·split at hc
    ·split at hc
     ·split at hc <;> cases hc
     ·cases hc
    ·split at hc
     ·split at hc
      ·split at hc <;> cases hc
      ·cases hc
     ·cases hc
theorem Z8Z [CodesOf P] (Z7:DrawSound P) (hF:Fence.Open F) (hround:F.round=none) {hi:Hints} {N bs:Nat} {Q1:Exit->St->Prop} {KD:D->SC->St->Prop} {Y:Exit->Act->World->Prop} (c:Code): ∀ (sc:SC),ZN P N hi c=some sc-> ∀ (cx:Cx) (ds:List Deferred),cx.N=N->cx.bs=bs->GlobC cx.φ0 cx.w0 cx.Z->InRound F cx →
  ∀ (s:St) (φ:Mem) (h:Nat->Value) (tmps:Array Value) (w:World),Mod cx s φ h tmps w->swD P bs Q1 KD sc s →
  (∀ e a w',e≠ .normal->PostM cx ds Q1 e a w'->Y e a w') →
  (∀ (x:Operand) (x':X) (cb:Code) (sb:SC) (tm:Array Value) (df:List Deferred) (w1:World),Qj x=some x'->(ZN P N hi cb=some sb\/ ∃ ts b',sb= .seq (.spec (.frg ts)) b'/\ZN P N hi cb=some b')->PostM cx ds (fun _ s1=>KD (s1.get x') sb s1) .normal ⟨tm,df⟩ w1 →
   ∃ d,(Deferred.ofValue (Act.eval ⟨tm,df⟩ x) #[]).run P w1= .ok d w1/\cb.wpIn F n P Y ⟨tm,d::df⟩ w1)->c.wpIn F n P Y ⟨tmps,ds⟩ w:=by
 induction c with
 | seq a b iha ihb =>
  intro sc hc cx ds hN hbs hgl hro s φ h tmps w hm hs h1 h2
  have hsc: ∃ sa sb,sc= .seq sa sb:=by
   simp only[ZN] at hc
   split at hc
   ·split at hc
    ·cases hc; exact⟨_,_,rfl⟩
    ·cases hc; exact⟨_,_,rfl⟩
   ·cases hc
  obtain⟨sa,sb,rfl⟩:=hsc
  obtain⟨hca,hcb⟩:=Z5g hc
  have usual:sw P bs sa (thenS (swD P bs Q1 KD sb) Q1) s->(Code.seq a b).wpIn F n P Y ⟨tmps,ds⟩ w:=fun hs=>by
   refine wpIn_seq (wpIn_mono (Z18 (n:=n) Z7 hF a sa hca cx ds hN hbs hgl hro _ s φ h tmps w hm hs) ?_)
   rintro e ⟨tm,df⟩ w' ⟨ms,hnd,hdf,s',φ',h',hq,hm'⟩
   simp only at hdf
   subst hdf
   have far: ∀ (sb':SC),ZN P N hi b=some sb'-> ∀ (s'':St) (φ'':Mem) (h'':Nat->Value),Mod (cx.more ms) s'' φ'' h'' tm w'->swD P bs Q1 KD sb' s''->b.wpIn F n P Y ⟨tm,ms.map mkd++ds⟩ w':=fun sb' hb' s'' φ'' h'' hm'' hs'' =>
    ihb sb' hb' (cx.more ms) (ms.map mkd++ds) hN hbs hgl (hro.more ms) s'' φ'' h'' tm w' hm'' hs''
     (fun e a w' he hp=>h1 e a w' he (hp.after hnd))
     (fun x x' cb sb tm df w1 q1 q2 q3=>h2 x x' cb sb tm df w1 q1 q2 (q3.after hnd))
   cases e with
   | normal =>
    simp only[thenS] at hq
    simp only[Exit.then]
    rcases hcb with hb | ⟨ts,b',rfl,hb⟩
    ·exact far sb hb s' φ' h' hm' hq
    ·obtain⟨φ2,hk,hmk⟩:=hm'.canonM ts
     have hq':swD P bs Q1 KD b' (s'.canon bs ts):=hq
     subst hbs
     exact far b' hb _ φ2 hk hmk hq'
   | ret=>exact h1 _ _ _ (by simp) ⟨ms,hnd,rfl,s',φ',h',hq,hm'⟩
   | exit i=>exact h1 _ _ _ (by simp) ⟨ms,hnd,rfl,s',φ',h',hq,hm'⟩
   | goto i=>exact h1 _ _ _ (by simp) ⟨ms,hnd,rfl,s',φ',h',hq,hm'⟩
   | panic i=>exact h1 _ _ _ (by simp) ⟨ms,hnd,rfl,s',φ',h',hq,hm'⟩
   | outgrown=>exact h1 _ _ _ (by simp) ⟨ms,hnd,rfl,s',φ',h',hq,hm'⟩
  cases sa with
  | spec k =>
   cases k with
   | dfr ops x =>
    obtain⟨id,ops0,rfl,hsp⟩:=Z24 hca
    obtain⟨init,o,c0,x0,hops,ho,hcal,hargs,hdst,hgd,hx,hmap,hdd⟩:=Z8t hsp
    refine wpIn_seq (wpIn_region_list ?_)
    rw[hops]
    have hdd':=Qd hdd
    subst hN
    subst hbs
    refine Z1r (n:=n) (F:=F) (cx:=cx) (ds:=ds) (Nat.le_max_left cx.bs _) hgl hF (K:=fun s1=>KD (s1.get x) sb s1) (rest:=[o]) (fun s1 φ1 h1' tm w1 hm1 hk=> ?_) init ops hmap (fun o' ho'=>hdd' o' (by rw[hops]; simp[ho'])) s φ h tmps w hm hs
    obtain⟨d,hd,hw⟩:=h2 x0 x b sb tm ds w1 hx hcb (PostM.of (Q:=fun _ s1=>KD (s1.get x) sb s1) hk hm1)
    unfold wpListIn
    rw[if_pos (Z03 hgd _)]
    refine⟨fun f _=>hF.fn f, ?_⟩
    rw[hround,Oper.semAt_none]
    have hrun:(execOp (Act.eval ⟨tm,ds⟩) o).run P w1= .ok (.defer d) w1:=by
     simp only[execOp,ho,resolve,hcal,hargs,Array.map_empty,Sem.run_bind,hd,Result.andThen_ok]
     rfl
    rw[hrun,Oper.uponIn_defer,hdst]
    exact hw
   | frg ts =>
    obtain⟨id,ops0,rfl,hsp⟩:=Z24 hca
    exact (Z8s hsp).elim
   | rng _ _ _=>exact usual hs
   | nxt _ _ _=>exact usual hs
   | rcv _ _=>exact usual hs
   | pan _=>exact usual hs
   | ord _ _=>exact usual hs
  | _=>exact usual hs
 | _ =>
  intro sc hc cx ds hN hbs hgl hro s φ h tmps w hm hs
  cases sc with
  | seq sa sb =>
   obtain⟨a,b,e⟩:=Z3R hc
   cases e
  | _=>exact hs.elim
def DQ (P:Program) (k k2:Nat) (rs:List SR) (cl:D) (R:D->Obs->Prop) (u:FrameMode) (s2:St):Prop:= ∃ nm Rd base,nm.Nodup/\(∀ i∈nm,(lk s2.ob i).isSome)/\k2<=base/\s2.top<=base/\CallD P u (cl.ren (idx · nm)) (Qc s2.ob (idx · nm) 0 nm) Rd ∧
 ∀ u' ob',Rd u' ob'->settle u'= .returning/\ ∃ ds,rs.mapM (resD (s2.back base nm ob'))=some ds/\RetL k R (s2.back base nm ob') (Z0w ds)
def DefQ (P:Program) (k k2:Nat) (rs:List SR) (cl:D) (R:D->Obs->Prop):Exit->St->Prop:=fun e s2=>match e with
 | .normal=>DQ P k k2 rs cl R .returning s2
 | .ret=>DQ P k k2 rs cl R .returning s2
 | .panic c=>DQ P k k2 rs cl R (.panicking c) s2
 | _=>False
def KDef (P:Program) (k:Nat) (rs:List SR) (R:D->Obs->Prop):D->SC->St->Prop:=fun cl sb s1=> ∃ g fa fc k2,cl= .func (.func g) fa fc/\QE P g=true/\s1.top<=k2/\k<=k2/\D.top cl<=k2/\sw P k2 sb (DefQ P k k2 rs cl R) s1
theorem CallL.fnD [CodesOf P] (Z7:DrawSound P) {f:FuncId} {N:Nat} {sc:SC} {rs:List SR} (hf:FnC P f N sc rs) (hpf:QE P f=true) {first caps args:List D} {ob:Obs} {R:D->Obs->Prop} (k:Nat) (hk:Obs.top ob<=k)
  (hlen:(first++args++caps).length<=N)
  (hsw:swD P k (EndQ rs (RetL k R)) (KDef P k rs R) sc ⟨Zv 0 (first++args++caps),ob⟩):CallL P (.func (.func f) first caps) args ob R:=by
 intro F hF n φ h w v vs hp hv hvs
 obtain⟨va,vc,rfl,ha,hc,ha',hc'⟩:=func_inv hv
 rw[Qf hpf]
 show CallsIn F n P f (va++vs++vc) w _
 have hall:RVL φ h (va++vs++vc).toList (first++args++caps):=by
  rw[Array.toList_append,Array.toList_append]
  exact QD (QD (ZB _ _ (by simpa using ha) fun j d hd=>by have:=ha' j d hd; simpa [Array.getD_eq_getD_getElem?,List.getD] using this) hvs)
   (ZB _ _ (by simpa using hc) fun j d hd=>by have:=hc' j d hd; simpa [Array.getD_eq_getD_getElem?,List.getD] using this)
 have hsz:(va++vs++vc).size<=N:=by
  have:=hall.length
  simp only[Array.length_toList] at this
  omega
 refine hF.calls (callsIn_wide (n:=0).1 ?_) n
 have hm':=hp.enter (N:=N) (k:=k) (kp:=fun _=>none) (vs:=(va++vs++vc)++Array.replicate (N-(va++vs++vc).size) Go.undef) (by rw[Array.size_append,Array.size_replicate]; omega) (fun t d hd=>Z35 hall t d hd) (ob1:=ob) (fun _ _ h=>h) (fun _ _ h=>by cases h)
 obtain⟨fn,c,hi,hfn,hbody,hN,hcomp,hres⟩:=hf.ex
 have hW:=Z2N
 refine callsIn_of_wp_marks hfn hbody (hW.fn f) ?_ rfl
 rw[hN]
 obtain⟨cx,hcx⟩: ∃ cx:Cx,cx={ N,w0:=w,φ0:=φ,Z:=ZOf ob h,bs:=k,h0:=h,kp:=fun _=>none }:=⟨_,rfl⟩
 rw[<- hcx] at hm'
 have hglc:GlobC cx.φ0 cx.w0 cx.Z:=by rw[hcx]; exact hp.glob
 have hroc:InRound Fence.wide cx:=fun l hl=>by cases hl
 have hbsc:cx.bs=k:=by rw[hcx]
 have hNc:cx.N=N:=by rw[hcx]
 have leave: ∀ {s':St} {φ':Mem} {h':Nat->Value} {tm:Array Value} {w':World},Mod cx s' φ' h' tm w'-> ∀ {v:Value} {r:D},RV φ' h' v r-> ∃ h2,RV φ' h2 v ((s'.fin k r).get (.t 0))/\After ob φ h w (s'.fin k r).ob φ' h2 w':=fun hm v r hv=>by
  subst hcx
  exact hm.leave rfl rfl rfl rfl rfl hp.glob hk hv
 have leaveR: ∀ {s':St} {φ':Mem} {h':Nat->Value} {tm:Array Value} {ds:List D},rs.mapM (resD s')=some ds->RetL k R s' (Z0w ds)-> ∀ w',Mod cx s' φ' h' tm w'-> ∃ v,(results fn tm).run P w'= .ok v w'/\Post ob φ h w R (.returned v) w':=fun {s' φ' h' tm ds} hds hR w' hm=>by
  obtain⟨v,hrun,hrv⟩:=Z5R hres hds hm
  obtain⟨h2,q1,q2⟩:=leave hm hrv
  exact⟨v,hrun,.ret hR q1 q2⟩
 refine Z8Z (n:=0) Z7 hW rfl c sc hcomp cx [] hNc hbsc hglc hroc _ φ h _ w hm' hsw ?_ ?_
 ·-- no deferred call
  rintro e ⟨tm,df⟩ w' hne ⟨ms,hnd,hdf,s',φ',h',hq,hm2⟩
  simp only[List.append_nil] at hdf
  subst hdf
  cases e with
  | normal=>exact absurd rfl hne
  | ret=>obtain⟨ds,hds,hK⟩:=hq; exact Z0e (fun w' hm=>leaveR hds hK w' hm) ms w' hnd hm2
  | panic c =>
   obtain⟨v,rfl,hK⟩:=hq
   have:=QX (F:=Fence.wide) (n:=0) (P:=P) (fn:=fn) (tmps:=tm) (R:=Post ob φ h w R) (u:= .panicking [{ v,recovered:=false }]) (dd:=[]) (by simp)
    (fun w' hm=>by
     obtain⟨h2,q1,q2⟩:=leave hm (.undef Go.undef)
     exact⟨_,_,φ',h2,.inr ⟨v,rfl,rfl⟩,hK,q2⟩) ms w' hnd hm2
   show LeavesInM Fence.wide 0 P fn tm _ (ms.map mkd) _ w'
   rw[List.append_nil] at this
   exact this
  | exit _=>exact hq.elim
  | goto _=>exact hq.elim
  | outgrown=>exact hq.elim
 ·-- the deferred call is noted
  rintro x x' cb sb tm df w1 hx hcb ⟨ms,hnd,hdf,s1,φ1,h1,⟨g,fa,fc,k2,hcl,hpg,ht1,hk2,ht2,hsb⟩,hm1⟩
  simp only[List.append_nil] at hdf
  subst hdf
  have hgl1:GlobC (cx.more ms).φ0 (cx.more ms).w0 (cx.more ms).Z:=hglc
  have hv1:=hm1.get hgl1 (ds:=ms.map mkd) hx
  rw[hcl] at hv1
  obtain⟨wa,wc,hve,_,_,_,_⟩:=func_inv hv1
  refine⟨{ target:= .fn (.func g) wc,args:=wa++ #[] },by rw[hve]; exact Sem.run_pure _ _ _, ?_⟩
  rw[hve] at hv1
  have hgl1':GlobC φ1 (cx.more ms).w0 (cx.more ms).Z:=⟨fun g cs hg=>(hgl1.ok g cs hg).mono hm1.ext,hgl1.x,hgl1.i⟩
  have hmB:=hm1.rebase k2
  rw[<- hNc] at hcb
  refine wpIn_mono (Z3E (n:=0) (F:=Fence.wide) (ds:={ target:= .fn (.func g) wc,args:=wa++ #[] }::ms.map mkd) (cx:={ cx.more ms with bs:=k2,h0:=h1,φ0:=φ1 }) Z7 hW hcb hgl1' (fun l hl=>by cases hl) hmB hsb) ?_
  rintro e ⟨tm2,df2⟩ w2 ⟨ms2,hnd2,hdf2,s2,φ2,h2,hq,hm2⟩
  simp only at hdf2
  subst hdf2
  -- the closure,as it is at the end
  have hext: ∀ {u:FrameMode},u≠ .run->DQ P k k2 rs (s1.get x') R u s2->LeavesInM Fence.wide 0 P fn tm2 (Post ob φ h w R) (ms2.map mkd++{ target:= .fn (.func g) wc,args:=wa++ #[] }::ms.map mkd) u w2:=fun {u} hu hD=>by
   obtain⟨nm,Rd,base,d1,d2,d3,d4,d5,d6⟩:=hD
   refine QX (F:=Fence.wide) (n:=0) (P:=P) (fn:=fn) (tmps:=tm2) (R:=Post ob φ h w R) hu (fun w3 hm3=> ?_) ms2 w2 hnd2 hm2
   have hfx: ∀ i,i<k2->h2 i=h1 i:=fun i hi=>hm3.hfix i hi
   have hmono: ∀ b o v,φ1 b o=some v->φ2 b o=some v:=hm3.ext
   have hv2:RV φ2 h2 (.func (.func g) wa wc) (s1.get x'):=by
    rw[hcl]
    exact (hv1.mono hmono).under (n:=k2) (by rw[<- hcl]; exact ht2) hfx
   have hcallD:=d5 Fence.wide hW rfl 0 φ2 (hcal h2 nm) w3 g wa wc (hm3.loc (hm3.glob hgl1') d1) (Z1a hv2)
   refine⟨hu,.inr ⟨(fun hd=>by cases hd),.func g,wc,g,wa++ #[]++wc,rfl, ?_,fun _ _=>trivial, ?_⟩⟩
   ·obtain⟨fn',hf',hb',hn'⟩:=Z1b hpg
    simp only[invoke,Sem.run_bind,Sem.run_pure,Result.andThen_ok,callFunc,run_program,hf',hn',hb',Bool.false_eq_true,if_false]
   ·rw[Array.append_empty]
    refine CallsDIn.mono hcallD ?_
    rintro e u' w4 ⟨v,ob',φ',h',rfl,hRd,haft⟩
    obtain⟨hset,ds,hds,hR⟩:=d6 u' ob' hRd
    obtain⟨q6,_⟩:=hm3.back (base:=base) d3 d4 d1 d2 haft
    have hm5:Mod (cx.more ms) (s2.back base nm ob') φ' (hbak h2 h' base) tm2 w4:=q6.unbase (by show cx.bs<=k2; omega) (fun i hi=>hm1.hfix i hi) hm1.ext hm1.new
    show LeavesInM Fence.wide 0 P fn tm2 _ (ms.map mkd) (settle u') w4
    rw[hset]
    exact Z0e (fun w' hm=>leaveR hds hR w' hm) ms w4 hnd hm5
  cases e with
  | normal=>exact hext (by simp) hq
  | ret=>exact hext (by simp) hq
  | panic c=>exact hext (by simp) hq
  | exit _=>exact hq.elim
  | goto _=>exact hq.elim
  | outgrown=>exact hq.elim
end
end Go.Sx
