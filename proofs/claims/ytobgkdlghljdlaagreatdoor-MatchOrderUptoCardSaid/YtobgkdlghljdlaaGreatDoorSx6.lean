/- Own work: a layer over the kit: plain data,a walk over it,its soundness. -/
import Derived.RecoverIn
import Derived.RangeFuncLeaves
import Derived.Test.YtobgkdlghljdlaaGreatDoorSx5
import Derived.Test.YtobgkdlghljdlaaGreatDoorSx4
set_option linter.unusedSectionVars false
set_option linter.unusedVariables false
set_option linter.unusedSimpArgs false
set_option linter.deprecated false
namespace Go.Sx
open Go.RowKit
variable [Globs] [Codes]
theorem Z1J {α β:Type} {f:α->Option β}: ∀ {l:List α} {l':List β},l.mapM f=some l'-> ∀ (k:Nat) (a:α),l[k]? = some a-> ∃ b,f a=some b/\l'[k]? = some b
 | [],_,_,k,a,hk=>by simp at hk
 | x::l,l',h,k,a,hk=>by
  simp only[List.mapM_cons,Option.bind_eq_bind,Option.bind_eq_some_iff,Option.pure_def,Option.some.injEq] at h
  obtain⟨b,h1,r,h2,rfl⟩:=h
  cases k with
  | zero=>simp at hk; subst hk; exact⟨b,h1,rfl⟩
  | succ k=>obtain⟨b',q1,q2⟩:=Z1J h2 k a (by simpa using hk); exact⟨b',q1,by simpa using q2⟩
theorem Z1I {α β:Type} {f:α->Option β}: ∀ {l:List α} {l':List β},l.mapM f=some l'->l'.length=l.length
 | [],_,h=>by simp at h; subst h; rfl
 | x::l,l',h=>by
  simp only[List.mapM_cons,Option.bind_eq_bind,Option.bind_eq_some_iff,Option.pure_def,Option.some.injEq] at h
  obtain⟨b,h1,r,h2,rfl⟩:=h
  simp[Z1I h2]
def un (ops:Array Oper) (listed:Array Bool):List Nat:=(List.range ops.size).filter fun i=> !listed.getD i true
theorem Zcr {ops:Array Oper} {listed:Array Bool} {i:Nat} (hs:listed.size=ops.size) (hi:i∈un ops listed):(un ops (listed.setIfInBounds i true)).length<(un ops listed).length:=by
 have e:un ops (listed.setIfInBounds i true)=(un ops listed).filter fun j=>decide (j≠i):=by
  unfold un
  rw[List.filter_filter]
  refine List.filter_congr fun j hj=> ?_
  have hj':j<listed.size:=by rw[hs]; exact List.mem_range.1 hj
  by_cases h:j=i
  ·subst h; simp[hj']
  ·simp[Array.getD_eq_getD_getElem?,Array.getElem?_setIfInBounds_ne (Ne.symm h),h]
 rw[e]
 exact List.length_filter_lt_length_iff_exists.2 ⟨i,hi,by simp⟩
theorem Z3o {ops:Array Oper} {listed:Array Bool} {i:Nat} (h:i∈Region.ready .any ops listed):i∈un ops listed:=by
 obtain⟨h1,o,h2,_⟩:=mem_ready.1 h
 exact List.mem_filter.2 ⟨List.mem_range.2 (Array.getElem?_eq_some_iff.1 h2).1,by simpa using h1⟩
def Closed (ops:Array Oper) (listed:Array Bool):Prop:= ∀ i o,ops[i]? = some o->listed.getD i false=true-> ∀ e∈o.after,Region.binds .any e=true->listed.getD e.on false=true
theorem Z2P {pre:List Nat} {i:Nat}: ∀ {l:List Edge} {m:Nat},(Z4g pre l m).testBit i=true->m.testBit i=true\/ ∃ e∈l,Region.binds .any e=true/\(i=e.on\/Qs pre i e.on=true)
 | [],m,h=> .inl h
 | e::r,m,h=>by
  simp only[Z4g] at h
  rcases Z2P h with h | ⟨e',he,h⟩
  ·split at h
   ·rename_i hb
    simp only[Nat.testBit_or,Bool.or_eq_true] at h
    rcases h with (h | h) | h
    ·exact .inl h
    ·refine .inr ⟨e,by simp,hb,.inl ?_⟩
     have:=Nat.testBit_two_pow (n:=e.on) (m:=i)
     rw[this] at h
     exact (of_decide_eq_true h).symm
    ·exact .inr ⟨e,by simp,hb,.inr h⟩
   ·exact .inl h
  ·exact .inr ⟨e',List.mem_cons_of_mem _ he,h⟩
def Z7S (pre:List Nat) (ops:Array Oper):Prop:= ∀ i j,Qs pre i j=true-> ∃ o,ops[j]? = some o/\ ∃ e∈o.after,Region.binds .any e=true/\e.on<j/\(i=e.on\/Qs pre i e.on=true)
theorem Qd {ops:Array Oper} {listed:Array Bool} {pre:List Nat} (hp:Z7S pre ops) (hcl:Closed ops listed): ∀ (j i:Nat),(∀ o,ops[j]? = some o-> ∀ e∈o.after,Region.binds .any e=true->listed.getD e.on false=true)->Qs pre i j=true->listed.getD i false=true:=by
 intro j
 induction j using Nat.strongRecOn with
 | _ j ih =>
  intro i hd hb
  obtain⟨o,ho,e,he,hbi,hlt,h⟩:=hp i j hb
  have hl:=hd o ho e he hbi
  rcases h with rfl | h
  ·exact hl
  ·exact ih e.on hlt i (fun o' ho'=>hcl e.on o' ho' hl) h
theorem Z12 {listed:Array Bool} {i j:Nat} (hi:i<listed.size):(listed.setIfInBounds i true).getD j false=true ↔ listed.getD j false=true\/j=i:=by
 by_cases h:j=i
 ·subst h; simp[hi]
 ·simp[Array.getD_eq_getD_getElem?,Array.getElem?_setIfInBounds_ne (Ne.symm h),h]
theorem QF {listed:Array Bool} {i:Nat} (hi:i<listed.size):listed.getD i true=listed.getD i false:=by simp[Array.getD,hi]
theorem Closed.set {ops:Array Oper} {listed:Array Bool} (hcl:Closed ops listed) {i:Nat} (hi:i<listed.size) (hr: ∀ o,ops[i]? = some o-> ∀ e∈o.after,Region.binds .any e=true->listed.getD e.on false=true):Closed ops (listed.setIfInBounds i true):=by
 intro j o ho hj e he hb
 rw[Z12 hi] at hj ⊢
 rcases hj with hj | rfl
 ·exact .inl (hcl j o ho hj e he hb)
 ·exact .inl (hr o ho e he hb)
section latest
variable {V:Type} {L L':Nat->Prop} {wr:Nat->Option V} {v0 v v':V}
def Latest (L:Nat->Prop) (wr:Nat->Option V) (v0 v:V):Prop :=
 (∃ k x,L k/\wr k=some x/\v=x/\ ∀ k',L k'->(wr k').isSome->k'<=k)\/((∀ k,L k->wr k=none)/\v=v0)
theorem Latest.none (h: ∀ k,¬ L k):Latest L wr v0 v0:= .inr ⟨fun k hk=>absurd hk (h k),rfl⟩
theorem Latest.skip {j:Nat} (h:Latest L wr v0 v) (hj:wr j=Option.none):Latest (fun k=>L k\/k=j) wr v0 v:=by
 rcases h with ⟨k,x,h1,h2,h3,h4⟩ | ⟨h1,h2⟩
 ·refine .inl ⟨k,x,.inl h1,h2,h3,fun k' hk' hw=> ?_⟩
  rcases hk' with hk' | rfl
  ·exact h4 k' hk' hw
  ·rw[hj] at hw; cases hw
 ·exact .inr ⟨fun k hk=>hk.elim (h1 k) fun e=>by rw[e]; exact hj,h2⟩
theorem Latest.put {j:Nat} {x:V} (hj:wr j=some x) (hl: ∀ k,L k->(wr k).isSome->k<=j):Latest (fun k=>L k\/k=j) wr v0 x :=
 .inl ⟨j,x,.inr rfl,hj,rfl,fun k' hk' hw=>hk'.elim (fun h=>hl k' h hw) fun e=>by omega⟩
theorem Latest.uniq (h:Latest L wr v0 v) (h':Latest L' wr v0 v') (he: ∀ k,(wr k).isSome->(L k ↔ L' k)):v=v':=by
 rcases h with ⟨k,x,h1,h2,h3,h4⟩ | ⟨h1,h2⟩ <;> rcases h' with ⟨k',x',q1,q2,q3,q4⟩ | ⟨q1,q2⟩
 ·have e1:k<=k':=q4 k ((he k (by rw[h2]; rfl)).1 h1) (by rw[h2]; rfl)
  have e2:k'<=k:=h4 k' ((he k' (by rw[q2]; rfl)).2 q1) (by rw[q2]; rfl)
  have:k=k':=by omega
  subst this
  rw[h2] at q2
  rw[h3,q3]; exact Option.some.inj q2
 ·have:=q1 k ((he k (by rw[h2]; rfl)).1 h1)
  rw[h2] at this; cases this
 ·have:=h1 k' ((he k' (by rw[q2]; rfl)).2 q1)
  rw[q2] at this; cases this
 ·rw[h2,q2]
theorem Latest.congr (h:Latest L wr v0 v) (he: ∀ k,L k ↔ L' k):Latest L' wr v0 v:=by
 rcases h with ⟨k,x,h1,h2,h3,h4⟩ | ⟨h1,h2⟩
 ·exact .inl ⟨k,x,(he k).1 h1,h2,h3,fun k' hk'=>h4 k' ((he k').2 hk')⟩
 ·exact .inr ⟨fun k hk=>h1 k ((he k).2 hk),h2⟩
end latest
def twr (e:Eff) (t:Nat):Option (Option D):=match e.tm with
 | some (t',d)=>if t=t' then some (some d) else none
 | none=>none
theorem Zm7 (s:St) (e:Eff) (t:Nat):lk (s.app e).tm t=(twr e t).getD (lk s.tm t):=by
 simp only[St.app,twr]
 cases e.tm with
 | none=>rfl
 | some p =>
  obtain⟨t',d⟩:=p
  simp only[lk]
  split
  ·rfl
  ·rename_i hi; rw[Zi,if_neg hi]; rfl
theorem Zm8 (s:St) (e:Eff) (i:Nat):lk (s.app e).ob i=(lk e.ob i).getD (lk s.ob i):=by
 simp only[St.app]
 rw[Z3j]
 cases lk e.ob i <;> rfl
theorem Z0k {α:Type} {p:Nat × α->Bool} (id:Nat): ∀ {l:List (Nat × α)},l.all p=true->(Z6 id l).all p=true
 | [],_=>rfl
 | (j,x)::r,h=>by
  simp only[List.all_cons,Bool.and_eq_true] at h
  simp only[Z6]
  split
  ·exact Z0k id h.2
  ·simp only[List.all_cons,Bool.and_eq_true]; exact⟨h.1,Z0k id h.2⟩
theorem Z3k {i:Nat}: ∀ {l:List (Nat × Option Ob)} {ob:Obs},(l.any fun p=>match p.2 with | some o=>Ob.men i o | none=>false)=false->(ob.all fun p=> !(Ob.men i p.2))=true->((setO l ob).all fun p=> !(Ob.men i p.2))=true
 | [],ob,_,h=>h
 | (j,none)::r,ob,h1,h2=>by
  simp only[List.any_cons,Bool.false_or] at h1
  exact Z0k j (Z3k h1 h2)
 | (j,some o)::r,ob,h1,h2=>by
  simp only[List.any_cons,Bool.or_eq_false_iff] at h1
  simp only[setO,List.all_cons,Bool.and_eq_true,Bool.not_eq_true']
  exact⟨h1.1,Z0k j (Z3k h1.2 h2)⟩
theorem Za2 {s:St} {e:Eff} {i:Nat} (h:s.clean i=true) (he:e.men i=false):(s.app e).clean i=true:=by
 simp only[St.clean,Bool.and_eq_true] at h ⊢
 simp only[Eff.men,Bool.or_eq_false_iff] at he
 refine⟨?_,Z3k he.2 h.2⟩
 simp only[St.app]
 cases hq:e.tm with
 | none=>exact h.1
 | some p =>
  obtain⟨t,d⟩:=p
  have:=he.1
  rw[hq] at this
  simp only[List.all_cons,Bool.and_eq_true,Bool.not_eq_true']
  exact⟨this,Z0k t h.1⟩
theorem Env.top_erase (id:Nat): ∀ (l:Env),Env.top (Z6 id l)<=Env.top l
 | []=>Nat.le_refl _
 | (j,d)::r=>by
  have:=Env.top_erase id r
  simp only[Z6]
  split <;> simp only[Env.top] <;> omega
theorem Obs.top_erase (id:Nat): ∀ (l:Obs),Obs.top (Z6 id l)<=Obs.top l
 | []=>Nat.le_refl _
 | (j,d)::r=>by
  have:=Obs.top_erase id r
  simp only[Z6]
  split <;> simp only[Obs.top] <;> omega
theorem Z3i: ∀ (l:List (Nat × Option Ob)) (ob:Obs),Obs.top (setO l ob)<=max (otop l) (Obs.top ob)
 | [],ob=>by simp only[setO,otop]; omega
 | (j,none)::r,ob=>by
  have h1:=Z3i r ob
  have h2:=Obs.top_erase j (setO r ob)
  simp only[setO,otop]; omega
 | (j,some o)::r,ob=>by
  have h1:=Z3i r ob
  have h2:=Obs.top_erase j (setO r ob)
  simp only[setO,otop,Obs.top]; omega
theorem ZgD {s:St} {e:Eff} {q:Nat} (h:s.top<=q) (he:e.top<=q):(s.app e).top<=q:=by
 have h1:Env.top s.tm<=q:=Nat.le_trans (Nat.le_max_left _ _) h
 have h2:Obs.top s.ob<=q:=Nat.le_trans (Nat.le_max_right _ _) h
 have h3:=Z3i e.ob s.ob
 have h4:otop e.ob<=q:=Nat.le_trans (Nat.le_max_right _ _) he
 have h5:(match e.tm with | some (_,d)=>D.top d | none=>0)<=q:=Nat.le_trans (Nat.le_max_left _ _) he
 simp only[St.top,St.app]
 refine Nat.max_le.2 ⟨?_,by omega⟩
 cases hq:e.tm with
 | none=>exact h1
 | some p =>
  obtain⟨t,d⟩:=p
  rw[hq] at h5
  have:=Env.top_erase t s.tm
  simp only[Env.top]
  simp only at h5
  omega
def stAt:List Eff->St->Nat->St
 | _,s,0=>s
 | [],s,_=>s
 | e::es,s,k+1=>stAt es (s.app e) k
theorem Z45: ∀ {es:List Eff} {s:St} {k:Nat} {e:Eff},es[k]? = some e->stAt es s (k+1)=(stAt es s k).app e
 | [],_,k,_,h=>by simp at h
 | x::es,s,0,e,h=>by
  simp at h; subst h
  cases es <;> rfl
 | x::es,s,k+1,e,h=>by
  have:=Z45 (es:=es) (s:=s.app x) (k:=k) (e:=e) (by simpa using h)
  simpa [stAt] using this
theorem Z1l {P:Program} {b:Nat}: ∀ {sops:List SOp} {s:St} {es:List Eff} {s':St},Z4K P b sops s es s'->sops.length=es.length/\s'=stAt es s es.length/\ ∀ k o,sops[k]? = some o-> ∃ e,es[k]? = some e/\Has P b o (stAt es s k) e
 | [],s,[],s',h=>⟨rfl,(show s'=s from h),fun k o hk=>by simp at hk⟩
 | o::r,s,e::es,s',h=>by
  obtain⟨h1,h2⟩:=h
  obtain⟨q1,q2,q3⟩:=Z1l h2
  refine⟨by simp[q1],by simpa [stAt] using q2,fun k o' hk=> ?_⟩
  cases k with
  | zero=>simp at hk; subst hk; exact⟨e,rfl,by simpa [stAt] using h1⟩
  | succ k=>obtain⟨e',r1,r2⟩:=q3 k o' (by simpa using hk); exact⟨e',by simpa using r1,by simpa [stAt] using r2⟩
 | [],_,_::_,_,h=>h.elim
 | _::_,_,[],_,h=>h.elim
theorem Z44 {pre:List Nat} {j:Nat} {o2:SOp}: ∀ {l:List SOp} {i0:Nat},Z8e pre j o2 i0 l=true-> ∀ (k:Nat) (o1:SOp),l[k]? = some o1->Qs pre (i0+k) j=true\/Z0o o1 o2=true
 | [],_,_,k,_,h=>by simp at h
 | o::l,i0,h,k,o1,h1=>by
  simp only[Z8e,Bool.and_eq_true,Bool.or_eq_true] at h
  cases k with
  | zero=>simp at h1; subst h1; simpa using h.1
  | succ k =>
   have:=Z44 h.2 k o1 (by simpa using h1)
   rwa [show i0+1+k=i0+(k+1) by omega] at this
theorem Z2J {pre:List Nat} {ops0:List SOp}: ∀ {l:List SOp} {j0:Nat},Z62 pre ops0 j0 l=true-> ∀ (k:Nat) (o2:SOp),l[k]? = some o2->Z8e pre (j0+k) o2 0 (ops0.take (j0+k))=true
 | [],_,_,k,_,h=>by simp at h
 | o::l,j0,h,k,o2,h1=>by
  simp only[Z62,Bool.and_eq_true] at h
  cases k with
  | zero=>simp at h1; subst h1; simpa using h.1
  | succ k =>
   have:=Z2J h.2 k o2 (by simpa using h1)
   rwa [show j0+1+k=j0+(k+1) by omega] at this
theorem Z27: ∀ {es:List Eff} {i0 k:Nat} {e:Eff},es[k]? = some e->(e.ob=[]/\e.rd=[])\/(i0+k,e)∈Z5g i0 es
 | [],_,_,_,h=>by simp at h
 | x::es,i0,k,e,h=>by
  cases k with
  | zero =>
   simp at h
   subst h
   simp only[Z5g]
   split
   ·rename_i h1 h2; exact .inl ⟨h1,h2⟩
   ·exact .inr (by simp)
  | succ k =>
   have:=Z27 (es:=es) (i0:=i0+1) (k:=k) (e:=e) (by simpa using h)
   rw[show i0+1+k=i0+(k+1) by omega] at this
   rcases this with this | this
   ·exact .inl this
   ·refine .inr ?_
    simp only[Z5g]
    split
    ·exact this
    ·exact List.mem_cons_of_mem _ this
theorem Z3Y {p:Nat->Eff->Bool}: ∀ {es:List Eff} {i0:Nat},allI p i0 es=true-> ∀ (k:Nat) (e:Eff),es[k]? = some e->p (i0+k) e=true
 | [],_,_,k,_,h=>by simp at h
 | x::es,i0,h,k,e,h1=>by
  simp only[allI,Bool.and_eq_true] at h
  cases k with
  | zero=>simp at h1; subst h1; simpa using h.1
  | succ k =>
   have:=Z3Y h.2 k e (by simpa using h1)
   rwa [show i0+1+k=i0+(k+1) by omega] at this
theorem Z25 {b:Nat} {pre:List Nat} {es0:List Eff}: ∀ {l:List SOp} {es:List Eff} {j0:Nat},Z3w b pre es0 j0 l es=true-> ∀ (k:Nat) (o:SOp) (e:Eff),l[k]? = some o->es[k]? = some e →
  (e.ob≠[]-> ∀ t,o.dst=some t-> ∀ (i:Nat) (x:Eff),es0[i]? = some x->i=j0+k\/Qs pre (j0+k) i=true\/x.men (b+t)=false)/\(∀ q,e.cd=some q-> ∀ (i:Nat) (x:Eff),es0[i]? = some x->i=j0+k\/Qs pre (j0+k) i=true\/x.top<=q)
 | [],_,_,_,k,_,_,h,_=>by simp at h
 | _::_,[],_,_,k,_,_,_,h=>by simp at h
 | o'::l,e'::es,j0,h,k,o,e,h1,h2=>by
  simp only[Z3w,Bool.and_eq_true] at h
  cases k with
  | zero =>
   simp at h1 h2
   subst h1
   subst h2
   refine⟨fun hne t ht i x hx=> ?_,fun q hq i x hx=> ?_⟩
   ·have:=h.1.1
    split at this
    ·rename_i hnil; exact absurd hnil hne
    ·rw[ht] at this
     have:=Z3Y this i x hx
     simp only[Nat.zero_add,Bool.or_eq_true,beq_iff_eq,Bool.not_eq_true'] at this
     rcases this with (this | this) | this
     ·exact .inl this
     ·exact .inr (.inl this)
     ·exact .inr (.inr this)
   ·have:=h.1.2
    rw[hq] at this
    have:=Z3Y this i x hx
    simp only[Nat.zero_add,Bool.or_eq_true,beq_iff_eq,decide_eq_true_eq] at this
    rcases this with (this | this) | this
    ·exact .inl this
    ·exact .inr (.inl this)
    ·exact .inr (.inr this)
  | succ k =>
   have:=Z25 h.2 k o e (by simpa using h1) (by simpa using h2)
   rwa [show j0+1+k=j0+(k+1) by omega] at this
section
variable {b:Nat} {pre:List Nat} {ops:List SOp} {es:List Eff} {s:St}
theorem Z3M (h:dchk b pre ops es s=true) {i j:Nat} {o1 o2:SOp} (hij:i<j) (h1:ops[i]? = some o1) (h2:ops[j]? = some o2) (hb: ¬ Qs pre i j=true):Z0o o1 o2=true:=by
 simp only[dchk,Bool.and_eq_true] at h
 have:=Z2J h.1.1.1 j o2 h2
 rw[Nat.zero_add] at this
 have:=Z44 this i o1 (by rw[List.getElem?_take,if_pos hij]; exact h1)
 rw[Nat.zero_add] at this
 exact this.resolve_left hb
theorem Z3N (h:dchk b pre ops es s=true) {i j:Nat} {e1 e2:Eff} (hij:i<j) (q1:es[i]? = some e1) (q2:es[j]? = some e2) (hb: ¬ Qs pre i j=true) :
  (∀ p∈e1.ob,p.1 ∉ e2.rd/\ ∀ q∈e2.ob,q.1≠p.1)/\ ∀ p∈e2.ob,p.1 ∉ e1.rd:=by
 simp only[dchk,Bool.and_eq_true,List.all_eq_true,Bool.or_eq_true,decide_eq_true_eq] at h
 have hm:=h.1.1.2
 rcases Z27 (i0:=0) q1 with ⟨h1,h2⟩ | h1
 ·rw[h1,h2]; simp
 ·rcases Z27 (i0:=0) q2 with ⟨h3,h4⟩ | h3
  ·rw[h3,h4]; simp
  ·have:=hm _ h3 _ h1
   simp only[Nat.zero_add] at this
   rcases this with (this | this) | this
   ·omega
   ·exact absurd this hb
   ·unfold Z6o at this
    split at this
    ·rename_i h5 h6; rw[h5,h6]; simp
    ·simp only[Bool.and_eq_true,List.all_eq_true,Bool.not_eq_true',List.any_eq_false,beq_iff_eq] at this
     refine⟨fun p hp=>⟨fun hc=> ?_,fun q hq=>(this.1 p hp).2 q hq⟩,fun p hp hc=> ?_⟩
     ·have:=(this.1 p hp).1
      rw[List.contains_iff_mem.2 hc] at this; cases this
     ·have:=this.2 p hp
      rw[List.contains_iff_mem.2 hc] at this; cases this
theorem Z32 (h:dchk b pre ops es s=true) {j:Nat} {o:SOp} {e:Eff} (h1:ops[j]? = some o) (h2:es[j]? = some e) :
  (e.ob≠[]-> ∀ t,o.dst=some t-> ∀ (i:Nat) (x:Eff),es[i]? = some x->i=j\/Qs pre j i=true\/x.men (b+t)=false)/\(∀ q,e.cd=some q-> ∀ (i:Nat) (x:Eff),es[i]? = some x->i=j\/Qs pre j i=true\/x.top<=q):=by
 simp only[dchk,Bool.and_eq_true] at h
 have:=Z25 h.1.2 j o e h1 h2
 simpa using this
theorem ZbQ (h:dchk b pre ops es s=true) {e:Eff} (he:e∈es) {q:Nat} (hq:e.cd=some q):s.top<=q:=by
 simp only[dchk,Bool.and_eq_true,List.all_eq_true] at h
 have:=h.2 e he
 rw[hq] at this
 simpa using this
end
end Go.Sx
namespace Go.Sx
open Go.RowKit
variable [Globs] [Codes]
section
variable {P:Program} {F:Fence} {N:Nat} {cx:Cx} {bs:Nat} {ops:Array Oper} {sops:List SOp} {ds:List Deferred} {Q:Exit->St->Prop} {bt fz:Nat->Bool} {pre:List Nat} {es:List Eff} {s0:St}
structure Inv (es:List Eff) (s0:St) (L:Nat->Prop) (s:St):Prop where
 tm: ∀ t,Latest L (fun k=>(es[k]?).bind (twr · t)) (lk s0.tm t) (lk s.tm t)
 ob: ∀ i,Latest L (fun k=>(es[k]?).bind (fun e=>lk e.ob i)) (lk s0.ob i) (lk s.ob i)
 clean: ∀ i,s0.clean i=true->(∀ k e,L k->es[k]? = some e->e.men i=false)->s.clean i=true
 top: ∀ q,s0.top<=q->(∀ k e,L k->es[k]? = some e->e.top<=q)->s.top<=q
theorem Inv.congr {L L':Nat->Prop} {s:St} (h:Inv es s0 L s) (he: ∀ k,L k ↔ L' k):Inv es s0 L' s :=
 ⟨fun t=>(h.tm t).congr he,fun i=>(h.ob i).congr he,fun i h1 h2=>h.clean i h1 fun k e hk=>h2 k e ((he k).1 hk),fun q h1 h2=>h.top q h1 fun k e hk=>h2 k e ((he k).1 hk)⟩
theorem Inv.zero:Inv es s0 (fun _=>False) s0:=⟨fun _=>Latest.none fun _ h=>h,fun _=>Latest.none fun _ h=>h,fun _ h _=>h,fun _ h _=>h⟩
theorem Inv.step {L:Nat->Prop} {s:St} (h:Inv es s0 L s) {k:Nat} {e:Eff} (hk:es[k]? = some e) (ht: ∀ t j e',L j->es[j]? = some e'->(twr e t).isSome->(twr e' t).isSome->j<=k) (ho: ∀ i j e',L j->es[j]? = some e'->(lk e.ob i).isSome->(lk e'.ob i).isSome->j<=k) :
  Inv es s0 (fun j=>L j\/j=k) (s.app e):=by
 refine⟨fun t=> ?_,fun i=> ?_,fun i h1 h2=> ?_,fun q h1 h2=> ?_⟩
 ·rw[Zm7]
  cases hq:twr e t with
  | none=>exact (h.tm t).skip (by simp[hk,hq])
  | some x =>
   refine Latest.put (by simp[hk,hq]) fun j hj hw=> ?_
   cases he:es[j]? with
   | none=>rw[he] at hw; cases hw
   | some e'=>rw[he] at hw; exact ht t j e' hj he (by rw[hq]; rfl) hw
 ·rw[Zm8]
  cases hq:lk e.ob i with
  | none=>exact (h.ob i).skip (by simp[hk,hq])
  | some x =>
   refine Latest.put (by simp[hk,hq]) fun j hj hw=> ?_
   cases he:es[j]? with
   | none=>rw[he] at hw; cases hw
   | some e'=>rw[he] at hw; exact ho i j e' hj he (by rw[hq]; rfl) hw
 ·exact Za2 (h.clean i h1 fun j e' hj he=>h2 j e' (.inl hj) he) (h2 k e (.inr rfl) hk)
 ·exact ZgD (h.top q h1 fun j e' hj he=>h2 j e' (.inl hj) he) (h2 k e (.inr rfl) hk)
theorem Inv.at (n:Nat) (hn:n<=es.length):Inv es s0 (· < n) (stAt es s0 n):=by
 induction n with
 | zero =>
  have:stAt es s0 0=s0:=by cases es <;> rfl
  rw[this]
  exact Inv.zero.congr fun k=>by simp
 | succ n ih =>
  have he:es[n]? = some es[n]:=List.getElem?_eq_getElem (by omega)
  rw[Z45 he]
  exact ((ih (by omega)).step he (fun t j e' hj _ _ _=>Nat.le_of_lt hj) (fun i j e' hj _ _ _=>Nat.le_of_lt hj)).congr fun k=>by show (k<n\/k=n) ↔ k<n+1; omega
theorem Z5o {b:Nat} {o:SOp} {s:St} {e:Eff} (h:Has P b o s e) {t:Nat} (ht:(twr e t).isSome):o.dst=some t:=by
 have key: ∀ d:Option Nat,(∃ x,e.tm=d.map (·,x))->d=some t:=fun d ⟨x,hx⟩=>by
  simp only[twr,hx] at ht
  cases d with
  | none=>cases ht
  | some t' =>
   simp only[Option.map_some] at ht
   split at ht
   ·rename_i e; rw[e]
   ·cases ht
 have body:HasB P b o s e->o.dst=some t:=fun hb=>by
  cases o with
  | a dst g op xs =>
   obtain⟨_,_,h3⟩:=hb
   by_cases hx: ∃ x,e.tm=dst.map (·,x)
   ·exact key dst hx
   ·exact (let ⟨d,nb,hk⟩:=Zlu h3; hx ⟨d,hk.1⟩).elim
  | st g sz x y =>
   simp only[HasB] at hb
   split at hb
   ·rw[hb.2] at ht; simp[twr] at ht
   ·exact hb.elim
  | app dst g fz sz et x y =>
   simp only[HasB] at hb
   split at hb
   ·obtain⟨_,hb⟩:=hb
    split at hb
    ·exact key (some dst) ⟨_,by rw[hb.2]; rfl⟩
    ·split at hb
     ·exact key (some dst) ⟨_,by rw[hb.2.2.2]; rfl⟩
     ·exact hb.elim
    ·exact hb.elim
   ·exact hb.elim
  | cd dst g x xs =>
   obtain⟨nm,r,ob',base,_,_,_,_,_,he⟩:=hb
   exact key dst ⟨_,by rw[he]⟩
 have skip:e=⟨[],o.dst.map (·,.nov),[],none⟩->o.dst=some t:=fun he=>key o.dst ⟨_,by rw[he]⟩
 unfold Has at h
 cases hg:o.gd with
 | none=>rw[hg] at h; exact body h
 | some gw =>
  obtain⟨q,w⟩:=gw
  rw[hg] at h
  simp only[gud] at h
  split at h
  ·split at h
   ·exact body h
   ·exact skip h
  ·exact skip h
  ·exact h.elim
theorem ZdK {o:SOp} {t:Nat} (h:t∈Z4Q o.gd):t∈o.tmps:=by
 cases o <;> simp only[SOp.gd] at h <;> simp only[SOp.tmps,List.mem_append] <;> first | exact .inr h | exact .inl (.inr h)
theorem Has.congr {b:Nat} {o:SOp} {s s':St} {e:Eff} (h:Has P b o s e) (ht: ∀ t∈o.tmps,lk s.tm t=lk s'.tm t) (ho: ∀ i∈e.rd,lk s.ob i=lk s'.ob i):Has P b o s' e :=
 Z9d (fun t h=>ht t (ZdK h)) (ZO (fun hb=>hb.congr ht ho) id h)
theorem Z8Q (hcan: ∀ k o,sops[k]? = some o-> ∃ e,es[k]? = some e/\Has P bs o (stAt es s0 k) e) (hlen:sops.length=es.length) (hchk:dchk bs pre sops es s0=true) {L:Nat->Prop} {s:St} (hI:Inv es s0 L s) (htop:s0.top<=bs)
  {k:Nat} {o:SOp} (hk:sops[k]? = some o) (hL: ¬ L k) (hlt: ∀ j,L j->j<es.length) (hpre: ∀ i,Qs pre i k=true->L i) (hcl: ∀ j i,L j->Qs pre i j=true->L i) :
  ∃ e,es[k]? = some e/\Has P bs o s e/\(e.ob≠[]-> ∀ t,o.dst=some t->s.clean (bs+t)=true)/\(∀ q,e.cd=some q->s.top<=q)/\Inv es s0 (fun j=>L j\/j=k) (s.app e):=by
 obtain⟨e,he,hh⟩:=hcan k o hk
 have hkl:k<es.length:=(List.getElem?_eq_some_iff.1 he).1
 have hsop: ∀ j e',es[j]? = some e'-> ∃ o',sops[j]? = some o'/\Has P bs o' (stAt es s0 j) e':=fun j e' hj=>by
  have hjl:=(List.getElem?_eq_some_iff.1 hj).1
  have:sops[j]? = some sops[j]:=List.getElem?_eq_getElem (by omega)
  obtain⟨e'',q1,q2⟩:=hcan j _ this
  rw[hj] at q1
  cases q1
  exact⟨_,this,q2⟩
 -- an operation ahead in the text that is not in L,and one behind that is
 have nbe: ∀ j,j<k-> ¬ L j-> ¬ Qs pre j k=true:=fun j _ hnl hb=>hnl (hpre j hb)
 have naf: ∀ j,k<j->L j-> ¬ Qs pre k j=true:=fun j _ hl hb=>hL (hcl j k hl hb)
 have hcat:=Inv.at (es:=es) (s0:=s0) k (by omega)
 have hmem: ∀ {l:List Nat} {t:Nat},l.contains t=false->t ∉ l:=fun h hm=>by rw[List.contains_iff_mem.2 hm] at h; cases h
 have hag: ∀ t∈o.tmps,lk (stAt es s0 k).tm t=lk s.tm t:=fun t ht=>(hcat.tm t).uniq (hI.tm t) fun j hw=>by
  cases hj:es[j]? with
  | none=>rw[hj] at hw; cases hw
  | some e' =>
   rw[hj] at hw
   obtain⟨o',ho',hh'⟩:=hsop j e' hj
   have hd:=Z5o hh' (t:=t) hw
   refine⟨fun hjk=> ?_,fun hl=> ?_⟩
   ·apply Classical.byContradiction
    intro hnl
    have:=Z3M hchk hjk ho' hk (nbe j hjk hnl)
    simp only[Z0o,hd,Bool.and_eq_true,Bool.not_eq_true'] at this
    exact hmem this.1.1 ht
   ·rcases Nat.lt_trichotomy j k with h | h | h
    ·exact h
    ·subst h; exact absurd hl hL
    ·have:=Z3M hchk h hk ho' (naf j h hl)
     simp only[Z0o,hd,Bool.and_eq_true,Bool.not_eq_true'] at this
     exact absurd ht (hmem this.2)
 have hao: ∀ i∈e.rd,lk (stAt es s0 k).ob i=lk s.ob i:=fun i hi=>(hcat.ob i).uniq (hI.ob i) fun j hw=>by
  cases hj:es[j]? with
  | none=>rw[hj] at hw; cases hw
  | some e' =>
   rw[hj] at hw
   obtain⟨x,hx⟩:=Option.isSome_iff_exists.1 hw
   obtain⟨p,hp,hpi⟩:=Z6s hx
   refine⟨fun hjk=> ?_,fun hl=> ?_⟩
   ·apply Classical.byContradiction
    intro hnl
    have:=((Z3N hchk hjk hj he (nbe j hjk hnl)).1 p hp).1
    rw[hpi] at this
    exact this hi
   ·rcases Nat.lt_trichotomy j k with h | h | h
    ·exact h
    ·subst h; exact absurd hl hL
    ·have:=(Z3N hchk h he hj (naf j h hl)).2 p hp
     rw[hpi] at this
     exact absurd hi this
 refine⟨e,he,hh.congr hag hao,fun hne t ht=> ?_,fun q hq=> ?_,hI.step he (fun t j e' hj hej hw hw'=> ?_) (fun i j e' hj hej hw hw'=> ?_)⟩
 ·refine hI.clean _ ?_ fun j e' hj hej=> ?_
  ·simp only[St.clean,Bool.and_eq_true,List.all_eq_true,Bool.not_eq_true']
   refine⟨fun p hp=>D.top_men _ _ ?_,fun p hp=>D.topL_men _ _ ?_⟩
   ·have h1:Env.top s0.tm<=bs+t:=Nat.le_trans (Nat.le_max_left _ _) (Nat.le_trans htop (Nat.le_add_right _ _))
    exact Z9v h1 hp
   ·have h1:Obs.top s0.ob<=bs+t:=Nat.le_trans (Nat.le_max_right _ _) (Nat.le_trans htop (Nat.le_add_right _ _))
    exact Z8R h1 hp
  ·rcases (Z32 hchk hk he).1 hne t ht j e' hej with h | h | h
   ·subst h; exact absurd hj hL
   ·exact absurd (hcl j k hj h) hL
   ·exact h
 ·refine hI.top q (ZbQ hchk (List.mem_of_getElem? he) hq) fun j e' hj hej=> ?_
  rcases (Z32 hchk hk he).2 q hq j e' hej with h | h | h
  ·subst h; exact absurd hj hL
  ·exact absurd (hcl j k hj h) hL
  ·exact h
 ·obtain⟨o',ho',hh'⟩:=hsop j e' hej
  apply Classical.byContradiction
  intro hlt'
  have:=Z3M hchk (by omega) hk ho' (naf j (by omega) hj)
  have d1:=Z5o hh hw
  have d2:=Z5o hh' hw'
  simp[Z0o,d1,d2] at this
 ·apply Classical.byContradiction
  intro hlt'
  obtain⟨x,hx⟩:=Option.isSome_iff_exists.1 hw
  obtain⟨y,hy⟩:=Option.isSome_iff_exists.1 hw'
  obtain⟨p,hp,hpi⟩:=Z6s hx
  obtain⟨p',hp',hpi'⟩:=Z6s hy
  exact ((Z3N hchk (by omega) he hej (naf j (by omega) hj)).1 p hp).2 p' hp' (by rw[hpi,hpi'])
theorem ZbN (hF:Fence.Open F) (hbs:cx.bs<=bs) (hgl:GlobC cx.φ0 cx.w0 cx.Z) (hl:ops.toList.mapM (fun o=>Qu P bt (fz (o.dst.getD 0)) ops o)=some sops) (hd:QA cx.N ops=true)
  (hlow: ∀ i o,ops[i]? = some o-> ∀ e∈o.after,Region.binds .any e=true->e.on<i) (hwt:Z7S pre ops)
  (hcan: ∀ k o,sops[k]? = some o-> ∃ e,es[k]? = some e/\Has P bs o (stAt es s0 k) e) (hlen:sops.length=es.length) (hchk:dchk bs pre sops es s0=true) (htop:s0.top<=bs) (hK:Q .normal (stAt es s0 es.length)) :
  ∀ (fuel:Nat) (listed:Array Bool) (s:St) (φ:Mem) (h:Nat->Value) (tmps:Array Value) (w:World),listed.size=ops.size->Closed ops listed →
   Inv es s0 (fun k=>listed.getD k false=true) s->(un ops listed).length<=fuel->Mod cx s φ h tmps w->wpAnyIn F N P .any ops (PostM cx ds Q) fuel listed ⟨tmps,ds⟩ w:=by
 have hlo:sops.length=ops.size:=by have:=Z1I hl; simpa using this
 -- all are done
 have last: ∀ (listed:Array Bool) (s:St) (φ:Mem) (h:Nat->Value) (tmps:Array Value) (w:World),listed.size=ops.size->(∀ k,k<ops.size->listed.getD k false=true)->Inv es s0 (fun k=>listed.getD k false=true) s->Mod cx s φ h tmps w->PostM cx ds Q .normal ⟨tmps,ds⟩ w:=by
  intro listed s φ h tmps w hsz hall hI hm
  have hat:=Inv.at (es:=es) (s0:=s0) es.length (Nat.le_refl _)
  have hiff: ∀ k,k<es.length ↔ listed.getD k false=true:=fun k=>by
   refine⟨fun hk=>hall k (by omega),fun hk=> ?_⟩
   apply Classical.byContradiction
   intro hn
   have:listed.getD k false=false:=by simp[Array.getD,show ¬ k<listed.size by omega]
   rw[this] at hk; cases hk
  refine PostM.of hK (hm.weaken (fun t d hd=> ?_) fun i o ho=> ?_)
  ·rw[<- hd]; exact (hI.tm t).uniq (hat.tm t) fun k _=>(hiff k).symm
  ·rw[<- ho]; exact (hI.ob i).uniq (hat.ob i) fun k _=>(hiff k).symm
 have hnone: ∀ listed:Array Bool,listed.size=ops.size->un ops listed=[]-> ∀ k,k<ops.size->listed.getD k false=true:=fun listed hsz hun k hk=>by
  cases hq:listed.getD k false with
  | true=>rfl
  | false =>
   have:k∈un ops listed:=List.mem_filter.2 ⟨List.mem_range.2 hk,by rw[QF (by omega),hq]; rfl⟩
   rw[hun] at this; cases this
 intro fuel
 induction fuel with
 | zero =>
  intro listed s φ h tmps w hsz hcl hI hun hm
  have hunil:un ops listed=[]:=List.eq_nil_of_length_eq_zero (by omega)
  refine⟨?_,last listed s φ h tmps w hsz (hnone listed hsz hunil) hI hm⟩
  cases hq:Region.ready .any ops listed with
  | nil=>rfl
  | cons x xs =>
   have:=Z3o (ops:=ops) (listed:=listed) (i:=x) (by rw[hq]; simp)
   rw[hunil] at this; cases this
 | succ fuel ih =>
  intro listed s φ h tmps w hsz hcl hI hun hm
  refine⟨fun hrn=> ?_,fun i hi=> ?_⟩
  ·-- nothing is ready: all are done
   refine last listed s φ h tmps w hsz (fun k hk=> ?_) hI hm
   cases hq:listed.getD k false with
   | true=>rfl
   | false =>
    exfalso
    have: ∃ k,k<ops.size/\listed.getD k false=false/\ ∀ j,j<k->listed.getD j false=true:=by
     induction k using Nat.strongRecOn with
     | _ k ihk =>
      by_cases hj: ∃ j,j<k/\listed.getD j false=false
      ·obtain⟨j,hjk,hjq⟩:=hj
       exact ihk j hjk (by omega) hjq
      ·refine⟨k,hk,hq,fun j hjk=> ?_⟩
       cases hq':listed.getD j false with
       | true=>rfl
       | false=>exact absurd ⟨j,hjk,hq'⟩ hj
    obtain⟨k0,h1,h2,h3⟩:=this
    have hr:k0∈Region.ready .any ops listed:=mem_ready.2 ⟨by rw[QF (by omega)]; exact h2,ops[k0],Array.getElem?_eq_getElem h1,fun e he hb=>h3 _ (hlow k0 ops[k0] (Array.getElem?_eq_getElem h1) e he hb)⟩
    rw[hrn] at hr; cases hr
  ·obtain⟨h1,o,ho,hrd⟩:=mem_ready.1 hi
   have hilt:=(Array.getElem?_eq_some_iff.1 ho).1
   rw[QF (by omega)] at h1
   obtain⟨so,hcs,hso⟩:=Z1J hl i o (by simpa using ho)
   obtain⟨e,he,hh,hclean,hcd,hI'⟩:=Z8Q hcan hlen hchk hI htop hso (by simp only[h1]; simp)
    (fun j hj=>by
     apply Classical.byContradiction
     intro hn
     have:listed.getD j false=false:=by simp[Array.getD,show ¬ j<listed.size by omega]
     rw[this] at hj; cases hj)
    (fun j hb=>Qd hwt hcl i j (fun o' ho'=>by rw[ho] at ho'; cases ho'; exact hrd) hb)
    (fun j q hj hb=>Qd hwt hcl j q (fun o' ho'=>hcl j o' ho' hj) hb)
   have hst:=Z2I hh hclean hcd
   have hs:=Q4 (ds:=ds) (n:=N) (Q:=PostM cx ds Q) hF hbs hgl hcs (ZD hd o (by simpa using Array.mem_of_getElem? ho)) hm hst
   have hnext: ∀ a w',Z0l cx ds (fun s1=>Alike s1 (s.app e)) a w'->wpAnyIn F N P .any ops (PostM cx ds Q) fuel (listed.setIfInBounds i true) a w':=by
    rintro⟨tm,df⟩ w' ⟨hdf,s1,φ',h',hal,hm'⟩
    cases hdf
    refine ih _ (s.app e) φ' h' tm w' (by simpa using hsz) (hcl.set (by omega) fun o' ho'=>by rw[ho] at ho'; cases ho'; exact hrd) (hI'.congr fun k=>(Z12 (by omega)).symm) (by have:=Zcr hsz (Z3o hi); omega) (hm'.weaken (fun t d hd=>by rw[hal.1 t]; exact hd) fun i o ho=>by rw[hal.2 i]; exact ho)
   unfold wpOpIn
   simp only[ho]
   split at hs
   ·rename_i hw
    rw[if_pos hw]
    exact Oper.wpIn_mono hnext hs
   ·rename_i hw
    rw[if_neg hw]
    exact⟨hs.1,hnext _ _ hs.2⟩
theorem Z9j (hF:Fence.Open F) {b2:Nat} (hbs:cx.bs<=b2) (hgl:GlobC cx.φ0 cx.w0 cx.Z) (hl:ops.toList.mapM (fun o=>Qu P bt (fz (o.dst.getD 0)) ops o)=some sops) (hd:QA cx.N ops=true)
  (hlow: ∀ i o,ops[i]? = some o-> ∀ e∈o.after,Region.binds .any e=true->e.on<i) (hwt:Z7S pre ops) {p:Nat} (hp: ∀ i,p<=i->i<ops.size-> ∀ j,j<i->Qs pre j i=true) :
  ∀ (m j fuel:Nat) (listed:Array Bool) (s:St) (φ:Mem) (h:Nat->Value) (tmps:Array Value) (w:World),ops.size-j=m->p<=j->j<=ops.size->m<=fuel->listed.size=ops.size->Closed ops listed →
   (∀ k,listed.getD k false=true ↔ k<j)->Mod cx s φ h tmps w->Z1e P b2 (sops.drop j) s (Q .normal) (fun v s1=>Q (pnc v) s1)->wpAnyIn F N P .any ops (PostM cx ds Q) fuel listed ⟨tmps,ds⟩ w:=by
 have hlo:sops.length=ops.size:=by have:=Z1I hl; simpa using this
 intro m
 induction m with
 | zero =>
  intro j fuel listed s φ h tmps w hm hpj hj hfu hsz hcl hL hmod hst
  have hje:j=ops.size:=by omega
  rw[List.drop_eq_nil_of_le (by omega)] at hst
  have hready:Region.ready .any ops listed=[]:=by
   refine List.eq_nil_iff_forall_not_mem.2 fun i hi=> ?_
   obtain⟨h1,o,ho,_⟩:=mem_ready.1 hi
   have hil:=(Array.getElem?_eq_some_iff.1 ho).1
   rw[QF (by omega),(hL i).2 (by omega)] at h1
   cases h1
  cases fuel with
  | zero=>exact⟨hready,PostM.of hst hmod⟩
  | succ fuel =>
   refine⟨fun _=>PostM.of hst hmod,fun i hi=> ?_⟩
   rw[hready] at hi
   cases hi
 | succ m ih =>
  intro j fuel listed s φ h tmps w hm hpj hj hfu hsz hcl hL hmod hst
  have hjl:j<ops.size:=by omega
  obtain⟨fuel,rfl⟩: ∃ f,fuel=f+1:=⟨fuel-1,by omega⟩
  have ho:ops[j]? = some ops[j]:=Array.getElem?_eq_getElem hjl
  have hnl:listed.getD j false=false:=by
   cases hq:listed.getD j false with
   | false=>rfl
   | true=>have:=(hL j).1 hq; omega
  refine⟨fun hr=> ?_,fun i hi=> ?_⟩
  ·exfalso
   have:j∈Region.ready .any ops listed:=mem_ready.2 ⟨by rw[QF (by omega)]; exact hnl,ops[j],ho,fun e he hb=>(hL _).2 (hlow j ops[j] ho e he hb)⟩
   rw[hr] at this; cases this
  ·obtain⟨h1,o,hoi,hrd⟩:=mem_ready.1 hi
   have hil:=(Array.getElem?_eq_some_iff.1 hoi).1
   rw[QF (by omega)] at h1
   have hij:i=j:=by
    rcases Nat.lt_trichotomy i j with hlt | he | hgt
    ·rw[(hL i).2 hlt] at h1; cases h1
    ·exact he
    ·have:=Qd hwt hcl i j (fun o' ho'=>by rw[hoi] at ho'; cases ho'; exact hrd) (hp i (by omega) hil j hgt)
     rw[hnl] at this; cases this
   subst hij
   obtain⟨so,hcs,hso⟩:=Z1J hl i o (by simpa using hoi)
   have hdrop:sops.drop i=so::sops.drop (i+1):=by
    rw[List.drop_eq_getElem_cons (by omega)]
    have:sops[i]? = some sops[i]:=List.getElem?_eq_getElem (by omega)
    rw[this] at hso
    cases hso
    rfl
   rw[hdrop] at hst
   have hs:=Z1T (ds:=ds) (n:=N) (Q:=PostM cx ds Q) hF hbs hgl hcs (ZD hd o (by simpa using Array.mem_of_getElem? hoi)) hmod hst (fun v s' φ' h' w' hk hm'=>PostM.of hk hm')
   have hnext: ∀ a w',Z0l cx ds (fun s1=>Z1e P b2 (sops.drop (i+1)) s1 (Q .normal) (fun v s1=>Q (pnc v) s1)) a w'->wpAnyIn F N P .any ops (PostM cx ds Q) fuel (listed.setIfInBounds i true) a w':=by
    rintro⟨tm,df⟩ w' ⟨hdf,s1,φ',h',hk,hm'⟩
    cases hdf
    refine ih (i+1) fuel _ s1 φ' h' tm w' (by omega) (by omega) (by omega) (by omega) (by simpa using hsz) (hcl.set (by omega) fun o' ho'=>by rw[hoi] at ho'; cases ho'; exact hrd) (fun k=> ?_) hm' hk
    rw[Z12 (by omega),hL k]
    omega
   unfold wpOpIn
   simp only[hoi]
   split at hs
   ·rename_i hw
    rw[if_pos hw]
    exact Oper.wpIn_mono hnext hs
   ·rename_i hw
    rw[if_neg hw]
    exact⟨hs.1,hnext _ _ hs.2⟩
theorem Z9B (hF:Fence.Open F) {b2:Nat} (hbs:cx.bs<=bs) (hb2:cx.bs<=b2) (hgl:GlobC cx.φ0 cx.w0 cx.Z) (hl:ops.toList.mapM (fun o=>Qu P bt (fz (o.dst.getD 0)) ops o)=some sops) (hd:QA cx.N ops=true)
  (hlow: ∀ i o,ops[i]? = some o-> ∀ e∈o.after,Region.binds .any e=true->e.on<i) (hwt:Z7S pre ops) {p:Nat} (hpl:p<ops.size) (hp: ∀ i,p<=i->i<ops.size-> ∀ j,j<i->Qs pre j i=true)
  (hcan: ∀ k o,(sops.take p)[k]? = some o-> ∃ e,es[k]? = some e/\Has P bs o (stAt es s0 k) e) (hlen:(sops.take p).length=es.length) (hchk:dchk bs pre (sops.take p) es s0=true) (htop:s0.top<=bs)
  (hK:Z1e P b2 (sops.drop p) (stAt es s0 es.length) (Q .normal) (fun v s1=>Q (pnc v) s1)) :
  ∀ (fuel:Nat) (listed:Array Bool) (s:St) (φ:Mem) (h:Nat->Value) (tmps:Array Value) (w:World),listed.size=ops.size->Closed ops listed->(∀ k,listed.getD k false=true->k<p) →
   Inv es s0 (fun k=>listed.getD k false=true) s->(un ops listed).length<=fuel->Mod cx s φ h tmps w->wpAnyIn F N P .any ops (PostM cx ds Q) fuel listed ⟨tmps,ds⟩ w:=by
 have hlo:sops.length=ops.size:=by have:=Z1I hl; simpa using this
 have hel:es.length=p:=by rw[<- hlen,List.length_take]; omega
 intro fuel
 induction fuel with
 | zero =>
  intro listed s φ h tmps w hsz hcl hlt hI hun hm
  exfalso
  have:p∈un ops listed:=List.mem_filter.2 ⟨List.mem_range.2 hpl,by
   rw[QF (by omega)]
   cases hq:listed.getD p false with
   | false=>rfl
   | true=>have:=hlt p hq; omega⟩
  have:=List.length_pos_of_mem this
  omega
 | succ fuel ih =>
  intro listed s φ h tmps w hsz hcl hlt hI hun hm
  by_cases hall: ∀ k,k<p->listed.getD k false=true
  ·-- all ahead are done
   have hat:=Inv.at (es:=es) (s0:=s0) es.length (Nat.le_refl _)
   have hiff: ∀ k,k<es.length ↔ listed.getD k false=true:=fun k=>⟨fun hk=>hall k (by omega),fun hk=>by have:=hlt k hk; omega⟩
   have hmod:Mod cx (stAt es s0 es.length) φ h tmps w:=hm.weaken (fun t d hd=>by rw[<- hd]; exact (hI.tm t).uniq (hat.tm t) fun k _=>(hiff k).symm) fun i o ho=>by rw[<- ho]; exact (hI.ob i).uniq (hat.ob i) fun k _=>(hiff k).symm
   have hun2:ops.size-p<=(un ops listed).length:=by
    have hnd:(List.range' p (ops.size-p)).Nodup:=List.nodup_range'
    have:=List.Nodup.length_le_of_subset hnd (l₂:=un ops listed) fun i hi=>by
     rw[List.mem_range'_1] at hi
     refine List.mem_filter.2 ⟨List.mem_range.2 (by omega), ?_⟩
     rw[QF (by omega)]
     cases hq:listed.getD i false with
     | false=>rfl
     | true=>have:=hlt i hq; omega
    simpa using this
   exact Z9j hF hb2 hgl hl hd hlow hwt hp _ p (fuel+1) listed (stAt es s0 es.length) φ h tmps w rfl (Nat.le_refl _) (by omega) (by omega) hsz hcl (fun k=>⟨hlt k,hall k⟩) hmod hK
  ·refine⟨fun hrn=> ?_,fun i hi=> ?_⟩
   ·exfalso
    have: ∃ k,k<p/\listed.getD k false=false/\ ∀ j,j<k->listed.getD j false=true:=by
     have h0: ∃ k,k<p/\listed.getD k false=false:=Classical.byContradiction fun hn=>hall fun k hk=>by
      cases hq:listed.getD k false with
      | true=>rfl
      | false=>exact absurd ⟨k,hk,hq⟩ hn
     obtain⟨k,hk,hq⟩:=h0
     induction k using Nat.strongRecOn with
     | _ k ihk =>
      by_cases hj: ∃ j,j<k/\listed.getD j false=false
      ·obtain⟨j,hjk,hjq⟩:=hj
       exact ihk j hjk (by omega) hjq
      ·refine⟨k,hk,hq,fun j hjk=> ?_⟩
       cases hq':listed.getD j false with
       | true=>rfl
       | false=>exact absurd ⟨j,hjk,hq'⟩ hj
    obtain⟨k0,h1,h2,h3⟩:=this
    have hk0:k0<ops.size:=by omega
    have hr:k0∈Region.ready .any ops listed:=mem_ready.2 ⟨by rw[QF (by omega)]; exact h2,ops[k0],Array.getElem?_eq_getElem hk0,fun e he hb=>h3 _ (hlow k0 ops[k0] (Array.getElem?_eq_getElem hk0) e he hb)⟩
    rw[hrn] at hr; cases hr
   ·obtain⟨h1,o,ho,hrd⟩:=mem_ready.1 hi
    have hilt:=(Array.getElem?_eq_some_iff.1 ho).1
    rw[QF (by omega)] at h1
    have hwait:=fun j hb=>Qd hwt hcl i j (fun o' ho'=>by rw[ho] at ho'; cases ho'; exact hrd) hb
    have hip:i<p:=by
     apply Classical.byContradiction
     intro hn
     exact hall fun k hk=>hwait k (hp i (by omega) hilt k (by omega))
    obtain⟨so,hcs,hso⟩:=Z1J hl i o (by simpa using ho)
    have hso':(sops.take p)[i]? = some so:=by rw[List.getElem?_take,if_pos hip]; exact hso
    obtain⟨e,he,hh,hclean,hcd,hI'⟩:=Z8Q hcan hlen hchk hI htop hso' (by simp only[h1]; simp) (fun j hj=>by have:=hlt j hj; omega) hwait
     (fun j q hj hb=>Qd hwt hcl j q (fun o' ho'=>hcl j o' ho' hj) hb)
    have hst:=Z2I hh hclean hcd
    have hs:=Q4 (ds:=ds) (n:=N) (Q:=PostM cx ds Q) hF hbs hgl hcs (ZD hd o (by simpa using Array.mem_of_getElem? ho)) hm hst
    have hnext: ∀ a w',Z0l cx ds (fun s1=>Alike s1 (s.app e)) a w'->wpAnyIn F N P .any ops (PostM cx ds Q) fuel (listed.setIfInBounds i true) a w':=by
     rintro⟨tm,df⟩ w' ⟨hdf,s1,φ',h',hal,hm'⟩
     cases hdf
     refine ih _ (s.app e) φ' h' tm w' (by simpa using hsz) (hcl.set (by omega) fun o' ho'=>by rw[ho] at ho'; cases ho'; exact hrd) (fun k hk=>by
      rcases (Z12 (by omega)).1 hk with hk | rfl
      ·exact hlt k hk
      ·exact hip) (hI'.congr fun k=>(Z12 (by omega)).symm) (by have:=Zcr hsz (Z3o hi); omega) (hm'.weaken (fun t d hd=>by rw[hal.1 t]; exact hd) fun i o ho=>by rw[hal.2 i]; exact ho)
    unfold wpOpIn
    simp only[ho]
    split at hs
    ·rename_i hw
     rw[if_pos hw]
     exact Oper.wpIn_mono hnext hs
    ·rename_i hw
     rw[if_neg hw]
     exact⟨hs.1,hnext _ _ hs.2⟩
end
theorem Z31 {ops:Array Oper} {pre:List Nat} (hok:Z2m pre ops=true):(∀ i o,ops[i]? = some o-> ∀ e∈o.after,Region.binds .any e=true->e.on<i)/\Z7S pre ops:=by
 simp only[Z2m,Bool.and_eq_true,decide_eq_true_eq,List.all_eq_true,List.mem_range,beq_iff_eq] at hok
 obtain⟨hplen,h2⟩:=hok
 have hlow: ∀ i o,ops[i]? = some o-> ∀ e∈o.after,Region.binds .any e=true->e.on<i:=fun i o ho e he hb=>by
  have:=h2 i (Array.getElem?_eq_some_iff.1 ho).1
  simp only[ho,List.all_eq_true,Bool.and_eq_true,Bool.or_eq_true,Bool.not_eq_true',decide_eq_true_eq] at this
  rcases this.1 e (by simpa using he) with h | h
  ·rw[hb] at h; cases h
  ·exact h
 have hwt:Z7S pre ops:=fun i j hb=>by
  have hj:j<ops.size:=by
   apply Classical.byContradiction
   intro hn
   simp only[Qs,List.getD,List.getElem?_eq_none (show pre.length<=j by omega)] at hb
   simp at hb
  have ho:ops[j]? = some ops[j]:=Array.getElem?_eq_getElem hj
  have:=h2 j hj
  simp only[ho,Bool.and_eq_true,beq_iff_eq] at this
  have hbit:(pre.getD j 0 &&& Z4g pre (ops[j]).after.toList 0).testBit i=true:=by rw[this.2]; exact hb
  rw[Nat.testBit_and,Bool.and_eq_true] at hbit
  rcases Z2P hbit.2 with h | ⟨e,he,hbi,h⟩
  ·simp at h
  ·exact⟨_,ho,e,by simpa using he,hbi,hlow j _ ho e (by simpa using he) hbi,h⟩
 exact⟨hlow,hwt⟩
theorem ZoE {P:Program} (hmix:P.follows .mixedOrders=true):Zn8 P:=by
 intro cx F N ds hF bt fz ops Q sops pre id bs hbs hgl hl hd hN hok s φ h tmps w htop hm es s' hcan hchk hK
 obtain⟨hlow,hwt⟩:=Z31 hok
 obtain⟨hlen,rfl,hc⟩:=Z1l hcan
 refine wpIn_region_any hmix ?_
 have hnl: ∀ i,(Array.replicate ops.size false).getD i false=false:=fun i=>by
  by_cases hi:i<ops.size <;> simp[Array.getD,hi]
 refine ZbN hF hbs hgl hl hd hlow hwt hc hlen hchk htop hK ops.size (Array.replicate ops.size false) s φ h tmps _ (by simp) (fun i o ho hi=>by rw[hnl i] at hi; cases hi) (Inv.zero.congr fun k=>by rw[hnl k]; simp) ?_ hm.drew
 unfold un
 exact Nat.le_trans (List.length_filter_le _ _) (by simp)
theorem ZoF {P:Program} (hmix:P.follows .mixedOrders=true):Zn9 P:=by
 intro cx F N ds hF bt fz ops Q sops pre id bs p hbs hgl hl hd hN hok hpan s φ h tmps w htop hm es s' b2 hcan hchk hb2 hK
 obtain⟨hlow,hwt⟩:=Z31 hok
 obtain⟨hlen,rfl,hc⟩:=Z1l hcan
 simp only[Zbn,Bool.and_eq_true,decide_eq_true_eq,List.all_eq_true,List.mem_range,Bool.or_eq_true,beq_iff_eq] at hpan
 refine wpIn_region_any hmix ?_
 have hnl: ∀ i,(Array.replicate ops.size false).getD i false=false:=fun i=>by
  by_cases hi:i<ops.size <;> simp[Array.getD,hi]
 refine Z9B hF hbs hb2 hgl hl hd hlow hwt hpan.1 (fun i h1 h2 j hj=> ?_) hc hlen hchk htop hK ops.size (Array.replicate ops.size false) s φ h tmps _ (by simp) (fun i o ho hi=>by rw[hnl i] at hi; cases hi) (fun k hk=>by rw[hnl k] at hk; cases hk) (Inv.zero.congr fun k=>by rw[hnl k]; simp) ?_ hm.drew
 ·rcases hpan.2 i h2 with h | h
  ·omega
  ·simp only[Qs]
   rw[h,Nat.testBit_two_pow_sub_one]
   simpa using hj
 ·unfold un
  exact Nat.le_trans (List.length_filter_le _ _) (by simp)
theorem Z9C {P:Program} (hmix:P.follows .mixedOrders=true):DrawSound P:=⟨ZoE hmix,ZoF hmix⟩
end Go.Sx
namespace Go.Sx
open Go.RowKit
variable [Globs] [Codes]
def Zc6 (op:BinOp) (k:IntKind) (a b:Int):Option D :=
 match op with
 | .add=>some (.int k (k.wrap (a+b)))
 | .sub=>some (.int k (k.wrap (a-b)))
 | .mul=>some (.int k (k.wrap (a*b)))
 | .quo=>if b=0 then none else some (.int k (k.wrap (a.tdiv b)))
 | .rem=>if b=0 then none else some (.int k (a.tmod b))
 | .eql=>some (.bool (decide (a=b)))
 | .neq=>some (.bool (!decide (a=b)))
 | .lss=>some (.bool (decide (a<b)))
 | .leq=>some (.bool (decide (a<=b)))
 | .gtr=>some (.bool (decide (b<a)))
 | .geq=>some (.bool (decide (b<=a)))
 | .and=>some (.int k (bitI .and k a b))
 | .or=>some (.int k (bitI .or k a b))
 | .xor=>some (.int k (bitI .xor k a b))
 | .andNot=>some (.int k (bitI .andNot k a b))
 | _=>none
def Zc4 (op:BinOp) (a b:List UInt8):Option D :=
 match op with
 | .add=>if a.length+b.length<=4611686018427387904 then some (.str (a++b)) else none
 | .eql=>some (.bool (decide (a=b)))
 | .neq=>some (.bool (!decide (a=b)))
 | .lss=>some (.bool (Op.bytesLess a b))
 | .leq=>some (.bool (Op.bytesLess a b || decide (a=b)))
 | .gtr=>some (.bool (!(Op.bytesLess a b || decide (a=b))))
 | .geq=>some (.bool (!Op.bytesLess a b))
 | _=>none
def isBy:List (List D)->Bool
 | []=>true
 | [.int .u8 n]::r=>decide (0<=n) && decide (n<256) && isBy r
 | _=>false
theorem Z2S: ∀ {es:List (List D)},isBy es=true->es=byC (ZX es)
 | [],_=>rfl
 | e::r,h=>by
  unfold isBy at h
  split at h
  ·rename_i heq; cases heq
  ·rename_i n r' heq
   cases heq
   simp only[Bool.and_eq_true,decide_eq_true_eq] at h
   have ih:=Z2S h.2
   have e1:((UInt8.ofNat n.toNat).toNat:Int)=n:=by
    rw[UInt8.toNat_ofNat_of_lt' (by show _<256; omega)]; omega
   simp only[ZX,byC,List.map_cons] at ih ⊢
   rw[e1,<- ih]
  ·cases h
def one1 (d:Option D):Option (D × Option Ob):=match d with
 | some d=>some (d,none)
 | none=>none
def ZbW (dst:Nat):D->D × Option Ob
 | .own sz e es=>(.vec dst,some (.arr true sz e es))
 | r=>(r,none)
def evE (fn:FuncId->List D->Option D) (dst:Nat) (o:AOp) (xs:List D) (obs:Nat->Option Ob):Option (D × Option Ob) :=
 match o,xs with
 | .mv,[d]=>some (d,none)
 | .pick,[.bool c,a,b]=>some (if c then a else b,none)
 | .bin op,[.int k a,.int k' b]=>if k=k' then one1 (Zc6 op k a b) else none
 | .bin op,[.str a,.str b]=>one1 (Zc4 op a b)
 | .binb .eql,[.bool a,.bool b]=>some (.bool (a == b),none)
 | .binb .neq,[.bool a,.bool b]=>some (.bool (!(a == b)),none)
 | .un .not,[.bool a]=>some (.bool (!a),none)
 | .un .neg,[.int k a]=>some (.int k (k.wrap (0-a)),none)
 | .conv k,[.int _ n]=>some (.int k (k.wrap n),none)
 | .len true,[.str s]=>some (.int .i64 s.length,none)
 | .len false,[.slice es _]=>some (.int .i64 es.length,none)
 | .len false,[.nils]=>some (.int .i64 0,none)
 | .len false,[.vec id]=>match obs id with
  | some (.arr _ _ _ es)=>some (.int .i64 es.length,none)
  | _=>none
 | .box,[d]=>if D.okc d=true then some (.ptr dst 0,some (.cells d.cells)) else none
 | .alloc z,[]=>some (.ptr dst 0,some (.cells z))
 | .build z ps,ds=>match Qf obs z ps ds with
  | some cs=>some (.agg cs,none)
  | none=>none
 | .bslice fz sz n e z ps,ds=>match Qf obs z ps ds with
  | some cs=>if cs.all D.pur=true then some (.vec dst,some (.arr fz sz e (Z2F sz n cs))) else none
  | none=>none
 | .load agg sz,[.ptr id off]=>match obs id with
  | some (.cells cs)=>match agg with
   | true=>if off+sz<=cs.length then some (.agg (((cs.drop off).take sz).map (dv obs)),none) else none
   | false=>match cs[off]? with
    | some d=>some (d,none)
    | none=>none
  | _=>none
 | .load agg sz,[.fptr cs]=>match agg with
  | true=>if sz<=cs.length then some (.agg (cs.take sz),none) else none
  | false=>match cs with
   | d::_=>some (d,none)
   | []=>none
 | .load agg sz,[.vptr id i j sz']=>match obs id with
  | some (.arr false sz2 _ es)=>if sz2=sz'/\j+sz<=sz' then (match es[i]? with
   | some cs=>(match agg with
    | true=>some (.agg ((cs.drop j).take sz),none)
    | false=>match cs[j]? with
     | some d=>some (d,none)
     | none=>none)
   | none=>none) else none
  | _=>none
 | .faddr off,[.ptr id o]=>some (.ptr id (o+off),none)
 | .faddr off,[.fptr cs]=>some (.fptr (cs.drop off),none)
 | .faddr off,[.vptr id i j sz]=>some (.vptr id i (j+off) sz,none)
 | .field off agg sz,[.agg cs]=>match agg with
  | true=>if off+sz<=cs.length then some (.agg ((cs.drop off).take sz),none) else none
  | false=>match cs[off]? with
   | some d=>some (d,none)
   | none=>none
 | .iaddr sz,[.slice es _,.int _ n]=>if 0<=n/\n<es.length/\(es.getD n.toNat []).length=sz then some (.fptr (es.getD n.toNat []),none) else none
 | .iaddr sz,[.vec id,.int _ n]=>match obs id with
  | some (.arr true _ _ es)=>if 0<=n/\n<es.length/\(es.getD n.toNat []).length=sz then some (.fptr (es.getD n.toNat []),none) else none
  | some (.arr false sz' _ es)=>if sz'=sz/\0<=n/\n<es.length then some (.vptr id n.toNat 0 sz,none) else none
  | _=>none
 | .index,[.str s,.int _ n]=>if 0<=n/\n<s.length then some (.int .u8 (s.getD n.toNat 0).toNat,none) else none
 | .sliceS lo hi,.str s::bs=>match Qr lo hi s.length bs with
  | some (a,b)=>if 0<=a/\a<=b/\b<=s.length then some (.str ((s.take b.toNat).drop a.toNat),none) else none
  | none=>none
 | .slice sz lo hi,d::bs=>match Qj obs d with
  | some (es,ext)=>match Qr lo hi es.length bs with
   | some (a,b)=>if ((es++ext).all fun q=>q.length == sz)=true/\0<=a/\a<=b/\b<=(es++ext).length then some (.slice (((es++ext).take b.toNat).drop a.toNat) ((es++ext).drop b.toNat),none) else none
   | none=>none
  | none=>(match d,bs with
   | .vec id,[.int _ n]=>(match lo,hi with
    | true,false=>(match obs id with
     | some (.arr false sz' _ es)=>if sz'=sz/\es.isEmpty=false/\0<=n/\n<=es.length then some (.vwin id n.toNat sz,none) else none
     | _=>none)
    | _,_=>none)
   | _,_=>none)
 | .extract i,[.tuple ds]=>match ds[i]? with
  | some d=>some (d,none)
  | none=>none
 | .call f,ds=>match fn f (ds.map (dv obs)) with
  | some r=>some (ZbW dst r)
  | none=>none
 | .nilck,[d]=>if D.nn d=true then some (d,none) else none
 | .eqs neg ks,[.agg a,.agg b]=>match Zs ks a b with
  | some r=>some (.bool (match neg with | true=> !r | false=>r),none)
  | none=>none
 | .mks fz sz e z bt,[.int _ n]=>if z.all D.pur=true/\0<=n/\n*bt<=281474976710656/\n<=1073741824 then some (.vec dst,some (.arr fz sz e (List.replicate n.toNat z))) else none
 | .mke fz sz e bt,[.int _ n]=>if 0<=n/\n*bt<=281474976710656/\n<=1073741824 then some (.vec dst,some (.arr fz sz e [])) else none
 | .b2s,[d]=>match Z1f obs d with
  | some es=>if isBy es=true then some (.str (ZX es),none) else none
  | none=>none
 | .nilv fz sz e,[.nils]=>if 0<sz then some (.vec dst,some (.arr fz sz e [])) else none
 | .mkfn f n,ds=>if n<=ds.length then some (.func f (ds.take n) (ds.drop n),none) else none
 | .eqn op kd,[a,b]=>match eqD kd a b with
  | some r=>match op with
   | .eql=>some (.bool r,none)
   | .neq=>some (.bool (!r),none)
   | _=>none
  | none=>none
 | .iaddrA len sz,[.fptr cs,.int _ n]=>if 0<=n/\n<len then some (.fptr (cs.drop (n.toNat*sz)),none) else none
 | .iaddrA len sz,[.ptr id off,.int _ n]=>if 0<=n/\n<len then some (.ptr id (off+n.toNat*sz),none) else none
 | .mm big,.int k a::ds=>match mmI big k a ds with
  | some r=>some (.int k r,none)
  | none=>none
 | .sh left,[.int k a,.int _ b]=>if 0<=b then some (.int k (shI left k a b),none) else none
 | .mkmap,[]=>some (.map dst,some (.gen (.map []) []))
 | .mkmapC,[]=>some (.map dst,some (.gen (.mapC [] []) []))
 | .ext k,xs=>match extD k xs obs with
  | some d=>some (d,none)
  | none=>none
 | .mlook kd z,[.map id,key]=>match obs id with
  | some (.gen (.map ks) ds)=>if isKD kd key=true then (match Z1y key ks ds with
   | some r=>some (r.getD z,none)
   | none=>none) else none
  | _=>none
 | _,_=>none
section
variable {P:Program} {fn:FuncId->List D->Option D} {dst:Nat} {obs:Nat->Option Ob} {K:D->Option Ob->Prop}
theorem Z2u {op:BinOp} {k:IntKind} {a b:Int} {d:D} {K:D->Prop} (h:Zc6 op k a b=some d) (hk:K d):binI op k a b K:=by
 cases op <;> simp only[Zc6,Option.some.injEq,reduceCtorEq] at h <;> simp only[binI] <;> first | (subst h; exact hk) | (split at h; cases h; simp only[Option.some.injEq] at h; subst h; exact⟨by assumption,hk⟩)
theorem Z2t {op:BinOp} {a b:List UInt8} {d:D} {K:D->Prop} (h:Zc4 op a b=some d) (hk:K d):binS op a b K:=by
 cases op <;> simp only[Zc4,Option.some.injEq,reduceCtorEq] at h <;> simp only[binS] <;> first | (subst h; exact hk) | (split at h; simp only[Option.some.injEq] at h; subst h; exact⟨by assumption,hk⟩; cases h)
theorem Z4k {x:Option D} {d:D} {nb:Option Ob} (h:one1 x=some (d,nb)):x=some d/\nb=none:=by
 unfold one1 at h
 split at h
 ·simp only[Option.some.injEq,Prod.mk.injEq] at h; exact⟨by rw[h.1],h.2.symm⟩
 ·cases h
theorem Zgd {d d':D} {nb:Option Ob} (h:evE fn dst .b2s [d'] obs=some (d,nb)) (hk:K d nb):evl P dst .b2s [d'] obs K:=by
 simp only[evE] at h
 simp only[evl]
 cases hq:Z1f obs d' with
 | none=>rw[hq] at h; cases h
 | some es =>
  rw[hq] at h
  simp only at h ⊢
  split at h
  ·rename_i hb
   simp only[Option.some.injEq,Prod.mk.injEq] at h
   obtain⟨rfl,rfl⟩:=h
   exact⟨Z2S hb,hk⟩
  ·cases h
theorem Zgc {agg:Bool} {sz id i j sz':Nat} {d:D} {nb:Option Ob} (h:evE fn dst (.load agg sz) [.vptr id i j sz'] obs=some (d,nb)) (hk:K d nb):evl P dst (.load agg sz) [.vptr id i j sz'] obs K:=by
 simp only[evE] at h
 simp only[evl]
 cases hq:obs id with
 | none=>rw[hq] at h; cases h
 | some o =>
  rw[hq] at h
  cases o with
  | cells _=>cases h
  | gen _ _=>cases h
  | arr fz sz2 e es =>
   cases fz with
   | true=>cases h
   | false =>
    simp only at h ⊢
    split at h
    ·rename_i hc
     refine⟨hc.1,hc.2, ?_⟩
     cases hi:es[i]? with
     | none=>rw[hi] at h; cases h
     | some cs =>
      rw[hi] at h
      cases agg with
      | true=>simp only[Option.some.injEq,Prod.mk.injEq] at h; obtain⟨rfl,rfl⟩:=h; exact hk
      | false =>
       simp only[Bool.false_eq_true,if_false] at h ⊢
       cases hj:cs[j]? with
       | none=>rw[hj] at h; cases h
       | some d=>rw[hj] at h; simp only[Option.some.injEq,Prod.mk.injEq] at h; obtain⟨rfl,rfl⟩:=h; exact hk
    ·cases h
theorem Z9q {kd:Option IntKind} {z key:D} {id:Nat} {d:D} {nb:Option Ob} (h:evE fn dst (.mlook kd z) [.map id,key] obs=some (d,nb)) (hk:K d nb):evl P dst (.mlook kd z) [.map id,key] obs K:=by
 simp only[evE] at h
 simp only[evl]
 cases hq:obs id with
 | none=>rw[hq] at h; cases h
 | some o =>
  rw[hq] at h
  cases o with
  | cells _=>cases h
  | arr _ _ _ _=>cases h
  | gen g ds =>
   cases g with
   | loop=>cases h
   | mapC=>cases h
   | mapB=>cases h
   | mapS=>cases h
   | iter=>cases h
   | map ks =>
    simp only at h ⊢
    split at h
    ·rename_i hc
     refine⟨hc, ?_⟩
     cases hf:Z1y key ks ds with
     | none=>rw[hf] at h; cases h
     | some r=>rw[hf] at h; simp only[Option.some.injEq,Prod.mk.injEq] at h; obtain⟨rfl,rfl⟩:=h; exact hk
    ·cases h
theorem Zlv {sz:Nat} {lo hi:Bool} {d:D} {bs:List D} {r:D} {nb:Option Ob} (h:evE fn dst (.slice sz lo hi) (d::bs) obs=some (r,nb)) (hk:K r nb):evl P dst (.slice sz lo hi) (d::bs) obs K:=by
 simp only[evE] at h
 simp only[evl]
 cases hs:Qj obs d with
 | some p =>
  obtain⟨es,ext⟩:=p
  rw[hs] at h
  simp only at h ⊢
  cases hb:Qr lo hi es.length bs with
  | none=>rw[hb] at h; cases h
  | some q =>
   obtain⟨a,b⟩:=q
   rw[hb] at h
   simp only at h ⊢
   split at h
   ·rename_i hc
    simp only[Option.some.injEq,Prod.mk.injEq] at h
    obtain⟨rfl,rfl⟩:=h
    refine⟨?_,hc.2.1,hc.2.2.1,hc.2.2.2,hk⟩
    have:=hc.1
    simp only[List.all_eq_true,beq_iff_eq] at this
    exact this
   ·cases h
 | none =>
  rw[hs] at h
  simp only at h ⊢
  split at h
  ·split at h
   ·split at h
    ·rename_i heq
     simp only[heq]
     split at h
     ·rename_i hc
      simp only[Option.some.injEq,Prod.mk.injEq] at h
      obtain⟨rfl,rfl⟩:=h
      exact⟨hc.1,fun e=>(by rw[e] at hc; simp at hc),hc.2.2.1,hc.2.2.2,hk⟩
     ·cases h
    ·cases h
   ·cases h
  ·cases h
theorem QM (hfn: ∀ f az r,fn f az=some r->FnOK P f az r) {op:AOp} {xs:List D} {d:D} {nb:Option Ob} (h:evE fn dst op xs obs=some (d,nb)) (hk:K d nb):evl P dst op xs obs K:=by
 by_cases hb:op= .b2s/\ ∃ d,xs=[d]
 ·obtain⟨rfl,d,rfl⟩:=hb; exact Zgd h hk
 by_cases hl:(∃ a s,op= .load a s)/\ ∃ a b c d,xs=[.vptr a b c d]
 ·obtain⟨⟨_,_,rfl⟩,_,_,_,_,rfl⟩:=hl; exact Zgc h hk
 by_cases hlm:(∃ a s,op= .mlook a s)/\ ∃ a b,xs=[.map a,b]
 ·obtain⟨⟨_,_,rfl⟩,_,_,rfl⟩:=hlm; exact Z9q h hk
 by_cases hsl:(∃ sz lo hi,op= .slice sz lo hi)/\ ∃ d bs,xs=d::bs
 ·obtain⟨⟨_,_,_,rfl⟩,_,_,rfl⟩:=hsl; exact Zlv h hk
 unfold evE at h
 split at h
 all_goals try exact absurd ⟨⟨_,_,_,rfl⟩,_,_,rfl⟩ hsl
 all_goals try exact absurd ⟨rfl,_,rfl⟩ hb
 all_goals try exact absurd ⟨⟨_,_,rfl⟩,_,_,_,_,rfl⟩ hl
 all_goals try exact absurd ⟨⟨_,_,rfl⟩,_,_,rfl⟩ hlm
 all_goals clear hb hl hlm
 all_goals try simp only[evl]
 all_goals first
  | (simp only[Option.some.injEq,Prod.mk.injEq] at h; obtain⟨rfl,rfl⟩:=h; exact hk)
  | (cases h; done)
  | (obtain⟨h1,rfl⟩:=Z4k h; exact Z2t h1 hk)
  | (
   split at h
   ·rename_i hc; obtain⟨h1,rfl⟩:=Z4k h; exact⟨hc,Z2u h1 hk⟩
   ·cases h)
  | (
   split at h
   ·rename_i r hr
    refine⟨r,hfn _ _ _ hr, ?_⟩
    simp only[Option.some.injEq] at h
    cases r <;> (simp only[ZbW,Prod.mk.injEq] at h; obtain⟨rfl,rfl⟩:=h; exact hk)
   ·cases h)
  | skip
 all_goals
  repeat' split at h
 all_goals first
  | (cases h; done)
  | skip
 all_goals try (simp only[Option.some.injEq,Prod.mk.injEq] at h; obtain⟨rfl,rfl⟩:=h)
 all_goals first
  | exact hk
  | exact⟨by assumption,hk⟩
  | (simp[*]; done)
  | (rename_i hc; exact⟨hc.1,hc.2,hk⟩)
  | (rename_i hc; exact⟨hc.1,hc.2.1,hc.2.2,hk⟩)
  | (simp only[*]; exact hk)
  | (simp only[*]; exact⟨by assumption,hk⟩)
  | (rename_i hc; simp only[*]; exact⟨hc.1,hc.2.1,hc.2.2,hk⟩)
  | skip
 all_goals first
  | (rename_i cs heq agg hle; rw[heq]; exact⟨hle,hk⟩)
  | (rename_i sz e es heq hc; rw[heq]; exact⟨hc.1,hc.2.1,hc.2.2,hk⟩)
  | (rename_i hc; exact⟨hc.1,hc.2.1,hc.2.2.1,hc.2.2.2,hk⟩)
  | (rename_i r heq; rw[heq]; cases ‹Bool› <;> exact hk)
  | (
   rename_i es ext heq1 x2 a b heq hc
   rw[heq1]
   simp only[heq]
   refine⟨?_,hc.2.1,hc.2.2.1,hc.2.2.2,hk⟩
   have:=hc.1
   simp only[List.all_eq_true,beq_iff_eq] at this
   exact this)
end
def gudE {α:Type} (g:Option (Nat × Bool)) (s:St) (body skip:Option α):Option α :=
 match g with
 | none=>body
 | some (t,want)=>match lk s.tm t with
  | some (.bool b)=>if b=want then body else skip
  | some (.tuple [])=>skip
  | _=>none
theorem ZP {α:Type} {g:Option (Nat × Bool)} {s:St} {body skip:Option α} {x:α} (h:gudE g s body skip=some x) {p q:Prop} (hp:body=some x->p) (hq:skip=some x->q):gud g s p q:=by
 cases g with
 | none=>exact hp h
 | some gw =>
  obtain⟨t,w⟩:=gw
  simp only[gudE] at h
  simp only[gud]
  split at h
  ·rename_i b0 heq
   rw[heq]
   simp only
   split at h
   ·rename_i hb; rw[if_pos hb]; exact hp h
   ·rename_i hb; rw[if_neg hb]; exact hq h
  ·rename_i heq; rw[heq]; exact hq h
  ·cases h
def Z10 (s:St) (ds:List D):List Nat:=(ZjP s.ob (D.collL ds [])).filter fun i=>(lk s.ob i).isSome
def Z03:List Nat->Bool
 | []=>true
 | i::r=> !(r.contains i) && Z03 r
theorem Zm: ∀ {l:List Nat},Z03 l=true->l.Nodup
 | [],_=>List.nodup_nil
 | i::r,h=>by
  simp only[Z03,Bool.and_eq_true,Bool.not_eq_true'] at h
  refine List.nodup_cons.2 ⟨fun hm=> ?_,Zm h.2⟩
  rw[List.contains_iff_mem.2 hm] at h; exact absurd h.1 (by simp)
theorem ZB {s:St} {ds:List D}: ∀ i∈Z10 s ds,(lk s.ob i).isSome:=fun i hi=>by
 have:=(List.mem_filter.1 hi).2
 simpa using this
abbrev Z2G:=D->List D->Obs->Option (D × Obs)
def hasE (cl:Z2G) (fn:FuncId->List D->Option D) (b:Nat) (o:SOp) (s:St):Option Eff :=
 match o with
 | .a dst g op xs=>gudE g s (match evE fn (b+dst.getD 0) op (xs.map s.get) (lk s.ob) with
   | some (d,none)=>some ⟨rdA (lk s.ob) op (xs.map s.get),dst.map (·,d),[],none⟩
   | some (d,some ob)=>if dst.isSome then some ⟨rdA (lk s.ob) op (xs.map s.get),dst.map (·,d),[(b+dst.getD 0,some ob)],none⟩ else none
   | none=>none) (some ⟨[],dst.map (·,.nov),[],none⟩)
 | .st g sz x y=>gudE g s (match stO (sz.at s) (s.get x) (s.get y) (lk s.ob) with
   | some (a,b,id,o)=>if a<b then some ⟨[id],none,[(id,some o)],none⟩ else none
   | none=>none) (some ⟨[],none,[],none⟩)
 | .app dst g fz sz et x y=>gudE g s (match Z2y (lk s.ob) (s.get y) with
   | some (ys,_)=>if (ys.all fun q=>q.length == sz)=true then (match s.get x with
    | .nils=>if ys.length<=1073741824 then some ⟨vids [s.get y],some (dst,.vec (b+dst)),[(b+dst,some (.arr fz sz et ys))],none⟩ else none
    | .vec id=>match lk s.ob id with
     | some (.arr fz' sz' e' es)=>if sz'=sz/\e'=et/\es.length+ys.length<=1073741824 then some ⟨id::vids [s.get y],some (dst,.vec (b+dst)),[(b+dst,some (.arr fz' sz et (es++ys))),(id,none)],none⟩ else none
     | _=>none
    | _=>none) else none
   | none=>none) (some ⟨[],some (dst,.nov),[],none⟩)
 | .cd dst g x xs=>gudE g s
   (
    let az:=xs.map fun y=>dva (s.get x) (lk s.ob) (s.get y)
    let nm:=Z10 s (s.get x::az)
    if Z03 nm=true then (match cl ((s.get x).ren (idx · nm)) (az.map (D.ren (idx · nm))) (ZI s.ob (idx · nm) 0 nm) with
     | some (r,ob')=>if r.isPan=true then none else some ⟨nm++vids (xs.map s.get),dst.map (·,r.ren (bkN (s.base b) nm)),(renO (fun j=>match nm[j]? with | some i=>i | none=>s.base b+j) (bkN (s.base b) nm) ob').map (fun p=>(p.1,some p.2))++nm.map (·,none),some (s.base b)⟩
     | none=>none) else none)
   (some ⟨[],dst.map (·,.nov),[],none⟩)
theorem Z7D {P:Program} {cl:Z2G} {fn:FuncId->List D->Option D} (hfn: ∀ f az r,fn f az=some r->FnOK P f az r) (hcl: ∀ d az ob r ob',cl d az ob=some (r,ob')->CallL P d az ob fun r0 ob0=>r0=r/\ob0=ob') {b:Nat} {o:SOp} {s:St} {e:Eff}
  (h:hasE cl fn b o s=some e):Has P b o s e/\(∀ q,e.cd=some q->s.top<=q):=by
 have hcd: ∀ q,e.cd=some q->s.top<=q:=by
  have key: ∀ {g:Option (Nat × Bool)} {body skip:Option Eff},gudE g s body skip=some e->(body=some e-> ∀ q,e.cd=some q->s.top<=q)->(skip=some e->e.cd=none)-> ∀ q,e.cd=some q->s.top<=q:=fun {g body skip} h h1 h2=>by
   have:=ZP h (p:= ∀ q,e.cd=some q->s.top<=q) (q:=e.cd=none) h1 h2
   cases g with
   | none=>exact this
   | some gw =>
    obtain⟨t,w⟩:=gw
    simp only[gud] at this
    split at this
    ·split at this
     ·exact this
     ·intro q hq; rw[this] at hq; cases hq
    ·intro q hq; rw[this] at hq; cases hq
    ·exact this.elim
  cases o with
  | a dst g op xs =>
   refine key h (fun hb q hq=> ?_) (fun hs=>by cases hs; rfl)
   split at hb
   ·cases hb; cases hq
   ·split at hb
    ·cases hb; cases hq
    ·cases hb
   ·cases hb
  | st g sz x y =>
   refine key h (fun hb q hq=> ?_) (fun hs=>by cases hs; rfl)
   split at hb
   ·split at hb
    ·cases hb; cases hq
    ·cases hb
   ·cases hb
  | app dst g fz sz et x y =>
   refine key h (fun hb q hq=> ?_) (fun hs=>by cases hs; rfl)
   split at hb
   ·split at hb
    ·split at hb
     ·split at hb
      ·cases hb; cases hq
      ·cases hb
     ·split at hb
      ·split at hb
       ·cases hb; cases hq
       ·cases hb
      ·cases hb
     ·cases hb
    ·cases hb
   ·cases hb
  | cd dst g x xs =>
   refine key h (fun hb q hq=> ?_) (fun hs=>by cases hs; rfl)
   simp only at hb
   split at hb
   ·split at hb
    ·split at hb
     ·cases hb
     ·cases hb; cases hq; exact Nat.le_max_right _ _
    ·cases hb
   ·cases hb
 refine⟨?_,hcd⟩
 cases o with
 | a dst g op xs =>
  refine ZP h (fun hb=> ?_) (fun hs=>by cases hs; rfl)
  split at hb
  ·rename_i d hev
   cases hb
   exact⟨rfl,rfl,QM hfn hev ⟨rfl,rfl⟩⟩
  ·rename_i d ob hev
   split at hb
   ·rename_i hds
    cases hb
    exact⟨rfl,rfl,QM hfn hev ⟨rfl,hds,rfl⟩⟩
   ·cases hb
  ·cases hb
 | st g sz x y =>
  refine ZP h (fun hb=> ?_) (fun hs=>by cases hs; rfl)
  simp only[HasB]
  split at hb
  ·rename_i a1 b1 id ob hst
   split at hb
   ·rename_i hc
    cases hb
    simp only[hst]
    exact⟨hc,trivial⟩
   ·cases hb
  ·cases hb
 | app dst g fz sz et x y =>
  refine ZP h (fun hb=> ?_) (fun hs=>by cases hs; rfl)
  simp only[HasB]
  split at hb
  ·rename_i ys ext hso
   split at hb
   ·rename_i hall
    simp only[hso]
    refine⟨by simpa using hall, ?_⟩
    split at hb
    ·rename_i hx
     split at hb
     ·cases hb; simp only[hx]; exact⟨by assumption,trivial⟩
     ·cases hb
    ·rename_i id hx
     split at hb
     ·rename_i fz' sz' e' es hl
      split at hb
      ·rename_i hc; cases hb; simp only[hx,hl]; exact⟨hc.1,hc.2.1,hc.2.2,trivial⟩
      ·cases hb
     ·cases hb
    ·cases hb
   ·cases hb
  ·cases hb
 | cd dst g x xs =>
  refine ZP h (fun hb=> ?_) (fun hs=>by cases hs; rfl)
  simp only at hb
  split at hb
  ·rename_i hnd
   split at hb
   ·rename_i r ob' hc
    split at hb
    ·cases hb
    ·rename_i hpn
     cases hb
     exact⟨_,r,ob',_,Zm hnd,ZB,Nat.le_max_left _ _,hcl _ _ _ _ _ hc,by simpa using hpn,rfl⟩
   ·cases hb
  ·cases hb
def opE (cl:Z2G) (fn:FuncId->List D->Option D) (b:Nat) (o:SOp) (s:St):Option St :=
 match o with
 | .a dst g op xs=>gudE g s (match evE fn (b+dst.getD 0) op (xs.map s.get) (lk s.ob) with
   | some (d,none)=>some (s.put dst d)
   | some (d,some ob)=>match dst with
    | some t=>if s.clean (b+t)=true then some (s.put2 t (b+t) d ob) else none
    | none=>none
   | none=>none) (some (s.put dst .nov))
 | .st g sz x y=>gudE g s (match stO (sz.at s) (s.get x) (s.get y) (lk s.ob) with
   | some (a,b,id,o)=>if a<b then some { s with ob:=(id,o)::Z6 id s.ob } else none
   | none=>none) (some s)
 | .app dst g fz sz et x y=>gudE g s (match Z2y (lk s.ob) (s.get y) with
   | some (ys,_)=>if (ys.all fun q=>q.length == sz)=true then (match s.get x with
    | .nils=>if ys.length<=1073741824/\s.clean (b+dst)=true then some (s.put2 dst (b+dst) (.vec (b+dst)) (.arr fz sz et ys)) else none
    | .vec id=>match lk s.ob id with
     | some (.arr fz' sz' e' es)=>if sz'=sz/\e'=et/\es.length+ys.length<=1073741824/\s.clean (b+dst)=true then some (St.put2 ⟨s.tm,Z6 id s.ob⟩ dst (b+dst) (.vec (b+dst)) (.arr fz' sz et (es++ys))) else none
     | _=>none
    | _=>none) else none
   | none=>none) (some (s.put (some dst) .nov))
 | .cd dst g x xs=>gudE g s
   (
    let az:=xs.map fun y=>dva (s.get x) (lk s.ob) (s.get y)
    let nm:=Z10 s (s.get x::az)
    if Z03 nm=true then (match cl ((s.get x).ren (idx · nm)) (az.map (D.ren (idx · nm))) (ZI s.ob (idx · nm) 0 nm) with
     | some (r,ob')=>if r.isPan=true then none else some ((s.back (s.base b) nm ob').put dst (r.ren (bkN (s.base b) nm)))
     | none=>none) else none)
   (some (s.put dst .nov))
theorem Z8O {P:Program} {cl:Z2G} {fn:FuncId->List D->Option D} (hfn: ∀ f az r,fn f az=some r->FnOK P f az r) (hcl: ∀ d az ob r ob',cl d az ob=some (r,ob')->CallL P d az ob fun r0 ob0=>r0=r/\ob0=ob') {b:Nat} {o:SOp} {s s':St} {K:St->Prop}
  (h:opE cl fn b o s=some s') (hk:K s'):stp P b o s K:=by
 cases o with
 | a dst g op xs =>
  refine ZP h (fun hb=> ?_) (fun hs=>by cases hs; exact hk)
  split at hb
  ·rename_i d hev
   cases hb
   exact QM hfn hev hk
  ·rename_i d ob hev
   split at hb
   ·split at hb
    ·rename_i hcl'
     cases hb
     exact QM hfn hev ⟨hcl',hk⟩
    ·cases hb
   ·cases hb
  ·cases hb
 | st g sz x y =>
  refine ZP h (fun hb=> ?_) (fun hs=>by cases hs; exact hk)
  split at hb
  ·rename_i a1 b1 id ob hst
   split at hb
   ·rename_i hc
    cases hb
    simp only[hst]
    exact⟨hc,hk⟩
   ·cases hb
  ·cases hb
 | app dst g fz sz et x y =>
  refine ZP h (fun hb=> ?_) (fun hs=>by cases hs; exact hk)
  split at hb
  ·rename_i ys ext hso
   split at hb
   ·rename_i hall
    simp only[hso]
    refine⟨by simpa using hall, ?_⟩
    split at hb
    ·rename_i hx
     split at hb
     ·rename_i hc; cases hb; simp only[hx]; exact⟨hc.1,hc.2,hk⟩
     ·cases hb
    ·rename_i id hx
     split at hb
     ·rename_i fz' sz' e' es hl
      split at hb
      ·rename_i hc; cases hb; simp only[hx,hl]; exact⟨hc.1,hc.2.1,hc.2.2.1,hc.2.2.2,hk⟩
      ·cases hb
     ·cases hb
    ·cases hb
   ·cases hb
  ·cases hb
 | cd dst g x xs =>
  refine ZP h (fun hb=> ?_) (fun hs=>by cases hs; exact hk)
  simp only at hb
  split at hb
  ·rename_i hnd
   split at hb
   ·rename_i r ob' hc
    split at hb
    ·cases hb
    ·rename_i hpn
     cases hb
     exact⟨_,_,_,Zm hnd,ZB,Nat.le_max_left _ _,Nat.le_max_right _ _,hcl _ _ _ _ _ hc,by rintro r0 ob0 ⟨rfl,rfl⟩; exact⟨by simpa using hpn,hk⟩⟩
   ·cases hb
  ·cases hb
def opsE (cl:Z2G) (fn:FuncId->List D->Option D) (b:Nat):List SOp->St->Option St
 | [],s=>some s
 | o::r,s=>match opE cl fn b o s with
  | some s'=>opsE cl fn b r s'
  | none=>none
theorem QL {P:Program} {cl:Z2G} {fn:FuncId->List D->Option D} (hfn: ∀ f az r,fn f az=some r->FnOK P f az r) (hcl: ∀ d az ob r ob',cl d az ob=some (r,ob')->CallL P d az ob fun r0 ob0=>r0=r/\ob0=ob') {b:Nat} :
  ∀ {ops:List SOp} {s s':St} {K:St->Prop},opsE cl fn b ops s=some s'->K s'->stps P b ops s K
 | [],s,s',K,h,hk=>by cases h; exact hk
 | o::r,s,s',K,h,hk=>by
  simp only[opsE] at h
  split at h
  ·rename_i s1 h1
   exact Z8O hfn hcl h1 (QL hfn hcl h hk)
  ·cases h
theorem Z0M {P:Program} {b:Nat} {o:SOp} {s:St} {K K':St->Prop} (h:stp P b o s K) (hk: ∀ s,K s->K' s):stp P b o s K':=by
 cases o with
 | a dst g op xs =>
  refine ZO (fun hb=>Z3J hb fun d nb hq=> ?_) (hk _) h
  cases nb with
  | none=>exact hk _ hq
  | some ob=>cases dst with
   | none=>exact hq
   | some t=>exact⟨hq.1,hk _ hq.2⟩
 | st g sz x y =>
  refine ZO (fun hb=> ?_) (hk _) h
  split at hb
  ·exact⟨hb.1,hk _ hb.2⟩
  ·exact hb.elim
 | app dst g fz sz e x y =>
  refine ZO (fun hb=> ?_) (hk _) h
  split at hb
  ·rename_i ys ext hso
   refine⟨hb.1, ?_⟩
   have h2:=hb.2
   split at h2
   ·exact⟨h2.1,h2.2.1,hk _ h2.2.2⟩
   ·rename_i id hx
    split at h2
    ·exact⟨h2.1,h2.2.1,h2.2.2.1,h2.2.2.2.1,hk _ h2.2.2.2.2⟩
    ·exact h2.elim
   ·exact h2.elim
  ·exact hb.elim
 | cd dst g x xs =>
  refine ZO (fun hb=> ?_) (hk _) h
  obtain⟨nm,R,base,h1,h2,h3,h4,h5,h6⟩:=hb
  exact⟨nm,R,base,h1,h2,h3,h4,h5,fun r ob' hr=>⟨(h6 r ob' hr).1,hk _ (h6 r ob' hr).2⟩⟩
theorem Z09 {P:Program} {b:Nat}: ∀ {ops:List SOp} {s:St} {K K':St->Prop},stps P b ops s K->(∀ s,K s->K' s)->stps P b ops s K'
 | [],_,_,_,h,hk=>hk _ h
 | o::r,_,_,_,h,hk=>Z0M (o:=o) h fun _ hs=>Z09 (ops:=r) hs hk
def canE (cl:Z2G) (fn:FuncId->List D->Option D) (b:Nat):List SOp->St->Option (List Eff × St)
 | [],s=>some ([],s)
 | o::r,s=>match hasE cl fn b o s with
  | some e=>match canE cl fn b r (s.app e) with
   | some (es,s')=>some (e::es,s')
   | none=>none
  | none=>none
theorem Z3a {P:Program} {cl:Z2G} {fn:FuncId->List D->Option D} (hfn: ∀ f az r,fn f az=some r->FnOK P f az r) (hcl: ∀ d az ob r ob',cl d az ob=some (r,ob')->CallL P d az ob fun r0 ob0=>r0=r/\ob0=ob') {b:Nat} :
  ∀ {ops:List SOp} {s s':St} {es:List Eff},canE cl fn b ops s=some (es,s')->Z4K P b ops s es s'
 | [],s,s',es,h=>by simp only[canE,Option.some.injEq,Prod.mk.injEq] at h; obtain⟨rfl,rfl⟩:=h; rfl
 | o::r,s,s',es,h=>by
  simp only[canE] at h
  split at h
  ·rename_i e he
   split at h
   ·rename_i es' s'' hc
    simp only[Option.some.injEq,Prod.mk.injEq] at h
    obtain⟨rfl,rfl⟩:=h
    exact⟨(Z7D hfn hcl he).1,Z3a hfn hcl hc⟩
   ·cases h
  ·cases h
end Go.Sx
/- DEFERRED CALLS,RECOVERY. -/
namespace Go.Sx
open Go.RowKit
variable [Globs] [Codes]
section
variable {F:Fence} {n:Nat} {P:Program}
def recS (cs:List Frame):Value × List Frame:=match recoverD cs with
 | some x=>x
 | none=>(.nilIface,cs)
theorem Zbh {cs:List Frame}:(recS cs).2.length=cs.length:=by
 unfold recS
 split
 ·rename_i x hx; exact recoverD_length (v:=x.1) (cs':=x.2) hx
 ·rfl
theorem Z3c (hF:Fence.Open F) (hround:F.round=none) {id t:Nat} {ops:Array Oper} {o:Oper} {rest:List Oper} (hops:ops.toList=o::rest) {c:Call} (ho:o.op= .call c) (hc:c.callee= .builtin .recover) (hd:o.dst=some t) (hg0:o.guard=none)
  {Q:Exit->Act->List Frame->World->Prop} {a:Act} {cs:List Frame} {w:World}
  (h:wpListIn F n P ops (fun e a' w'=>Q e a' (recS cs).2 w') rest (a.put (some t) (recS cs).1) w):(Code.region id ops false).wpSIn F n P Q a cs w:=by
 intro b k hb hro hFb hroom
 have hsz:ops.size=rest.length+1:=by rw[<- Array.length_toList,hops]; rfl
 have ho0:ops[0]? = some o:=by rw[<- Array.getElem?_toList,hops]; rfl
 have hrange:List.range ops.size=0::List.range' 1 rest.length:=by
  rw[hsz,List.range_eq_range',List.range'_succ]
 have hrun:(execOp a.eval o).run P w= .ok .recover w:=by
  simp[execOp,ho,hc,resolve,invoke,builtin]
 have hw:Region.wanted o (yielded ops a.tmps)=true:=Qi hg0 _
 have h0:(lone (b.atR a (.inRegion ops (0::List.range' 1 rest.length)::k)) cs w).fenced P F:=fenced_oper hFb hroom ho0 (fun f _=>hF.fn f)
 have hg:=stepGR_op (P:=P) (b:=b) (a:=a) (k:=k) (cs:=cs) (w:=w) (rest:=List.range' 1 rest.length) ho0 hw
 rw[hro,Oper.semAt_none] at hg
 have hfin: ∀ v,(b.atR a (.inRegion ops (0::List.range' 1 rest.length)::k)).finish v=b.atR (a.put o.dst v) (.inRegion ops (List.range' 1 rest.length)::k):=by
  intro v; rw[Frame.finish_atR,ho0]; rfl
 have hk:(b.atR a (.inRegion ops (0::List.range' 1 rest.length)::k)).kind= .deferred:=hb
 have htr:=tryRecover_deferred hk cs
 have hlen:=Zbh (cs:=cs)
 have hl:wpOpsIn F n P ops (fun e a' w'=>Q e a' (recS cs).2 w') (List.range' 1 rest.length) (a.put (some t) (recS cs).1) w:=by
  rw[wpOpsIn_eq_wpListIn rest 1 (fun j=>by
   rw[<- Array.getElem?_toList,hops,Nat.add_comm]; rfl)]
  exact h
 obtain⟨e,a',w',hq,harr⟩:=wp_opsIn (F:=F) (n:=n) _ _ _ hl b k (recS cs).2 (hro.trans hround.symm) hFb (by rw[hlen]; exact hroom)
 refine⟨e,a',(recS cs).2,w',hlen,hq,.of_steps (.head (fenced_calm hFb hroom rfl) stepR_region ?_) harr⟩
 rw[hrange]
 refine .one h0 (step_lone_go ?_)
 rw[hg,<- hd,<- hfin]
 simp only[Frame.atR,hro] at htr ⊢
 unfold recS
 cases hrec:recoverD cs with
 | none=>simp[stepG.apply,hrun,htr,hrec]
 | some x=>simp[stepG.apply,hrun,htr,hrec]
def takes (P:Program):List Nat->World->World->Prop
 | [],w,w'=>w=w'
 | b::ms,w,w'=> ∃ w1,(Instr.takeDeferred b).run P w= .ok [] w1/\takes P ms w1 w'
theorem QR: ∀ (ms:List Nat) (w w':World) (fr:Frame) (cs:List Frame),fr.mode≠ .run->fr.defers=ms.map mkd->F.fn fr.fn->F.room (cs.length+1+n)->takes P ms w w' →
  StepsIn (Machine.fenced P F) P (lone fr cs w) (lone { fr with defers:=[] } cs w')
 | [],w,w',fr,cs,_,hd,_,_,ht=>by
  cases ht
  have:{ fr with defers:=[] }=fr:=by rw[show ([]:List Deferred)=fr.defers from hd.symm]
  rw[this]
  exact StepsIn.refl _
 | b::ms,w,w',fr,cs,hm,hd,hb,hr,⟨w1,h1,h2⟩=>by
  have s1:=step_collected (cs:=cs) hm hd rfl h1
  have i1:(lone fr cs w).fenced P F:=fenced_out hb hr hm hd (fun g hg=>by simp[mkd,Target.leads] at hg)
  have:=QR ms w1 w' { fr with defers:=[]++ms.map mkd } cs hm rfl hb hr h2
  exact .head i1 s1 this
def Z1m (P:Program) (fn:Func) (c₀:Frame) (cs:List Frame) (R:Ending->FrameMode->World->Prop):Exit->Act->List Frame->World->Prop:=fun e a cs' w =>
 (e= .normal\/e= .ret)/\ ∃ ms w1,a.defers=ms.map mkd/\takes P ms w w1/\ ∃ u',cs'={ c₀ with mode:=u' }::cs/\ ∃ v,(results fn a.tmps).run P w1= .ok v w1/\R (.returned v) u' w1
theorem Z1A {f:FuncId} {fn:Func} {c:Code} {args:Array Value} {u:FrameMode} {w:World} {R:Ending->FrameMode->World->Prop}
  (hf:P.funcs[f]? = some fn) (hb:fn.body=some c) (hF:F.fn f)
  (h: ∀ (c₀:Frame) (cs:List Frame),c₀.mode=u →
   c.wpSIn F n P (Z1m P fn c₀ cs R) { tmps:=args++Array.replicate (fn.ntmps-args.size) undef,defers:=[] } (c₀::cs) w) :
  CallsDIn F n P f args u w R:=by
 refine⟨hF,fun c₀ cs hu hroom=> ?_⟩
 let b:Frame:={ (default:Frame) with fn:=f,kind:= .deferred,roundOf:=none }
 have henter:Frame.enter P f args .deferred =
   b.atR { tmps:=args++Array.replicate (fn.ntmps-args.size) undef,defers:=[] } [.code c]:=by
  simp[Frame.enter,Frame.atR,hf,hb,b]
 obtain⟨e,a',cs',w',hl,hq,harr⟩:=h c₀ cs hu b [] rfl rfl hF hroom
 rw[<- henter] at harr
 obtain⟨he,ms,w1,hdf,htk,u',rfl,v,hr,hR⟩:=hq
 have hroom':F.room (({ c₀ with mode:=u' }::cs:List Frame).length+1+n):=hroom
 rcases he with rfl | rfl
 ·have s2:=QR (P:=P) (F:=F) (n:=n) ms w' w1 { b.atR a' [] with mode:= .returning } ({ c₀ with mode:=u' }::cs) (by simp) hdf hF hroom' htk
  exact⟨.returned v,u',w1,_,hR,(StepsIn.trans harr (.one (fenced_calm (fr:=b.atR a' []) hF hroom rfl) (stepR_end rfl))).trans s2,rfl,rfl,rfl,rfl,fn,hf,hr⟩
 ·obtain⟨todo,hs⟩:=harr.1 rfl
  have s2:=QR (P:=P) (F:=F) (n:=n) ms w' w1 { b.atR a' todo with mode:= .returning } ({ c₀ with mode:=u' }::cs) (by simp) hdf hF hroom' htk
  exact⟨.returned v,u',w1,_,hR,StepsIn.trans hs s2,rfl,rfl,rfl,rfl,fn,hf,hr⟩
def recM:FrameMode->Value × FrameMode
 | .panicking (⟨v,false,false⟩::older)=>(v,.panicking ({ v,recovered:=true }::older))
 | u=>(.nilIface,u)
theorem Zfd (c₀:Frame) (cs:List Frame):recS (c₀::cs)=((recM c₀.mode).1,{ c₀ with mode:=(recM c₀.mode).2 }::cs):=by
 obtain⟨fn,tmps,todo,defers,mode,kind,ro⟩:=c₀
 cases mode with
 | panicking ch =>
  cases ch with
  | nil=>rfl
  | cons p older =>
   obtain⟨v,r,g⟩:=p
   cases r <;> cases g <;> rfl
 | run=>rfl
 | returning=>rfl
def CallD (P:Program) (u:FrameMode) (d:D) (ob:Obs) (R:FrameMode->Obs->Prop):Prop :=
 ∀ (F:Fence) (_:Fence.Open F) (_:F.round=none) (n:Nat) (φ:Mem) (h:Nat->Value) (w:World) (g:FuncId) (va vc:Array Value),Loc (fun _=>True) ob φ h w->RV φ h (.func (.func g) va vc) d →
  CallsDIn F n P g (va++vc) u w (fun e u' w'=> ∃ v ob' φ' h',e= .returned v/\R u' ob'/\After ob φ h w ob' φ' h' w')
theorem Z4z {N:Nat} {hi:Hints} {a b:Code} {sa sb:SC} (hc:Zk P N hi (.seq a b)=some (.seq sa sb)):Zk P N hi a=some sa/\(Zk P N hi b=some sb\/ ∃ ts b',sb= .seq (.spec (.frg ts)) b'/\Zk P N hi b=some b'):=by
 simp only[Zk] at hc
 split at hc
 ·rename_i sa' sb' ha hb
  split at hc
  ·cases hc; exact⟨ha,.inl hb⟩
  ·rename_i ts _; cases hc; exact⟨ha,.inr ⟨ts,sb',rfl,hb⟩⟩
 ·cases hc
theorem Z35 {N:Nat} {hi:Hints} {c:Code} {sa sb:SC} (hc:Zk P N hi c=some (.seq sa sb)): ∃ a b,c= .seq a b:=by
 cases c with
 | seq a b=>exact⟨a,b,rfl⟩
 | region id ops draw =>
  simp only[Zk] at hc
  split at hc
  ·split at hc
   ·obtain⟨_,_,_,_,_,_,h⟩:=Z17 hc; cases h
   ·cases hc
  ·split at hc
   ·split at hc
    ·split at hc
     ·split at hc <;> cases hc
     ·cases hc
    ·cases hc
   ·cases hc
 | cond x a b=>simp only[Zk] at hc; split at hc <;> cases hc
 | block id c=>simp only[Zk] at hc; cases hq:Zk P N hi c <;> rw[hq] at hc <;> cases hc
 | loop c=>simp only[Zk] at hc; cases hq:Zk P N hi c <;> rw[hq] at hc <;> cases hc
 | rangeFunc g ps a b=>simp only[Zk] at hc; split at hc <;> cases hc
 | _=>cases hc
theorem Z2M [CodesOf P] (Z4:DrawSound P) (hF:Fence.Open F) {hi:Hints} {cb:Code} {sb:SC} {cx:Cx} {ds:List Deferred} (hc:Zk P cx.N hi cb=some sb\/ ∃ ts b',sb= .seq (.spec (.frg ts)) b'/\Zk P cx.N hi cb=some b') (hgl:GlobC cx.φ0 cx.w0 cx.Z) (hro:InRound F cx)
  {Q:Exit->St->Prop} {s:St} {φ:Mem} {h:Nat->Value} {tmps:Array Value} {w:World} (hm:Mod cx s φ h tmps w) (hs:sw P cx.bs sb Q s):cb.wpIn F n P (PostM cx ds Q) ⟨tmps,ds⟩ w:=by
 rcases hc with hc | ⟨ts,b',rfl,hc⟩
 ·exact Qv (n:=n) Z4 hF cb sb hc cx ds rfl rfl hgl hro Q s φ h tmps w hm hs
 ·obtain⟨φ2,hk,hmk⟩:=hm.canonM ts
  have hs':sw P cx.bs b' Q (s.canon cx.bs ts):=hs
  exact Qv (n:=n) Z4 hF cb b' hc cx ds rfl rfl hgl hro Q _ φ2 hk tmps w hmk hs'
theorem Z1k {N:Nat} {hi:Hints} {c:Code} {k:Sp} (hc:Zk P N hi c=some (.spec k)): ∃ id ops,c= .region id ops false/\Z05 P N hi ops=some k:=by
 cases c with
 | region id ops draw =>
  simp only[Zk] at hc
  split at hc
  ·rename_i k' hk
   split at hc
   ·obtain⟨_,_,_,_,_,_,h⟩:=Z17 hc; cases h
   ·rename_i hd
    cases hc
    exact⟨id,ops,by simp at hd; rw[hd],hk⟩
  ·split at hc
   ·split at hc
    ·split at hc
     ·split at hc <;> cases hc
     ·cases hc
    ·cases hc
   ·cases hc
 | seq a b =>
  simp only[Zk] at hc
  split at hc
  ·split at hc <;> cases hc
  ·cases hc
 | cond x a b=>simp only[Zk] at hc; split at hc <;> cases hc
 | block id c=>simp only[Zk] at hc; cases hq:Zk P N hi c <;> rw[hq] at hc <;> cases hc
 | loop c=>simp only[Zk] at hc; cases hq:Zk P N hi c <;> rw[hq] at hc <;> cases hc
 | rangeFunc g ps a b=>simp only[Zk] at hc; split at hc <;> cases hc
 | _=>cases hc
theorem Z7K {N:Nat} {hi:Hints} {ops:Array Oper} {t:Nat} {sops:List SOp} (hc:Z05 P N hi ops=some (.rcv t sops)): ∃ o rest c,ops.toList=o::rest/\o.op= .call c/\c.callee= .builtin .recover/\o.dst=some t/\o.guard=none ∧
  rest.mapM (fun o=>Qu P hi.bt (hi.fz (o.dst.getD 0)) ops o)=some sops/\QA N ops=true/\t<N:=by
 unfold Z05 at hc
 split at hc
 ·split at hc
  ·split at hc <;> cases hc
  ·cases hc
 ·split at hc
  ·split at hc
   ·split at hc <;> cases hc
   ·cases hc
  ·split at hc
   ·split at hc
    ·split at hc <;> cases hc
    ·cases hc
   ·split at hc
    ·rename_i t' rest hr
     split at hc
     ·rename_i sops' hs
      split at hc
      ·rename_i hd
       cases hc
       simp only[Bool.and_eq_true,decide_eq_true_eq] at hd
       unfold ZjQ at hr
       split at hr
       ·rename_i heq
        cases hr
        exact⟨_,_,_,heq,rfl,rfl,rfl,rfl,hs,hd.1,hd.2⟩
       ·cases hr
      ·cases hc
     ·cases hc
    ·split at hc
     ·split at hc
      ·split at hc <;> cases hc
      ·cases hc
     ·cases hc
theorem Z7M {N:Nat} {hi:Hints} {ops:Array Oper} {x':X} {sops:List SOp} (hc:Z05 P N hi ops=some (.dfr sops x')): ∃ init o c x,ops.toList=init++[o]/\o.op= .defer c/\c.callee= .value x/\c.args= #[]/\o.dst=none/\o.guard=none/\ZN x=some x' ∧
  init.mapM (fun o=>Qu P hi.bt (hi.fz (o.dst.getD 0)) ops o)=some sops/\QA N ops=true:=by
 unfold Z05 at hc
 split at hc
 ·split at hc
  ·split at hc <;> cases hc
  ·cases hc
 ·split at hc
  ·split at hc
   ·split at hc <;> cases hc
   ·cases hc
  ·split at hc
   ·rename_i x hx
    split at hc
    ·rename_i x'' sops' hcx hs
     split at hc
     ·rename_i hd
      cases hc
      unfold ZlB at hx
      split at hx
      ·rename_i heq
       split at hx
       case isFalse=>cases hx
       rename_i hargs
       cases hx
       have hargs:=Array.eq_empty_of_size_eq_zero hargs
       subst hargs
       rcases List.eq_nil_or_concat ops.toList with h0 | ⟨l,a,h0⟩
       ·rw[h0] at heq; cases heq
       ·rw[List.concat_eq_append] at h0
        rw[h0] at heq hs
        simp at heq
        subst heq
        rw[List.dropLast_concat] at hs
        exact⟨l,_,_,x,h0,rfl,rfl,rfl,rfl,rfl,hcx,hs,hd⟩
      ·cases hx
     ·cases hc
    ·cases hc
   ·split at hc
    ·split at hc
     ·split at hc <;> cases hc
     ·cases hc
    ·split at hc
     ·split at hc
      ·split at hc <;> cases hc
      ·cases hc
     ·cases hc
end
end Go.Sx
namespace Go.Sx
open Go.RowKit
variable [Globs] [Codes]
section
variable {F:Fence} {n:Nat} {P:Program}
theorem Z0L {cx:Cx} {s:St} {φ:Mem} {h:Nat->Value} {tmps:Array Value}: ∀ (ms:List Nat) (w:World),(ms.Nodup/\ ∀ b∈ms,cx.kp b=none/\cx.w0.heap.size<=b)->Mod (cx.more ms) s φ h tmps w-> ∃ w1,takes P ms w w1/\Mod cx s φ h tmps w1
 | [],w,_,hm=>by rw[Cx.more_nil] at hm; exact⟨w,rfl,hm⟩
 | b::ms,w,hnd,hm=>by
  obtain⟨hnd1,hnd2⟩:=hnd
  rw[List.nodup_cons] at hnd1
  obtain⟨hb,hk,hge⟩:=And.intro hnd1.1 (hnd2 b (by simp))
  obtain⟨h1,hm'⟩:=hm.unmark hb hk hge
  obtain⟨w1,q1,q2⟩:=Z0L ms _ ⟨hnd1.2,fun c hc=>hnd2 c (List.mem_cons_of_mem _ hc)⟩ hm'
  exact⟨w1,⟨_,run_takeDeferred h1,q1⟩,q2⟩
theorem CallD.fn [CodesOf P] (Z4:DrawSound P) {g:FuncId} {N t:Nat} {ops:List SOp} {sb:SC} (hf:FnC P g N (.seq (.spec (.rcv t ops)) sb) []) {first caps:List D} {ob:Obs} (k:Nat) (hk:Obs.top ob<=k) (hlen:(first++caps).length<=N) {u:FrameMode} (hone:(recM u).1.oneCell'=true) {R:FrameMode->Obs->Prop}
  (hst:stps P (St.nx ⟨(t,.raw (recM u).1)::Z6 t (Q0 0 (first++caps)),ob⟩ k) ops ⟨(t,.raw (recM u).1)::Z6 t (Q0 0 (first++caps)),ob⟩
   fun s1=>sw P k sb (fun e s=>(e= .normal\/e= .ret)/\RetL k (fun _ ob'=>R (recM u).2 ob') s (.tuple [])) s1) :
  CallD P u (.func (.func g) first caps) ob R:=by
 intro F hF hround n φ h w g' va vc hp hrv
 obtain⟨va',vc',hve,ha,hc,ha',hc'⟩:=func_inv hrv
 cases hve
 obtain⟨fn,c,hi,hfn,hbody,hN,hcomp,hres⟩:=hf.ex
 obtain⟨ca,cb,rfl⟩:=Z35 hcomp
 obtain⟨hca,hcb⟩:=Z4z hcomp
 obtain⟨id,ops0,rfl,hsp⟩:=Z1k hca
 obtain⟨o,rest,c,hops,ho,hcal,hdst,hgd,hmap,hdd,ht⟩:=Z7K hsp
 have hall:RVL φ h (va++vc).toList (first++caps):=by
  rw[Array.toList_append]
  exact ZY (Zq _ _ (by simpa using ha) fun j d hd=>by have:=ha' j d hd; simpa [Array.getD_eq_getD_getElem?,List.getD] using this)
   (Zq _ _ (by simpa using hc) fun j d hd=>by have:=hc' j d hd; simpa [Array.getD_eq_getD_getElem?,List.getD] using this)
 have hsz:(va++vc).size<=N:=by
  have:=hall.length
  simp only[Array.length_toList] at this
  omega
 refine Z1A hfn hbody (hF.fn g) fun c₀ cs hu=> ?_
 rw[hN]
 have hm0:=hp.enter (N:=N) (k:=k) (kp:=fun _=>none) (vs:=(va++vc)++Array.replicate (N-(va++vc).size) Go.undef) (by rw[Array.size_append,Array.size_replicate]; omega) (fun t d hd=>Z2k hall t d hd) (ob1:=ob) (fun _ _ h=>h) (fun _ _ h=>by cases h)
 have hm1:=(hm0.setTmp ht (d:= .raw (recM u).1) (v:=(recM u).1) (.pure (.raw _ hone))).weaken (s':=⟨(t,.raw (recM u).1)::Z6 t (Q0 0 (first++caps)),ob⟩) (fun i d hi=>by simp only[Zv] at hi; exact hi) (fun _ _ h=>h)
 refine wpSIn_seq (Z3c hF hround hops ho hcal hdst hgd ?_)
 rw[Zfd,hu]
 have hro:InRound F { N,w0:=w,φ0:=φ,Z:=ZOf ob h,bs:=k,h0:=h,kp:=fun _=>none }:=fun l hl=>by rw[hround] at hl; cases hl
 have key:=Z0G (n:=n) (F:=F) (ds:=[]) (cx:={ N,w0:=w,φ0:=φ,Z:=ZOf ob h,bs:=k,h0:=h,kp:=fun _=>none }) (rest:=[]) (Nat.le_max_left k _) hp.glob hF
  (Y:=fun e a' w'=>Exit.thenS (cb.wpSIn F n P (Z1m P fn c₀ cs fun e u' w'=> ∃ v ob' φ' h',e= .returned v/\R u' ob'/\After ob φ h w ob' φ' h' w')) (Z1m P fn c₀ cs fun e u' w'=> ∃ v ob' φ' h',e= .returned v/\R u' ob'/\After ob φ h w ob' φ' h' w') e a' ({ c₀ with mode:=(recM u).2 }::cs) w')
  (K:=fun s1=>sw P k sb (fun e s=>(e= .normal\/e= .ret)/\RetL k (fun _ ob'=>R (recM u).2 ob') s (.tuple [])) s1)
  (fun s1 φ1 h1 tm w1 hm hk'=> ?_) rest ops hmap (fun o' ho'=>ZD hdd o' (by rw[hops]; exact List.mem_cons_of_mem _ ho')) _ φ h _ w hm1 hst
 ·rw[List.append_nil] at key
  exact key
 ·show cb.wpSIn F n P _ ⟨tm,[]⟩ _ w1
  refine wpSIn_of_wpIn hround (wpIn_mono (Z2M (n:=n) (ds:=[]) (cx:={ N,w0:=w,φ0:=φ,Z:=ZOf ob h,bs:=k,h0:=h,kp:=fun _=>none }) Z4 hF hcb hp.glob hro hm hk') ?_)
  rintro e ⟨tm2,df⟩ w2 ⟨ms,hnd,hdf,s2,φ2,h2,⟨he,hR⟩,hm2⟩
  obtain⟨w3,htk,hm3⟩:=Z0L (P:=P) ms w2 hnd hm2
  obtain⟨v,hrun,hrv2⟩:=Z55 hres (ds:=[]) rfl hm3
  obtain⟨h3,_,haf⟩:=hm3.leave rfl rfl rfl rfl rfl hp.glob hk hrv2
  exact⟨he,ms,w3,by simpa using hdf,htk,_,rfl,v,hrun,v,_,φ2,h3,rfl,hR,haf⟩
theorem Mod.rebase {cx:Cx} {s:St} {φ:Mem} {h:Nat->Value} {tmps:Array Value} {w:World} (hm:Mod cx s φ h tmps w) (k2:Nat):Mod { cx with bs:=k2,h0:=h,φ0:=φ } s φ h tmps w :=
 ⟨hm.size,hm.tm,hm.mem,fun _ _ _ h=>h,(fun b o v h1 h2=>by have h3:φ b o=none:=h2; rw[h1] at h3; cases h3),hm.ob,hm.sep,hm.os,hm.tape,hm.output,hm.grow,hm.one,hm.frame,fun _ _=>rfl,hm.kept⟩
theorem Mod.unbase {cx:Cx} {k2:Nat} {h1:Nat->Value} {φ1:Mem} {s:St} {φ:Mem} {h:Nat->Value} {tmps:Array Value} {w:World} (hm:Mod { cx with bs:=k2,h0:=h1,φ0:=φ1 } s φ h tmps w) (hle:cx.bs<=k2) (hfix: ∀ i,i<cx.bs->h1 i=cx.h0 i)
  (hext: ∀ b o v,cx.φ0 b o=some v->φ1 b o=some v) (hnew: ∀ b o v,φ1 b o=some v->cx.φ0 b o=none->cx.own b):Mod cx s φ h tmps w :=
 ⟨hm.size,hm.tm,hm.mem,fun b o v h=>hm.ext b o v (hext b o v h),(fun b o v h1 h2=>by
  cases hq:φ1 b o with
  | none=>exact hm.new b o v h1 hq
  | some u=>exact hnew b o u hq h2),hm.ob,hm.sep,hm.os,hm.tape,hm.output,hm.grow,hm.one,hm.frame,fun i hi=>by rw[hm.hfix i (Nat.lt_of_lt_of_le hi hle)]; exact hfix i hi,hm.kept⟩
def swD (P:Program) (bs:Nat) (Q1:Exit->St->Prop) (KD:D->SC->St->Prop):SC->St->Prop
 | .seq a b,s=>match a with
  | .spec (.dfr ops x)=>stps P (s.nx bs) ops s fun s1=>KD (s1.get x) b s1
  | .spec (.frg ts)=>swD P bs Q1 KD b (s.canon bs ts)
  | a=>sw P bs a (thenS (swD P bs Q1 KD b) Q1) s
 | _,_=>False
theorem Z7L {N:Nat} {hi:Hints} {ops:Array Oper} {ts:List Nat} (hc:Z05 P N hi ops=some (.frg ts)):False:=by
 unfold Z05 at hc
 split at hc
 ·split at hc
  ·split at hc <;> cases hc
  ·cases hc
 ·split at hc
  ·split at hc
   ·split at hc <;> cases hc
   ·cases hc
  ·split at hc
   ·split at hc
    ·split at hc <;> cases hc
    ·cases hc
   ·split at hc
    ·split at hc
     ·split at hc <;> cases hc
     ·cases hc
    ·split at hc
     ·split at hc
      ·split at hc <;> cases hc
      ·cases hc
     ·cases hc
theorem Z8a [CodesOf P] (Z4:DrawSound P) (hF:Fence.Open F) (hround:F.round=none) {hi:Hints} {N bs:Nat} {Q1:Exit->St->Prop} {KD:D->SC->St->Prop} {Y:Exit->Act->World->Prop} (c:Code): ∀ (sc:SC),Zk P N hi c=some sc-> ∀ (cx:Cx) (ds:List Deferred),cx.N=N->cx.bs=bs->GlobC cx.φ0 cx.w0 cx.Z->InRound F cx →
  ∀ (s:St) (φ:Mem) (h:Nat->Value) (tmps:Array Value) (w:World),Mod cx s φ h tmps w->swD P bs Q1 KD sc s →
  (∀ e a w',e≠ .normal->PostM cx ds Q1 e a w'->Y e a w') →
  (∀ (x:Operand) (x':X) (cb:Code) (sb:SC) (tm:Array Value) (df:List Deferred) (w1:World),ZN x=some x'->(Zk P N hi cb=some sb\/ ∃ ts b',sb= .seq (.spec (.frg ts)) b'/\Zk P N hi cb=some b')->PostM cx ds (fun _ s1=>KD (s1.get x') sb s1) .normal ⟨tm,df⟩ w1 →
   ∃ d,(Deferred.ofValue (Act.eval ⟨tm,df⟩ x) #[]).run P w1= .ok d w1/\cb.wpIn F n P Y ⟨tm,d::df⟩ w1)->c.wpIn F n P Y ⟨tmps,ds⟩ w:=by
 induction c with
 | seq a b iha ihb =>
  intro sc hc cx ds hN hbs hgl hro s φ h tmps w hm hs h1 h2
  have hsc: ∃ sa sb,sc= .seq sa sb:=by
   simp only[Zk] at hc
   split at hc
   ·split at hc
    ·cases hc; exact⟨_,_,rfl⟩
    ·cases hc; exact⟨_,_,rfl⟩
   ·cases hc
  obtain⟨sa,sb,rfl⟩:=hsc
  obtain⟨hca,hcb⟩:=Z4z hc
  have usual:sw P bs sa (thenS (swD P bs Q1 KD sb) Q1) s->(Code.seq a b).wpIn F n P Y ⟨tmps,ds⟩ w:=fun hs=>by
   refine wpIn_seq (wpIn_mono (Qv (n:=n) Z4 hF a sa hca cx ds hN hbs hgl hro _ s φ h tmps w hm hs) ?_)
   rintro e ⟨tm,df⟩ w' ⟨ms,hnd,hdf,s',φ',h',hq,hm'⟩
   simp only at hdf
   subst hdf
   have far: ∀ (sb':SC),Zk P N hi b=some sb'-> ∀ (s'':St) (φ'':Mem) (h'':Nat->Value),Mod (cx.more ms) s'' φ'' h'' tm w'->swD P bs Q1 KD sb' s''->b.wpIn F n P Y ⟨tm,ms.map mkd++ds⟩ w':=fun sb' hb' s'' φ'' h'' hm'' hs'' =>
    ihb sb' hb' (cx.more ms) (ms.map mkd++ds) hN hbs hgl (hro.more ms) s'' φ'' h'' tm w' hm'' hs''
     (fun e a w' he hp=>h1 e a w' he (hp.after hnd))
     (fun x x' cb sb tm df w1 q1 q2 q3=>h2 x x' cb sb tm df w1 q1 q2 (q3.after hnd))
   cases e with
   | normal =>
    simp only[thenS] at hq
    simp only[Exit.then]
    rcases hcb with hb | ⟨ts,b',rfl,hb⟩
    ·exact far sb hb s' φ' h' hm' hq
    ·obtain⟨φ2,hk,hmk⟩:=hm'.canonM ts
     have hq':swD P bs Q1 KD b' (s'.canon bs ts):=hq
     subst hbs
     exact far b' hb _ φ2 hk hmk hq'
   | ret=>exact h1 _ _ _ (by simp) ⟨ms,hnd,rfl,s',φ',h',hq,hm'⟩
   | exit i=>exact h1 _ _ _ (by simp) ⟨ms,hnd,rfl,s',φ',h',hq,hm'⟩
   | goto i=>exact h1 _ _ _ (by simp) ⟨ms,hnd,rfl,s',φ',h',hq,hm'⟩
   | panic i=>exact h1 _ _ _ (by simp) ⟨ms,hnd,rfl,s',φ',h',hq,hm'⟩
   | outgrown=>exact h1 _ _ _ (by simp) ⟨ms,hnd,rfl,s',φ',h',hq,hm'⟩
  cases sa with
  | spec k =>
   cases k with
   | dfr ops x =>
    obtain⟨id,ops0,rfl,hsp⟩:=Z1k hca
    obtain⟨init,o,c0,x0,hops,ho,hcal,hargs,hdst,hgd,hx,hmap,hdd⟩:=Z7M hsp
    refine wpIn_seq (wpIn_region_list ?_)
    rw[hops]
    have hdd':=ZD hdd
    subst hN
    subst hbs
    refine Z0G (n:=n) (F:=F) (cx:=cx) (ds:=ds) (Nat.le_max_left cx.bs _) hgl hF (K:=fun s1=>KD (s1.get x) sb s1) (rest:=[o]) (fun s1 φ1 h1' tm w1 hm1 hk=> ?_) init ops hmap (fun o' ho'=>hdd' o' (by rw[hops]; simp[ho'])) s φ h tmps w hm hs
    obtain⟨d,hd,hw⟩:=h2 x0 x b sb tm ds w1 hx hcb (PostM.of (Q:=fun _ s1=>KD (s1.get x) sb s1) hk hm1)
    unfold wpListIn
    rw[if_pos (Qi hgd _)]
    refine⟨fun f _=>hF.fn f, ?_⟩
    rw[hround,Oper.semAt_none]
    have hrun:(execOp (Act.eval ⟨tm,ds⟩) o).run P w1= .ok (.defer d) w1:=by
     simp only[execOp,ho,resolve,hcal,hargs,Array.map_empty,Sem.run_bind,hd,Result.andThen_ok]
     rfl
    rw[hrun,Oper.uponIn_defer,hdst]
    exact hw
   | frg ts =>
    obtain⟨id,ops0,rfl,hsp⟩:=Z1k hca
    exact (Z7L hsp).elim
   | rng _ _ _=>exact usual hs
   | nxt _ _ _=>exact usual hs
   | rcv _ _=>exact usual hs
   | pan _=>exact usual hs
  | _=>exact usual hs
 | _ =>
  intro sc hc cx ds hN hbs hgl hro s φ h tmps w hm hs
  cases sc with
  | seq sa sb =>
   obtain⟨a,b,e⟩:=Z35 hc
   cases e
  | _=>exact hs.elim
def DQ (P:Program) (k k2:Nat) (rs:List SR) (cl:D) (R:D->Obs->Prop) (u:FrameMode) (s2:St):Prop:= ∃ nm Rd base,nm.Nodup/\(∀ i∈nm,(lk s2.ob i).isSome)/\k2<=base/\s2.top<=base/\CallD P u (cl.ren (idx · nm)) (ZI s2.ob (idx · nm) 0 nm) Rd ∧
 ∀ u' ob',Rd u' ob'->settle u'= .returning/\ ∃ ds,rs.mapM (resD (s2.back base nm ob'))=some ds/\RetL k R (s2.back base nm ob') (QU ds)
def DefQ (P:Program) (k k2:Nat) (rs:List SR) (cl:D) (R:D->Obs->Prop):Exit->St->Prop:=fun e s2=>match e with
 | .normal=>DQ P k k2 rs cl R .returning s2
 | .ret=>DQ P k k2 rs cl R .returning s2
 | .panic c=>DQ P k k2 rs cl R (.panicking c) s2
 | _=>False
def KDef (P:Program) (k:Nat) (rs:List SR) (R:D->Obs->Prop):D->SC->St->Prop:=fun cl sb s1=> ∃ g fa fc k2,cl= .func (.func g) fa fc/\ZA P g=true/\s1.top<=k2/\k<=k2/\D.top cl<=k2/\sw P k2 sb (DefQ P k k2 rs cl R) s1
theorem CallL.fnD [CodesOf P] (Z4:DrawSound P) {f:FuncId} {N:Nat} {sc:SC} {rs:List SR} (hf:FnC P f N sc rs) (hpf:ZA P f=true) {first caps args:List D} {ob:Obs} {R:D->Obs->Prop} (k:Nat) (hk:Obs.top ob<=k)
  (hlen:(first++args++caps).length<=N)
  (hsw:swD P k (EndQ rs (RetL k R)) (KDef P k rs R) sc ⟨Q0 0 (first++args++caps),ob⟩):CallL P (.func (.func f) first caps) args ob R:=by
 intro F hF n φ h w v vs hp hv hvs
 obtain⟨va,vc,rfl,ha,hc,ha',hc'⟩:=func_inv hv
 rw[Zr hpf]
 show CallsIn F n P f (va++vs++vc) w _
 have hall:RVL φ h (va++vs++vc).toList (first++args++caps):=by
  rw[Array.toList_append,Array.toList_append]
  exact ZY (ZY (Zq _ _ (by simpa using ha) fun j d hd=>by have:=ha' j d hd; simpa [Array.getD_eq_getD_getElem?,List.getD] using this) hvs)
   (Zq _ _ (by simpa using hc) fun j d hd=>by have:=hc' j d hd; simpa [Array.getD_eq_getD_getElem?,List.getD] using this)
 have hsz:(va++vs++vc).size<=N:=by
  have:=hall.length
  simp only[Array.length_toList] at this
  omega
 refine hF.calls (callsIn_wide (n:=0).1 ?_) n
 have hm':=hp.enter (N:=N) (k:=k) (kp:=fun _=>none) (vs:=(va++vs++vc)++Array.replicate (N-(va++vs++vc).size) Go.undef) (by rw[Array.size_append,Array.size_replicate]; omega) (fun t d hd=>Z2k hall t d hd) (ob1:=ob) (fun _ _ h=>h) (fun _ _ h=>by cases h)
 obtain⟨fn,c,hi,hfn,hbody,hN,hcomp,hres⟩:=hf.ex
 have hW:=Z0W
 refine callsIn_of_wp_marks hfn hbody (hW.fn f) ?_ rfl
 rw[hN]
 obtain⟨cx,hcx⟩: ∃ cx:Cx,cx={ N,w0:=w,φ0:=φ,Z:=ZOf ob h,bs:=k,h0:=h,kp:=fun _=>none }:=⟨_,rfl⟩
 rw[<- hcx] at hm'
 have hglc:GlobC cx.φ0 cx.w0 cx.Z:=by rw[hcx]; exact hp.glob
 have hroc:InRound Fence.wide cx:=fun l hl=>by cases hl
 have hbsc:cx.bs=k:=by rw[hcx]
 have hNc:cx.N=N:=by rw[hcx]
 have leave: ∀ {s':St} {φ':Mem} {h':Nat->Value} {tm:Array Value} {w':World},Mod cx s' φ' h' tm w'-> ∀ {v:Value} {r:D},RV φ' h' v r-> ∃ h2,RV φ' h2 v ((s'.fin k r).get (.t 0))/\After ob φ h w (s'.fin k r).ob φ' h2 w':=fun hm v r hv=>by
  subst hcx
  exact hm.leave rfl rfl rfl rfl rfl hp.glob hk hv
 have leaveR: ∀ {s':St} {φ':Mem} {h':Nat->Value} {tm:Array Value} {ds:List D},rs.mapM (resD s')=some ds->RetL k R s' (QU ds)-> ∀ w',Mod cx s' φ' h' tm w'-> ∃ v,(results fn tm).run P w'= .ok v w'/\Post ob φ h w R (.returned v) w':=fun {s' φ' h' tm ds} hds hR w' hm=>by
  obtain⟨v,hrun,hrv⟩:=Z55 hres hds hm
  obtain⟨h2,q1,q2⟩:=leave hm hrv
  exact⟨v,hrun,.ret hR q1 q2⟩
 refine Z8a (n:=0) Z4 hW rfl c sc hcomp cx [] hNc hbsc hglc hroc _ φ h _ w hm' hsw ?_ ?_
 ·-- no deferred call
  rintro e ⟨tm,df⟩ w' hne ⟨ms,hnd,hdf,s',φ',h',hq,hm2⟩
  simp only[List.append_nil] at hdf
  subst hdf
  cases e with
  | normal=>exact absurd rfl hne
  | ret=>obtain⟨ds,hds,hK⟩:=hq; exact Qx (fun w' hm=>leaveR hds hK w' hm) ms w' hnd hm2
  | panic c =>
   obtain⟨v,rfl,hK⟩:=hq
   have:=Qh (F:=Fence.wide) (n:=0) (P:=P) (fn:=fn) (tmps:=tm) (R:=Post ob φ h w R) (u:= .panicking [{ v,recovered:=false }]) (dd:=[]) (by simp)
    (fun w' hm=>by
     obtain⟨h2,q1,q2⟩:=leave hm (.undef Go.undef)
     exact⟨_,_,φ',h2,.inr ⟨v,rfl,rfl⟩,hK,q2⟩) ms w' hnd hm2
   show LeavesInM Fence.wide 0 P fn tm _ (ms.map mkd) _ w'
   rw[List.append_nil] at this
   exact this
  | exit _=>exact hq.elim
  | goto _=>exact hq.elim
  | outgrown=>exact hq.elim
 ·-- the deferred call is noted
  rintro x x' cb sb tm df w1 hx hcb ⟨ms,hnd,hdf,s1,φ1,h1,⟨g,fa,fc,k2,hcl,hpg,ht1,hk2,ht2,hsb⟩,hm1⟩
  simp only[List.append_nil] at hdf
  subst hdf
  have hgl1:GlobC (cx.more ms).φ0 (cx.more ms).w0 (cx.more ms).Z:=hglc
  have hv1:=hm1.get hgl1 (ds:=ms.map mkd) hx
  rw[hcl] at hv1
  obtain⟨wa,wc,hve,_,_,_,_⟩:=func_inv hv1
  refine⟨{ target:= .fn (.func g) wc,args:=wa++ #[] },by rw[hve]; exact Sem.run_pure _ _ _, ?_⟩
  rw[hve] at hv1
  have hgl1':GlobC φ1 (cx.more ms).w0 (cx.more ms).Z:=⟨fun g cs hg=>(hgl1.ok g cs hg).mono hm1.ext,hgl1.x,hgl1.i⟩
  have hmB:=hm1.rebase k2
  rw[<- hNc] at hcb
  refine wpIn_mono (Z2M (n:=0) (F:=Fence.wide) (ds:={ target:= .fn (.func g) wc,args:=wa++ #[] }::ms.map mkd) (cx:={ cx.more ms with bs:=k2,h0:=h1,φ0:=φ1 }) Z4 hW hcb hgl1' (fun l hl=>by cases hl) hmB hsb) ?_
  rintro e ⟨tm2,df2⟩ w2 ⟨ms2,hnd2,hdf2,s2,φ2,h2,hq,hm2⟩
  simp only at hdf2
  subst hdf2
  -- the closure,as it is at the end
  have hext: ∀ {u:FrameMode},u≠ .run->DQ P k k2 rs (s1.get x') R u s2->LeavesInM Fence.wide 0 P fn tm2 (Post ob φ h w R) (ms2.map mkd++{ target:= .fn (.func g) wc,args:=wa++ #[] }::ms.map mkd) u w2:=fun {u} hu hD=>by
   obtain⟨nm,Rd,base,d1,d2,d3,d4,d5,d6⟩:=hD
   refine Qh (F:=Fence.wide) (n:=0) (P:=P) (fn:=fn) (tmps:=tm2) (R:=Post ob φ h w R) hu (fun w3 hm3=> ?_) ms2 w2 hnd2 hm2
   have hfx: ∀ i,i<k2->h2 i=h1 i:=fun i hi=>hm3.hfix i hi
   have hmono: ∀ b o v,φ1 b o=some v->φ2 b o=some v:=hm3.ext
   have hv2:RV φ2 h2 (.func (.func g) wa wc) (s1.get x'):=by
    rw[hcl]
    exact (hv1.mono hmono).under (n:=k2) (by rw[<- hcl]; exact ht2) hfx
   have hcallD:=d5 Fence.wide hW rfl 0 φ2 (hcal h2 nm) w3 g wa wc (hm3.loc (hm3.glob hgl1') d1) (Z0q hv2)
   refine⟨hu,.inr ⟨(fun hd=>by cases hd),.func g,wc,g,wa++ #[]++wc,rfl, ?_,fun _ _=>trivial, ?_⟩⟩
   ·obtain⟨fn',hf',hb',hn'⟩:=Z0r hpg
    simp only[invoke,Sem.run_bind,Sem.run_pure,Result.andThen_ok,callFunc,run_program,hf',hn',hb',Bool.false_eq_true,if_false]
   ·rw[Array.append_empty]
    refine CallsDIn.mono hcallD ?_
    rintro e u' w4 ⟨v,ob',φ',h',rfl,hRd,haft⟩
    obtain⟨hset,ds,hds,hR⟩:=d6 u' ob' hRd
    obtain⟨q6,_⟩:=hm3.back (base:=base) d3 d4 d1 d2 haft
    have hm5:Mod (cx.more ms) (s2.back base nm ob') φ' (hbak h2 h' base) tm2 w4:=q6.unbase (by show cx.bs<=k2; omega) (fun i hi=>hm1.hfix i hi) hm1.ext hm1.new
    show LeavesInM Fence.wide 0 P fn tm2 _ (ms.map mkd) (settle u') w4
    rw[hset]
    exact Qx (fun w' hm=>leaveR hds hR w' hm) ms w4 hnd hm5
  cases e with
  | normal=>exact hext (by simp) hq
  | ret=>exact hext (by simp) hq
  | panic c=>exact hext (by simp) hq
  | exit _=>exact hq.elim
  | goto _=>exact hq.elim
  | outgrown=>exact hq.elim
end
end Go.Sx
namespace Go.Sx
open Go.RowKit
variable [Globs] [Codes]
theorem Z8d {P:Program} {b:Nat} {o:SOp} {s:St} {Kn Kn':St->Prop} {Kp Kp':Value->St->Prop} (h:stpX P b o s Kn Kp) (hn: ∀ s,Kn s->Kn' s) (hp: ∀ v s,Kp v s->Kp' v s):stpX P b o s Kn' Kp':=by
 cases o with
 | st g sz x y=>exact Z0M (P:=P) (b:=b) (o:= .st g sz x y) h hn
 | app dst g fz sz e x y=>exact Z0M (P:=P) (b:=b) (o:= .app dst g fz sz e x y) h hn
 | cd dst g x xs =>
  refine ZO (fun hb=> ?_) (hn _) h
  obtain⟨nm,R,base,h1,h2,h3,h4,h5,h6⟩:=hb
  refine⟨nm,R,base,h1,h2,h3,h4,h5,fun r ob' hr=> ?_⟩
  rcases h6 r ob' hr with ⟨q1,q2⟩ | ⟨v,q1,q2⟩
  ·exact .inl ⟨q1,hn _ q2⟩
  ·exact .inr ⟨v,q1,hp _ _ q2⟩
 | a dst g op xs =>
  by_cases hq:dst=none/\op= .pnk/\ ∃ x,xs=[x]
  ·obtain⟨rfl,rfl,x,rfl⟩:=hq
   exact ZO (fun ⟨t,u,h1,h2⟩=>⟨t,u,h1,hp _ _ h2⟩) (hn _) h
  ·have e: ∀ Kn Kp,stpX P b (.a dst g op xs) s Kn Kp=stp P b (.a dst g op xs) s Kn:=fun Kn Kp=>by
    cases dst with
    | some d=>rfl
    | none=>cases op <;> first | rfl | (cases xs with
      | nil=>rfl
      | cons x r=>cases r with
       | nil=>exact absurd ⟨rfl,rfl,x,rfl⟩ hq
       | cons _ _=>rfl)
   rw[e] at h ⊢
   exact Z0M h hn
theorem Z8c {P:Program} {b:Nat} {o:SOp} {s:St} {K:St->Prop} {Kp:Value->St->Prop} (h:stp P b o s K):stpX P b o s K Kp:=by
 cases o with
 | st g sz x y=>exact h
 | app dst g fz sz e x y=>exact h
 | cd dst g x xs =>
  refine ZO (fun hb=> ?_) id h
  obtain⟨nm,R,base,h1,h2,h3,h4,h5,h6⟩:=hb
  exact⟨nm,R,base,h1,h2,h3,h4,h5,fun r ob' hr=> .inl (h6 r ob' hr)⟩
 | a dst g op xs =>
  by_cases hq:dst=none/\op= .pnk/\ ∃ x,xs=[x]
  ·obtain⟨rfl,rfl,x,rfl⟩:=hq
   exact ZO (fun hb=>hb.elim) id h
  ·have e:stpX P b (.a dst g op xs) s K Kp=stp P b (.a dst g op xs) s K:=by
    cases dst with
    | some d=>rfl
    | none=>cases op <;> first | rfl | (cases xs with
      | nil=>rfl
      | cons x r=>cases r with
       | nil=>exact absurd ⟨rfl,rfl,x,rfl⟩ hq
       | cons _ _=>rfl)
   rw[e]
   exact h
theorem Z2H {P:Program} {b:Nat}: ∀ {ops:List SOp} {s:St} {Kn Kn':St->Prop} {Kp Kp':Value->St->Prop},Z1e P b ops s Kn Kp->(∀ s,Kn s->Kn' s)->(∀ v s,Kp v s->Kp' v s)->Z1e P b ops s Kn' Kp'
 | [],_,_,_,_,_,h,hn,_=>hn _ h
 | _::_,_,_,_,_,_,h,hn,hp=>Z8d h (fun _ hs=>Z2H hs hn hp) hp
theorem Z5Z {P:Program} {b:Nat}: ∀ {ops:List SOp} {s:St} {K:St->Prop} {Kp:Value->St->Prop},stps P b ops s K->Z1e P b ops s K Kp
 | [],_,_,_,h=>h
 | _::_,_,_,_,h=>Z8c (Z0M h fun _ hs=>Z5Z hs)
theorem Z1E {P:Program} {bs:Nat} {k:Sp} {Q Q':Exit->St->Prop} {s:St} (h:spS P bs k Q s) (hq: ∀ e s,Q e s->Q' e s):spS P bs k Q' s:=by
 cases k with
 | frg ts=>exact hq _ _ h
 | dfr _ _=>exact h.elim
 | rcv _ _=>exact h.elim
 | pan ops=>exact Z2H h (fun s=>hq _ s) (fun v s=>hq _ s)
 | rng ops dst x =>
  refine Z09 h fun s' ⟨mid,ks,ds,h1,h2,h3,h4,h5⟩=>⟨mid,ks,ds,h1,h2,h3,h4,fun l cl a b c=>hq _ _ (h5 l cl a b c)⟩
 | nxt it t1 t2 =>
  obtain⟨id,l,ix,cl,mid,ks,ds,h1,h2,h3,h4,h5,h6⟩:=h
  exact⟨id,l,ix,cl,mid,ks,ds,h1,h2,h3,h4,fun ha=>hq _ _ (h5 ha),fun i hi hn=>hq _ _ (h6 i hi hn)⟩
theorem Zu {P:Program} {bs:Nat}: ∀ {c:SC} {s:St} {Q Q':Exit->St->Prop},sw P bs c Q s->(∀ e s,Q e s->Q' e s)->sw P bs c Q' s:=by
 intro c
 induction c with
 | skip=>intro s Q Q' h hq; exact hq _ _ h
 | ret=>intro s Q Q' h hq; exact hq _ _ h
 | exit id=>intro s Q Q' h hq; exact hq _ _ h
 | reg ops=>intro s Q Q' h hq; exact Z09 h fun s=>hq _ s
 | spec k=>intro s Q Q' h hq; exact Z1E h hq
 | drw pre ops=>intro s Q Q' h hq; obtain⟨es,s',h1,h2,h3⟩:=h; exact⟨es,s',h1,h2,hq _ _ h3⟩
 | seq a b iha ihb =>
  intro s Q Q' h hq
  refine iha h fun e s he=> ?_
  cases e <;> first | exact ihb he hq | exact hq _ _ he
 | cond x a b iha ihb =>
  intro s Q Q' h hq
  simp only[sw] at h ⊢
  split at h
  ·split at h
   ·rename_i ht; rw[if_pos ht]; exact iha h hq
   ·rename_i ht; rw[if_neg ht]; exact ihb h hq
  ·exact h.elim
 | block id c ih =>
  intro s Q Q' h hq
  refine ih h fun e s he=> ?_
  cases e <;> try exact hq _ _ he
  rename_i i
  simp only[Qy] at he ⊢
  split at he
  ·rename_i hi; rw[if_pos hi]; exact hq _ _ he
  ·rename_i hi; rw[if_neg hi]; exact hq _ _ he
 | loop ts c ih =>
  intro s Q Q' h hq
  obtain⟨ts',Inv,h1,h2⟩:=h
  refine⟨ts',Inv,h1,fun k s' hi=>ih (h2 k s' hi) fun e s he=> ?_⟩
  cases e <;> first | exact he | exact hq _ _ he
 | rangeF N g ps a b _ _ =>
  intro s Q Q' h hq
  obtain⟨nm,R,h1,h2,h3,h4,h5⟩:=h
  refine⟨nm,R,h1,h2,h3,h4,fun r ob' hr=> ?_⟩
  rcases h5 r ob' hr with ⟨v,hv,hqv⟩ | ⟨hpn,hrest⟩
  ·exact .inl ⟨v,hv,hq _ _ hqv⟩
  refine .inr ⟨hpn, ?_⟩
  obtain⟨st,pend,ps',asg,body,N',keys,ds,q1,q2,q3⟩:=hrest
  refine⟨st,pend,ps',asg,body,N',keys,ds,q1,q2, ?_⟩
  split at q3
  ·exact hq _ _ q3
  ·exact hq _ _ q3
  ·exact hq _ _ q3
  ·exact q3.elim
inductive Fr where
 | sc (c:SC)
 | blk (id:Nat)
structure Tab where
 T:FuncId->Option (Nat × SC × List SR)
 C:FuncId->List D->Obs->Option (D × Obs)
 F:FuncId->List D->Option D:=fun _ _=>none
structure Tab.OK (tab:Tab) (P:Program):Prop where
 T: ∀ f N sc rs,tab.T f=some (N,sc,rs)->FnC P f N sc rs/\ZA P f=true
 C: ∀ f az ob r ob',tab.C f az ob=some (r,ob')->ZA P f=true/\CallL P (.func (.func f) [] []) az ob fun r0 ob0=>r0=r/\ob0=ob'
 F: ∀ f az r,tab.F f az=some r->FnOK P f az r
abbrev GoF:=Nat->List Fr->St->Option (Exit × St)
def finB:Exit->Bool
 | .normal=>true
 | .ret=>true
 | _=>false
def Z21:Exit->Option (Option Code)
 | .normal=>some none
 | .ret=>some (some .ret)
 | .exit i=>some (some (.exit i))
 | _=>none
def SC.hasD:SC->Bool
 | .seq a b=>(match a with
  | .spec (.dfr _ _)=>true
  | _=>false) || b.hasD
 | _=>false
abbrev noCl:Z2G:=fun _ _ _=>none
abbrev noFn:FuncId->List D->Option D:=fun _ _=>none
def ZbE (tab:Tab) (g:GoF) (gf:FuncId) (first caps:List D) (ob:Obs):Option Obs:=match tab.T gf with
 | some (N,.seq (.spec (.rcv t ops)) sb,[])=>if (first++caps).length<=N then (match opsE noCl noFn (St.nx ⟨(t,.raw .nilIface)::Z6 t (Q0 0 (first++caps)),ob⟩ (Obs.top ob)) ops ⟨(t,.raw .nilIface)::Z6 t (Q0 0 (first++caps)),ob⟩ with
  | some s1=>match g (Obs.top ob) [.sc sb] s1 with
   | some (e,s)=>if finB e=true then some ((s.fin (Obs.top ob) (.tuple [])).ob) else none
   | none=>none
  | none=>none) else none
 | _=>none
def finR (k:Nat) (rs:List SR) (s:St):Option (D × Obs):=match rs.mapM (resD s) with
 | some ds=>some ((s.fin k (QU ds)).get (.t 0),(s.fin k (QU ds)).ob)
 | none=>none
def Z7G (tab:Tab) (g:GoF) (k:Nat) (rs:List SR):SC->St->Option (D × Obs)
 | .seq a b,s=>match a with
  | .spec (.dfr ops x)=>match opsE noCl noFn (s.nx k) ops s with
   | some s1=>match s1.get x with
    | .func (.func gf) fa fc =>
     let cl:=s1.get x
     let k2:=max k (max s1.top (D.top cl))
     (match g k2 [.sc b] s1 with
     | some (e,s2)=>if finB e=true then
       (let nm:=Z10 s2 [cl]
       if Z03 nm=true then (match ZbE tab g gf (D.renL (idx · nm) fa) (D.renL (idx · nm) fc) (ZI s2.ob (idx · nm) 0 nm) with
       | some ob'=>finR k rs (s2.back (max k2 s2.top) nm ob')
       | none=>none) else none) else none
     | none=>none)
    | _=>none
   | none=>none
  | .spec (.frg ts)=>Z7G tab g k rs b (s.canon k ts)
  | a=>match g k [.sc a] s with
   | some (.normal,s')=>Z7G tab g k rs b s'
   | some (.ret,s')=>finR k rs s'
   | _=>none
 | _,_=>none
def Z2r (tab:Tab) (g:GoF):Z2G:=fun d args ob=>match d with
 | .func (.func f) first caps=>match tab.C f (first++args++caps) ob with
  | some x=>some x
  | none=>match tab.T f with
   | some (N,sc,rs)=>if (first++args++caps).length<=N then if sc.hasD=true then Z7G tab g (Obs.top ob) rs sc ⟨Q0 0 (first++args++caps),ob⟩ else
     (match g (Obs.top ob) [.sc sc] ⟨Q0 0 (first++args++caps),ob⟩ with
     | some (e,s)=>if finB e=true then (match rs.mapM (resD s) with
      | some ds=>some ((s.fin (Obs.top ob) (QU ds)).get (.t 0),(s.fin (Obs.top ob) (QU ds)).ob)
      | none=>none) else none
     | none=>none) else none
   | none=>none
 | .yld rid=>match lk ob rid with
  | some (.gen (.loop .ready none ps a b N keys) ds)=>if ps.size=args.length/\(ps.toList.all fun t=>decide (t<N))=true then
    (match g (Obs.top ob) [.sc a] ⟨putP (ps.toList.zip args) (keys.zip ds),Z6 rid ob⟩ with
    | some (.normal,s1)=>match g (Obs.top ob) [.sc b] s1 with
     | some (e,s2)=>match Z21 e with
      | some pend=>if (lk s2.ob rid).isNone=true then some (.bool pend.isNone,(rid,.gen (.loop (if pend.isNone then .ready else .done) pend ps a b N keys) ds)::(s2.canon (Obs.top ob) []).ob) else none
      | none=>none
     | none=>none
    | _=>none) else none
  | _=>none
 | _=>none
def retE (r:D) (ob:Obs):Option D:=match r with
 | .vec id=>match lk (frzO ob) id with
  | some (.arr true sz e es)=>some (.own sz e es)
  | _=>none
 | r=>if D.clo (dvt (lk (frzO ob)) r)=true then some (dvt (lk (frzO ob)) r) else none
def fnE (tab:Tab) (g:GoF):FuncId->List D->Option D:=fun f args=>match tab.F f args with
 | some r=>some r
 | none=>match Z2r tab g (.func (.func f) [] []) args [] with
  | some (r,ob)=>retE r ob
  | none=>none
def Z0g (i:Nat):List Fr->Option (List Fr)
 | []=>none
 | .blk j::K=>if i=j then some K else Z0g i K
 | .sc _::K=>Z0g i K
def rngS (P:Program) (s:St) (rid N:Nat) (ps:Array Tmp) (a b:SC):Obs:=(rid,recd P .ready none N ps a b s.tm)::s.ob
def Z0D (P:Program) (tab:Tab) (ih:GoF):GoF:=fun bs K s=>match K with
 | []=>some (.normal,s)
 | .blk _::K=>ih bs K s
 | .sc c::K=>match c with
  | .skip=>ih bs K s
  | .ret=>some (.ret,s)
  | .exit i=>match Z0g i K with
   | some K'=>ih bs K' s
   | none=>some (.exit i,s)
  | .reg ops=>match opsE (Z2r tab ih) (fnE tab ih) (s.nx bs) ops s with
   | some s'=>ih bs K s'
   | none=>none
  | .drw pre ops=>match canE (Z2r tab ih) (fnE tab ih) (s.nx bs) ops s with
   | some (es,s')=>if dchk (s.nx bs) pre ops es s=true then ih bs K s' else none
   | none=>none
  | .seq a b=>ih bs (.sc a:: .sc b::K) s
  | .cond x a b=>match s.get x with
   | .bool t=>ih bs (.sc (if t then a else b)::K) s
   | _=>none
  | .block id c=>ih bs (.sc c:: .blk id::K) s
  | .loop ts c=>ih bs (.sc c:: .sc (.loop ts c)::K) (s.canon bs ts)
  | .spec k=>match k with
   | .frg ts=>ih bs K (s.canon bs ts)
   | .pan ops=>(match opsE (Z2r tab ih) (fnE tab ih) (s.nx bs) ops s with
    | some s'=>ih bs K s'
    | none=>none)
   | _=>none
  | .rangeF N g ps a b =>
   let ob1:=rngS P s (s.nx bs) N ps a b
   let nm:=Z10 ⟨s.tm,ob1⟩ [s.get g,.yld (s.nx bs)]
   match s.get g with
   | .func (.func f) fa fc=>if Z03 nm=true/\((tab.T f).isSome=true) then
     (match Z2r tab ih ((s.get g).ren (idx · nm)) [(D.yld (s.nx bs)).ren (idx · nm)] (ZI ob1 (idx · nm) 0 nm) with
     | some (r,ob')=>if r.isPan=true then none else
      let S:=St.back ⟨s.tm,ob1⟩ (s.nx bs+1) nm ob'
      match lk S.ob (s.nx bs) with
      | some (.gen (.loop st pend _ _ _ _ _) _)=>if st= .busy then none else (match pend with
       | none=>ih bs K ⟨s.tm,Z6 (s.nx bs) S.ob⟩
       | some .ret=>some (.ret,⟨s.tm,Z6 (s.nx bs) S.ob⟩)
       | some (.exit i)=>match Z0g i K with
        | some K'=>ih bs K' ⟨s.tm,Z6 (s.nx bs) S.ob⟩
        | none=>some (.exit i,⟨s.tm,Z6 (s.nx bs) S.ob⟩)
       | _=>none)
      | _=>none
     | none=>none) else none
   | _=>none
def go (P:Program) (tab:Tab) (n:Nat):GoF:=Nat.rec (fun _ _ _=>none) (fun _ ih=>Z0D P tab ih) n
theorem Z9f (P:Program) (tab:Tab) (n:Nat):go P tab (n+1)=Z0D P tab (go P tab n):=rfl
section
variable {P:Program} {tab:Tab}
def Z1Z (P:Program) (tab:Tab) (m bs:Nat) (K:List Fr) (ex:Exit) (s:St) (out:Exit × St):Prop:=match ex with
 | .normal=>go P tab m bs K s=some out
 | .ret=>out=(.ret,s)
 | .exit i=>match Z0g i K with
  | some K'=>go P tab m bs K' s=some out
  | none=>out=(.exit i,s)
 | _=>False
theorem CallL.split {f:FuncId} (hp:ZA P f=true) {first args caps:List D} {ob:Obs} {R:D->Obs->Prop} (h:CallL P (.func (.func f) [] []) (first++args++caps) ob R):CallL P (.func (.func f) first caps) args ob R:=by
 intro F hF n φ hh w v vs hl hv hvs
 obtain⟨va,vc,rfl,ha,hc,ha',hc'⟩:=Sx.func_inv hv
 rw[Zr hp]
 have hall:RVL φ hh (va++vs++vc).toList (first++args++caps):=by
  rw[Array.toList_append,Array.toList_append]
  exact ZY (ZY (Zq _ _ (by simpa using ha) fun j d hd=>by have:=ha' j d hd; simpa [Array.getD_eq_getD_getElem?,List.getD] using this) hvs)
   (Zq _ _ (by simpa using hc) fun j d hd=>by have:=hc' j d hd; simpa [Array.getD_eq_getD_getElem?,List.getD] using this)
 have:=h F hF n φ hh w (.func (.func f) #[] #[]) (va++vs++vc) hl (.func _ _ _ _ _ rfl rfl (by simp) (by simp)) hall
 rw[Zr hp] at this
 simpa using this
theorem Z9k {k:Nat} {rs:List SR} {s:St} {r:D} {ob':Obs} (h:finR k rs s=some (r,ob')): ∃ ds,rs.mapM (resD s)=some ds/\RetL k (fun r0 ob0=>r0=r/\ob0=ob') s (QU ds):=by
 unfold finR at h
 split at h
 ·rename_i ds hds
  simp only[Option.some.injEq,Prod.mk.injEq] at h
  exact⟨ds,hds,h.1,h.2⟩
 ·cases h
theorem Z5p [CodesOf P] (Z4:DrawSound P) (htab:tab.OK P) {n:Nat}
  (hgo: ∀ bs c s out,go P tab n bs [.sc c] s=some out->sw P bs c (fun ex s1=>out=(ex,s1)) s) {gf:FuncId} {first caps:List D} {ob ob':Obs} (h:ZbE tab (go P tab n) gf first caps ob=some ob') :
  CallD P .returning (.func (.func gf) first caps) ob fun u' ob0=>u'= .returning/\ob0=ob':=by
 unfold ZbE at h
 split at h
 ·rename_i N t ops sb hT
  obtain⟨hf,hp⟩:=htab.T gf _ _ _ hT
  split at h
  ·rename_i hlen
   split at h
   ·rename_i s1 hops
    split at h
    ·rename_i e s hg
     split at h
     ·rename_i hfin
      simp only[Option.some.injEq] at h
      refine CallD.fn Z4 hf (Obs.top ob) (Nat.le_refl _) hlen rfl (QL (P:=P) (fn:=noFn) (cl:=noCl) (fun _ _ _ h=>by cases h) (fun _ _ _ _ _ h=>by cases h) hops ?_)
      refine Zu (hgo _ _ _ _ hg) fun ex s1 hr=> ?_
      simp only[Prod.mk.injEq] at hr
      obtain⟨rfl,rfl⟩:=hr
      refine⟨?_,rfl,h⟩
      cases e <;> first | exact .inl rfl | exact .inr rfl | cases hfin
     ·cases h
    ·cases h
   ·cases h
  ·cases h
 ·cases h
theorem Z5q [CodesOf P] (Z4:DrawSound P) (htab:tab.OK P) {n:Nat}
  (hgo: ∀ bs c s out,go P tab n bs [.sc c] s=some out->sw P bs c (fun ex s1=>out=(ex,s1)) s) {k:Nat} {rs:List SR} {r:D} {ob':Obs}: ∀ (sc:SC) (s:St),Z7G tab (go P tab n) k rs sc s=some (r,ob') →
  swD P k (EndQ rs (RetL k fun r0 ob0=>r0=r/\ob0=ob')) (KDef P k rs fun r0 ob0=>r0=r/\ob0=ob') sc s:=by
 intro sc
 induction sc with
 | seq a b iha ihb =>
  intro s h
  have usual:(match go P tab n k [.sc a] s with
   | some (.normal,s')=>Z7G tab (go P tab n) k rs b s'
   | some (.ret,s')=>finR k rs s'
   | _=>none)=some (r,ob')->sw P k a (thenS (swD P k (EndQ rs (RetL k fun r0 ob0=>r0=r/\ob0=ob')) (KDef P k rs fun r0 ob0=>r0=r/\ob0=ob') b) (EndQ rs (RetL k fun r0 ob0=>r0=r/\ob0=ob'))) s:=fun h=>by
   split at h
   ·rename_i s' hg
    refine Zu (hgo _ _ _ _ hg) fun ex s1 hr=> ?_
    simp only[Prod.mk.injEq] at hr
    obtain⟨rfl,rfl⟩:=hr
    exact ihb _ h
   ·rename_i s' hg
    refine Zu (hgo _ _ _ _ hg) fun ex s1 hr=> ?_
    simp only[Prod.mk.injEq] at hr
    obtain⟨rfl,rfl⟩:=hr
    exact Z9k h
   ·cases h
  cases a with
  | spec kk =>
   cases kk with
   | dfr ops x =>
    simp only[Z7G] at h
    split at h
    ·rename_i s1 hops
     refine QL (P:=P) (fn:=noFn) (cl:=noCl) (fun _ _ _ h=>by cases h) (fun _ _ _ _ _ h=>by cases h) hops ?_
     split at h
     ·rename_i gf fa fc hcl
      split at h
      ·rename_i e s2 hg
       split at h
       ·rename_i hfin
        split at h
        ·rename_i hnd
         split at h
         ·rename_i ob1 hr
          obtain⟨x0,hx0⟩: ∃ x0,tab.T gf=some x0:=by
           unfold ZbE at hr
           split at hr
           ·rename_i hT; exact⟨_,hT⟩
           ·cases hr
          have hpg:=(htab.T gf x0.1 x0.2.1 x0.2.2 hx0).2
          refine⟨gf,fa,fc,max k (max s1.top (D.top (s1.get x))),hcl,hpg,by omega,by omega,by omega, ?_⟩
          refine Zu (hgo _ _ _ _ hg) fun ex s3 hr3=> ?_
          simp only[Prod.mk.injEq] at hr3
          obtain⟨rfl,rfl⟩:=hr3
          have hD:DQ P k (max k (max s1.top (D.top (s1.get x)))) rs (s1.get x) (fun r0 ob0=>r0=r/\ob0=ob') .returning s2:=by
           refine⟨_,fun u' ob0=>u'= .returning/\ob0=ob1,max (max k (max s1.top (D.top (s1.get x)))) s2.top,Zm hnd,fun i hi=>ZB i hi,by omega,by omega, ?_, ?_⟩
           ·have:=Z5p Z4 htab hgo hr
            rw[hcl] at this ⊢
            exact this
           ·rintro u' ob0 ⟨rfl,rfl⟩
            exact⟨rfl,Z9k h⟩
          cases e <;> first | exact hD | cases hfin
         ·cases h
        ·cases h
       ·cases h
      ·cases h
     ·cases h
    ·cases h
   | frg ts=>exact ihb _ h
   | rng _ _ _=>exact usual h
   | nxt _ _ _=>exact usual h
   | rcv _ _=>exact usual h
   | pan _=>exact usual h
  | _=>exact usual h
 | _=>intro s h; cases h
theorem Z2q [CodesOf P] (Z4:DrawSound P) (htab:tab.OK P) {n:Nat}
  (hgo: ∀ bs c s out,go P tab n bs [.sc c] s=some out->sw P bs c (fun ex s1=> ∃ m,m<n/\Z1Z P tab m bs [] ex s1 out) s) :
  ∀ d az ob r ob',Z2r tab (go P tab n) d az ob=some (r,ob')->CallL P d az ob fun r0 ob0=>r0=r/\ob0=ob':=by
 have hnil: ∀ {m bs:Nat} {s:St} {out:Exit × St},go P tab m bs [] s=some out->out=(.normal,s):=fun {m bs s out} h=>by
  cases m with
  | zero=>cases h
  | succ m=>rw[Z9f] at h; simp only[Z0D,Option.some.injEq] at h; exact h.symm
 have hres: ∀ {m bs:Nat} {ex:Exit} {s:St} {out:Exit × St},Z1Z P tab m bs [] ex s out->out=(ex,s):=fun {m bs ex s out} h=>by
  cases ex <;> simp only[Z1Z,Z0g] at h
  ·exact hnil h
  ·exact h
  ·exact h
 intro d az ob r ob' h
 unfold Z2r at h
 split at h
 ·rename_i f first caps
  split at h
  ·rename_i x hC
   cases h
   obtain⟨hp,hc⟩:=htab.C f _ ob r ob' hC
   exact hc.split hp
  ·split at h
   ·rename_i N sc rs hT
    obtain⟨hf,hp⟩:=htab.T f N sc rs hT
    split at h
    ·rename_i hlen
     split at h
     ·exact CallL.fnD Z4 hf hp (Obs.top ob) (Nat.le_refl _) hlen (Z5q Z4 htab (fun bs c s out hg=>Zu (hgo _ _ _ _ hg) fun ex s1 ⟨m,_,hr⟩=>hres hr) _ _ h)
     split at h
     ·rename_i e s hg
      split at h
      ·rename_i hfin
       split at h
       ·rename_i ds hds
        simp only[Option.some.injEq,Prod.mk.injEq] at h
        obtain⟨rfl,rfl⟩:=h
        refine CallL.fn Z4 hf hp (Obs.top ob) (Nat.le_refl _) hlen (Zu (hgo _ _ _ _ hg) fun ex s1 ⟨m,_,hr⟩=> ?_)
        have:=hres hr
        simp only[Prod.mk.injEq] at this
        obtain⟨rfl,rfl⟩:=this
        cases e <;> first | exact⟨ds,hds,rfl,rfl⟩ | cases hfin
       ·cases h
      ·cases h
     ·cases h
    ·cases h
   ·cases h
 ·rename_i rid
  split at h
  ·rename_i ps a b N keys ds hrec
   split at h
   ·rename_i hc
    split at h
    ·rename_i s1 hg1
     split at h
     ·rename_i e s2 hg2
      split at h
      ·rename_i pend hpe
       split at h
       ·rename_i hn
        simp only[Option.some.injEq,Prod.mk.injEq] at h
        obtain⟨rfl,rfl⟩:=h
        refine CallL.yld Z4 (Obs.top ob) (Nat.le_refl _) hrec hc.1 (fun t ht=>by simpa using List.all_eq_true.1 hc.2 t ht) (Zu (hgo _ _ _ _ hg1) fun ex s ⟨m,_,hr⟩=> ?_)
        have:=hres hr
        simp only[Prod.mk.injEq] at this
        obtain⟨rfl,rfl⟩:=this
        refine Zu (hgo _ _ _ _ hg2) fun ex s ⟨m,_,hr⟩=> ?_
        have:=hres hr
        simp only[Prod.mk.injEq] at this
        obtain⟨rfl,rfl⟩:=this
        refine⟨by simpa using hn, ?_⟩
        cases e <;> simp only[Z21,Option.some.injEq,reduceCtorEq] at hpe <;> (subst hpe; exact⟨rfl,rfl⟩)
       ·cases h
      ·cases h
     ·cases h
    ·cases h
   ·cases h
  ·cases h
 ·cases h
theorem Z4r {g:GoF} (htab:tab.OK P) (hpf: ∀ f,(tab.T f).isSome=true->ZA P f=true) (hcl: ∀ d az ob r ob',Z2r tab g d az ob=some (r,ob')->CallL P d az ob fun r0 ob0=>r0=r/\ob0=ob') :
  ∀ f az r,fnE tab g f az=some r->FnOK P f az r:=by
 intro f az r h
 unfold fnE at h
 split at h
 ·rename_i r0 hF
  cases h
  exact htab.F _ _ _ hF
 split at h
 ·rename_i r0 ob hc
  have hp:ZA P f=true:=by
   unfold Z2r at hc
   simp only at hc
   split at hc
   ·rename_i x hC; exact (htab.C f _ _ x.1 x.2 hC).1
   ·split at hc
    ·rename_i N sc rs hT; exact (htab.T f N sc rs hT).2
    ·cases hc
  refine FnOK.of_call hp ((hcl _ _ _ _ _ hc).mono ?_)
  rintro r1 ob1 ⟨rfl,rfl⟩
  unfold retE at h
  split at h
  ·rename_i id
   split at h
   ·rename_i sz e es hl
    cases h
    exact .inl ⟨id,sz,e,es,rfl,hl,rfl⟩
   ·cases h
  ·split at h
   ·rename_i hclo
    cases h
    exact .inr ⟨hclo,rfl⟩
   ·cases h
 ·cases h
theorem ZbC [CodesOf P] (Z4:DrawSound P) (htab:tab.OK P): ∀ (n bs:Nat) (c:SC) (K:List Fr) (s:St) (out:Exit × St),go P tab n bs (.sc c::K) s=some out->sw P bs c (fun ex s1=> ∃ m,m<n/\Z1Z P tab m bs K ex s1 out) s:=by
 intro n
 induction n using Nat.strongRecOn with
 | _ n ih =>
  intro bs c K s out h
  cases n with
  | zero=>cases h
  | succ n =>
   have hcl:=Z2q (n:=n) Z4 htab fun bs c s out h=>ih n (Nat.lt_succ_self n) bs c [] s out h
   have hfn:=Z4r (g:=go P tab n) htab (fun f hf=>by
    obtain⟨x,hx⟩:=Option.isSome_iff_exists.1 hf
    exact (htab.T f x.1 x.2.1 x.2.2 hx).2) hcl
   rw[Z9f] at h
   cases c with
   | spec k =>
    cases k with
    | frg ts=>exact⟨n,Nat.lt_succ_self n,h⟩
    | pan ops =>
     simp only[Z0D] at h
     split at h
     ·rename_i s' ho
      exact Z5Z (QL hfn hcl ho ⟨n,Nat.lt_succ_self n,h⟩)
     ·cases h
    | _=>cases h
   | skip=>exact⟨n,Nat.lt_succ_self n,h⟩
   | ret=>simp only[Z0D,Option.some.injEq] at h; exact⟨n,Nat.lt_succ_self n,h.symm⟩
   | exit i =>
    refine⟨n,Nat.lt_succ_self n, ?_⟩
    simp only[Z0D] at h
    simp only[Z1Z]
    split at h
    ·exact h
    ·simp only[Option.some.injEq] at h; exact h.symm
   | reg ops =>
    simp only[Z0D] at h
    split at h
    ·rename_i s' ho
     exact QL hfn hcl ho ⟨n,Nat.lt_succ_self n,h⟩
    ·cases h
   | drw pre ops =>
    simp only[Z0D] at h
    split at h
    ·rename_i es s' ho
     split at h
     ·rename_i hd
      exact⟨es,s',Z3a hfn hcl ho,hd,n,Nat.lt_succ_self n,h⟩
     ·cases h
    ·cases h
   | seq a b =>
    show sw P bs a (thenS (sw P bs b _) _) s
    refine Zu (ih n (Nat.lt_succ_self n) bs a _ s out h) fun ex s1 ⟨m,hm,hr⟩=> ?_
    cases ex <;> simp only[thenS]
    ·exact Zu (ih m (by omega) bs b K s1 out hr) fun ex s2 ⟨m',hm',hr'⟩=>⟨m',by omega,hr'⟩
    ·exact⟨m,by omega,hr⟩
    ·exact hr.elim
    ·exact⟨m,by omega,hr⟩
    all_goals exact hr.elim
   | cond x a b =>
    simp only[Z0D] at h
    simp only[sw]
    split at h
    ·rename_i t hx
     rw[hx]
     simp only
     cases t
     ·rw[if_neg (by simp)]
      exact Zu (ih n (Nat.lt_succ_self n) bs b K s out h) fun ex s1 ⟨m,hm,hr⟩=>⟨m,by omega,hr⟩
     ·rw[if_pos rfl]
      exact Zu (ih n (Nat.lt_succ_self n) bs a K s out h) fun ex s1 ⟨m,hm,hr⟩=>⟨m,by omega,hr⟩
    ·cases h
   | block id c =>
    show sw P bs c (Qy id _) s
    refine Zu (ih n (Nat.lt_succ_self n) bs c _ s out h) fun ex s1 ⟨m,hm,hr⟩=> ?_
    cases ex <;> simp only[Qy]
    ·cases m with
     | zero=>cases hr
     | succ m=>exact⟨m,by omega,hr⟩
    ·rename_i i
     simp only[Z1Z,Z0g] at hr
     split
     ·rename_i hi; rw[if_pos hi] at hr; exact⟨m,by omega,hr⟩
     ·rename_i hi; rw[if_neg hi] at hr; exact⟨m,by omega,hr⟩
    ·exact hr.elim
    ·exact⟨m,by omega,hr⟩
    all_goals exact hr.elim
   | loop ts c =>
    refine⟨ts,fun k s'=>k<=n/\go P tab k bs (.sc c:: .sc (.loop ts c)::K) s'=some out,⟨n,Nat.le_refl _,h⟩,fun k s' hk=> ?_⟩
    refine Zu (ih k (by omega) bs c _ s' out hk.2) fun ex s1 ⟨m,hm,hr⟩=> ?_
    cases ex <;> simp only[thenS]
    ·cases m with
     | zero=>cases hr
     | succ m=>exact⟨m,by omega,by omega,hr⟩
    ·exact⟨m,by omega,hr⟩
    ·exact hr.elim
    ·exact⟨m,by omega,hr⟩
    all_goals exact hr.elim
   | rangeF N g ps a b =>
    simp only[Z0D] at h
    split at h
    ·rename_i f fa fc hg
     split at h
     ·rename_i hc
      split at h
      ·rename_i r ob' hcall
       split at h
       ·cases h
       rename_i hpn
       split at h
       ·rename_i st pend _ _ _ _ _ _ hl
        split at h
        ·cases h
        ·rename_i hst
         obtain⟨x,hx⟩:=Option.isSome_iff_exists.1 hc.2
         refine⟨_,_,Zm hc.1,fun i hi=>ZB (s:=⟨s.tm,rngS P s (s.nx bs) N ps a b⟩) i hi,⟨f,fa,fc,hg,(htab.T f x.1 x.2.1 x.2.2 hx).2⟩,hcl _ _ _ _ _ hcall, ?_⟩
         rintro r0 ob0 ⟨rfl,rfl⟩
         refine .inr ⟨by simpa using hpn,st,pend,_,_,_,_,_,_,hl,hst, ?_⟩
         split at h
         ·exact⟨n,Nat.lt_succ_self n,h⟩
         ·simp only[Option.some.injEq] at h; exact⟨n,Nat.lt_succ_self n,h.symm⟩
         ·refine⟨n,Nat.lt_succ_self n, ?_⟩
          simp only[Z1Z]
          split at h
          ·exact h
          ·simp only[Option.some.injEq] at h; exact h.symm
         ·cases h
       ·cases h
      ·cases h
     ·cases h
    ·cases h
theorem Z6N [CodesOf P] (Z4:DrawSound P) (htab:tab.OK P) (n:Nat) {d:D} {az:List D} {ob:Obs} {r:D} {ob':Obs} (h:Z2r tab (go P tab n) d az ob=some (r,ob')):CallL P d az ob fun r0 ob0=>r0=r/\ob0=ob' :=
 Z2q Z4 htab (fun bs c s out h=>ZbC Z4 htab n bs c [] s out h) d az ob r ob' h
theorem Qp [CodesOf P] (Z4:DrawSound P) (htab:tab.OK P) (n:Nat) {f:FuncId} {az:List D} {r:D} (h:fnE tab (go P tab n) f az=some r):FnOK P f az r :=
 Z4r htab (fun f hf=>by
    obtain⟨x,hx⟩:=Option.isSome_iff_exists.1 hf
    exact (htab.T f x.1 x.2.1 x.2.2 hx).2) (fun _ _ _ _ _ h=>Z6N Z4 htab n h) f az r h
end
end Go.Sx
