/- Own work: a layer over the kit: plain data,a walk over it,its soundness. -/
import Derived.RecoverIn
import Derived.RangeFuncLeaves
import Derived.Test.YtaclfbhhekhflaaGreatDoorSx5
import Derived.Test.YtaclfbhhekhflaaGreatDoorSx4
set_option linter.all false
namespace Go.Sx
open Go.RowKit
variable [Globs] [Codes]
theorem Z2m {α β:Type} {f:α->Option β}: ∀ {l:List α} {c:List β},l.mapM f=some c-> ∀ (k:Nat) (a:α),l[k]? = some a-> ∃ b,f a=some b/\c[k]? = some b
 |[],_,_,k,a,hk=>by simp at hk
 |x::l,c,h,k,a,hk=>by
  simp only[List.mapM_cons,Option.bind_eq_bind,Option.bind_eq_some_iff,Option.pure_def,Option.some.injEq] at h;obtain⟨b,h1,r,h2,rfl⟩:=h;cases k with
  |zero=>simp at hk;subst hk;exact⟨b,h1,rfl⟩
  |succ k=>obtain⟨d,e,g⟩:=Z2m h2 k a (by simpa using hk);exact⟨d,e,by simpa using g⟩
theorem Z1x {α β:Type} {f:α->Option β}: ∀ {l:List α} {a:List β},l.mapM f=some a->a.length=l.length
 |[],_,h=>by simp at h;subst h;rfl
 |x::l,a,h=>by
  simp only[List.mapM_cons,Option.bind_eq_bind,Option.bind_eq_some_iff,Option.pure_def,Option.some.injEq] at h;obtain⟨b,h1,r,h2,rfl⟩:=h;simp[Z1x h2]
def un (ops:Array Oper) (listed:Array Bool):List Nat:=(List.range ops.size).filter λi=>!listed.getD i true
theorem ZbE {ops:Array Oper} {listed:Array Bool} {i:Nat} (hs:listed.size=ops.size) (hi:i∈un ops listed):(un ops (listed.setIfInBounds i true)).length<(un ops listed).length:=by
 have e:un ops (listed.setIfInBounds i true)=(un ops listed).filter λj=>decide (j≠i):=by
  unfold un;rw[List.filter_filter];refine List.filter_congr λj c=>?_;have a:j<listed.size:=by rw[hs];exact List.mem_range.1 c
  by_cases h:j=i
  ·subst h;simp[a]
  ·simp[Array.getD_eq_getD_getElem?,Array.getElem?_setIfInBounds_ne (Ne.symm h),h]
 rw[e];exact List.length_filter_lt_length_iff_exists.2 ⟨i,hi,by simp⟩
theorem Z2h {ops:Array Oper} {listed:Array Bool} {i:Nat} (h:i∈Region.ready .any ops listed):i∈un ops listed:=by
 obtain⟨h1,o,h2,_⟩:=mem_ready.1 h;exact List.mem_filter.2 ⟨List.mem_range.2 (Array.getElem?_eq_some_iff.1 h2).1,by simpa using h1⟩
def Closed (ops:Array Oper) (listed:Array Bool):Prop:=∀ i o,ops[i]? = some o->listed.getD i false=true-> ∀ e∈o.after,Region.binds .any e=true->listed.getD e.on false=true
theorem Z4K {pre:List Nat} {i:Nat}: ∀ {l:List Edge} {m:Nat},(Z6B pre l m).testBit i=true->m.testBit i=true\/ ∃ e∈l,Region.binds .any e=true/\(i=e.on\/Q4 pre i e.on=true)
 |[],m,h=>.inl h
 |e::r,m,h=>by
  simp only[Z6B] at h;rcases Z4K h with h|⟨c,d,h⟩
  ·split at h
   ·rename_i a;simp only[Nat.testBit_or,Bool.or_eq_true] at h;rcases h with (h|h)|h
    ·exact .inl h
    ·refine .inr ⟨e,by simp,a,.inl ?_⟩
     have:=Nat.testBit_two_pow (n:=e.on) (m:=i);rw[this] at h;exact (of_decide_eq_true h).symm
    ·exact .inr ⟨e,by simp,a,.inr h⟩
   ·exact .inl h
  ·exact .inr ⟨c,List.mem_cons_of_mem _ d,h⟩
def Z8E (pre:List Nat) (ops:Array Oper):Prop:=∀ i j,Q4 pre i j=true-> ∃ o,ops[j]? = some o/\ ∃ e∈o.after,Region.binds .any e=true/\e.on<j/\(i=e.on\/Q4 pre i e.on=true)
theorem Q7 {ops:Array Oper} {listed:Array Bool} {pre:List Nat} (hp:Z8E pre ops) (c:Closed ops listed): ∀ (j i:Nat),(∀ o,ops[j]? = some o-> ∀ e∈o.after,Region.binds .any e=true->listed.getD e.on false=true)->Q4 pre i j=true->listed.getD i false=true:=by
 intro j;induction j using Nat.strongRecOn with
 |_ j p =>
  intro i k g;obtain⟨o,m,e,l,a,d,h⟩:=hp i j g;have hl:=k o m e l a;rcases h with rfl|h
  ·exact hl
  ·exact p e.on d i (λo' f=>c e.on o' f hl) h
theorem Z0L {listed:Array Bool} {i j:Nat} (hi:i<listed.size):(listed.setIfInBounds i true).getD j false=true ↔ listed.getD j false=true\/j=i:=by
 by_cases h:j=i
 ·subst h;simp[hi]
 ·simp[Array.getD_eq_getD_getElem?,Array.getElem?_setIfInBounds_ne (Ne.symm h),h]
theorem Qz {listed:Array Bool} {i:Nat} (hi:i<listed.size):listed.getD i true=listed.getD i false:=by simp[Array.getD,hi]
theorem Closed.set {ops:Array Oper} {listed:Array Bool} (a:Closed ops listed) {i:Nat} (hi:i<listed.size) (hr: ∀ o,ops[i]? = some o-> ∀ e∈o.after,Region.binds .any e=true->listed.getD e.on false=true):Closed ops (listed.setIfInBounds i true):=by grind [Z0L,Closed]
section latest
variable {V:Type} {L L':Nat->Prop} {wr:Nat->Option V} {v0 v v':V}
def Latest (L:Nat->Prop) (wr:Nat->Option V) (v0 v:V):Prop :=
 (∃ k x,L k/\wr k=some x/\v=x/\ ∀ a,L a->(wr a).isSome->a<=k)\/((∀ k,L k->wr k=none)/\v=v0)
theorem Latest.none (h: ∀ k,¬ L k):Latest L wr v0 v0:=by grind [Latest]
theorem Latest.skip {j:Nat} (h:Latest L wr v0 v) (a:wr j=Option.none):Latest (λk=>L k\/k=j) wr v0 v:=by grind [Latest]
theorem Latest.put {j:Nat} {x:V} (a:wr j=some x) (hl: ∀ k,L k->(wr k).isSome->k<=j):Latest (λk=>L k\/k=j) wr v0 x:=by grind [Latest]
theorem Latest.uniq (h:Latest L wr v0 v) (h':Latest L' wr v0 v') (a: ∀ k,(wr k).isSome->(L k ↔ L' k)):v=v':=by grind [Latest]
theorem Latest.congr (h:Latest L wr v0 v) (a: ∀ k,L k ↔ L' k):Latest L' wr v0 v:=by grind [Latest]
end latest
def twr (e:Eff) (t:Nat):Option (Option D):=match e.tm with
 |some (a,d)=>if t=a then some (some d) else none
 |none=>none
theorem Zsb (s:St) (e:Eff) (t:Nat):lk (s.app e).tm t=(twr e t).getD (lk s.tm t):=by
 simp only[St.app,twr];cases e.tm with
 |none=>rfl
 |some p =>
  obtain⟨a,d⟩:=p;simp only[lk];split
  ·rfl
  ·rename_i hi;rw[Zy,if_neg hi];rfl
theorem Zsc (s:St) (e:Eff) (i:Nat):lk (s.app e).ob i=(lk e.ob i).getD (lk s.ob i):=by grind [Z5m,St.app,lk]
theorem Z1h {α:Type} {p:Nat × α->Bool} (id:Nat): ∀ {l:List (Nat × α)},l.all p=true->(Z8 id l).all p=true
 |[],_=>rfl
 |(j,x)::r,h=>by
  simp only[List.all_cons,Bool.and_eq_true] at h;simp only[Z8];split
  ·exact Z1h id h.2
  ·simp only[List.all_cons,Bool.and_eq_true];exact⟨h.1,Z1h id h.2⟩
theorem Z5n {i:Nat}: ∀ {l:List (Nat × Option Ob)} {ob:Obs},(l.any λp=>match p.2 with|some o=>Ob.men i o|none=>false)=false->(ob.all λp=>!(Ob.men i p.2))=true->((setO l ob).all λp=>!(Ob.men i p.2))=true
 |[],ob,_,h=>h
 |(j,none)::r,ob,h1,h2=>by
  simp only[List.any_cons,Bool.false_or] at h1;exact Z1h j (Z5n h1 h2)
 |(j,some o)::r,ob,h1,h2=>by
  simp only[List.any_cons,Bool.or_eq_false_iff] at h1;simp only[setO,List.all_cons,Bool.and_eq_true,Bool.not_eq_true'];exact⟨h1.1,Z1h j (Z5n h1.2 h2)⟩
theorem Zek {s:St} {e:Eff} {i:Nat} (h:s.clean i=true) (a:e.men i=false):(s.app e).clean i=true:=by
 simp only[St.clean,Bool.and_eq_true] at h ⊢;simp only[Eff.men,Bool.or_eq_false_iff] at a;refine⟨?_,Z5n a.2 h.2⟩;simp only[St.app];cases c:e.tm with
 |none=>exact h.1
 |some p =>
  obtain⟨t,d⟩:=p
  have:=a.1;rw[c] at this;simp only[List.all_cons,Bool.and_eq_true,Bool.not_eq_true'];exact⟨this,Z1h t h.1⟩
theorem Env.top_erase (id:Nat): ∀ (l:Env),Env.top (Z8 id l)<=Env.top l
 |[]=>Nat.le_refl _
 |(j,d)::r=>by
  have:=Env.top_erase id r;simp only[Z8];split<;>simp only[Env.top]<;>omega
theorem Obs.top_erase (id:Nat): ∀ (l:Obs),Obs.top (Z8 id l)<=Obs.top l
 |[]=>Nat.le_refl _
 |(j,d)::r=>by
  have:=Obs.top_erase id r;simp only[Z8];split<;>simp only[Obs.top]<;>omega
theorem Z5l: ∀ (l:List (Nat × Option Ob)) (ob:Obs),Obs.top (setO l ob)<=max (otop l) (Obs.top ob)
 |[],ob=>by simp only[setO,otop];omega
 |(j,none)::r,ob=>by
  have h1:=Z5l r ob;have h2:=Obs.top_erase j (setO r ob);simp only[setO,otop];omega
 |(j,some o)::r,ob=>by
  have h1:=Z5l r ob;have h2:=Obs.top_erase j (setO r ob);simp only[setO,otop,Obs.top];omega
theorem ZlY {s:St} {e:Eff} {q:Nat} (h:s.top<=q) (c:e.top<=q):(s.app e).top<=q:=by
 have h1:Env.top s.tm<=q:=Nat.le_trans (Nat.le_max_left _ _) h;have h2:Obs.top s.ob<=q:=Nat.le_trans (Nat.le_max_right _ _) h;have g:=Z5l e.ob s.ob;have i:otop e.ob<=q:=Nat.le_trans (Nat.le_max_right _ _) c;have a:(match e.tm with|some (_,d)=>D.top d|none=>0)<=q:=Nat.le_trans (Nat.le_max_left _ _) c;simp only[St.top,St.app];refine Nat.max_le.2 ⟨?_,by omega⟩;cases f:e.tm with
 |none=>exact h1
 |some p =>
  obtain⟨t,d⟩:=p;rw[f] at a
  have:=Env.top_erase t s.tm;simp only[Env.top];simp only at a;omega
def stAt:List Eff->St->Nat->St
 |_,s,0=>s
 |[],s,_=>s
 |e::es,s,k+1=>stAt es (s.app e) k
theorem Z6o: ∀ {es:List Eff} {s:St} {k:Nat} {e:Eff},es[k]? = some e->stAt es s (k+1)=(stAt es s k).app e
 |[],_,k,_,h=>by simp at h
 |x::es,s,0,e,h=>by
  simp at h;subst h;cases es<;>rfl
 |x::es,s,k+1,e,h=>by
  have:=Z6o (es:=es) (s:=s.app x) (k:=k) (e:=e) (by simpa using h);simpa [stAt] using this
theorem Z2T {P:Program} {b:Nat}: ∀ {sops:List SOp} {s:St} {es:List Eff} {s':St},Z7m P b sops s es s'->sops.length=es.length/\s'=stAt es s es.length/\ ∀ k o,sops[k]? = some o-> ∃ e,es[k]? = some e/\Has P b o (stAt es s k) e
 |[],s,[],s',h=>⟨rfl,(show s'=s from h),λk o hk=>by simp at hk⟩
 |o::r,s,e::es,s',h=>by
  obtain⟨h1,h2⟩:=h;obtain⟨c,d,f⟩:=Z2T h2;refine⟨by simp[c],by simpa [stAt] using d,λk o' hk=>?_⟩;cases k with
  |zero=>simp at hk;subst hk;exact⟨e,rfl,by simpa [stAt] using h1⟩
  |succ k=>obtain⟨a,g,i⟩:=f k o' (by simpa using hk);exact⟨a,by simpa using g,by simpa [stAt] using i⟩
 |[],_,_::_,_,h=>h.elim
 |_::_,_,[],_,h=>h.elim
theorem Z6n {pre:List Nat} {j:Nat} {o2:SOp}: ∀ {l:List SOp} {i0:Nat},Zc0 pre j o2 i0 l=true-> ∀ (k:Nat) (o1:SOp),l[k]? = some o1->Q4 pre (i0+k) j=true\/Z1l o1 o2=true
 |[],_,_,k,_,h=>by simp at h
 |o::l,i0,h,k,o1,h1=>by
  simp only[Zc0,Bool.and_eq_true,Bool.or_eq_true] at h;cases k with
  |zero=>simp at h1;subst h1;simpa using h.1
  |succ k =>
   have:=Z6n h.2 k o1 (by simpa using h1);rwa [show i0+1+k=i0+(k+1) by omega] at this
theorem Z4D {pre:List Nat} {a:List SOp}: ∀ {l:List SOp} {c:Nat},Z96 pre a c l=true-> ∀ (k:Nat) (o2:SOp),l[k]? = some o2->Zc0 pre (c+k) o2 0 (a.take (c+k))=true
 |[],_,_,k,_,h=>by simp at h
 |o::l,c,h,k,o2,h1=>by
  simp only[Z96,Bool.and_eq_true] at h;cases k with
  |zero=>simp at h1;subst h1;simpa using h.1
  |succ k =>
   have:=Z4D h.2 k o2 (by simpa using h1);rwa [show c+1+k=c+(k+1) by omega] at this
theorem Z3P: ∀ {es:List Eff} {i0 k:Nat} {e:Eff},es[k]? = some e->(e.ob=[]/\e.rd=[])\/(i0+k,e)∈Z7U i0 es
 |[],_,_,_,h=>by simp at h
 |x::es,i0,k,e,h=>by
  cases k with
  |zero =>
   simp at h;subst h;simp only[Z7U];split
   ·rename_i h1 h2;exact .inl ⟨h1,h2⟩
   ·exact .inr (by simp)
  |succ k =>
   have:=Z3P (es:=es) (i0:=i0+1) (k:=k) (e:=e) (by simpa using h);rw[show i0+1+k=i0+(k+1) by omega] at this;rcases this with this|this
   ·exact .inl this
   ·refine .inr ?_;simp only[Z7U];split
    ·exact this
    ·exact List.mem_cons_of_mem _ this
theorem Z3p {p:Nat->Eff->Bool}: ∀ {es:List Eff} {i0:Nat},allI p i0 es=true-> ∀ (k:Nat) (e:Eff),es[k]? = some e->p (i0+k) e=true
 |[],_,_,k,_,h=>by simp at h
 |x::es,i0,h,k,e,h1=>by
  simp only[allI,Bool.and_eq_true] at h;cases k with
  |zero=>simp at h1;subst h1;simpa using h.1
  |succ k =>
   have:=Z3p h.2 k e (by simpa using h1);rwa [show i0+1+k=i0+(k+1) by omega] at this
theorem Z3N {b:Nat} {pre:List Nat} {c:List Eff}: ∀ {l:List SOp} {es:List Eff} {a:Nat},Z5v b pre c a l es=true-> ∀ (k:Nat) (o:SOp) (e:Eff),l[k]? = some o->es[k]? = some e →
  (e.ob≠[]-> ∀ t,o.dst=some t-> ∀ (i:Nat) (x:Eff),c[i]? = some x->i=a+k\/Q4 pre (a+k) i=true\/x.men (b+t)=false)/\(∀ q,e.cd=some q-> ∀ (i:Nat) (x:Eff),c[i]? = some x->i=a+k\/Q4 pre (a+k) i=true\/x.top<=q)
 |[],_,_,_,k,_,_,h,_=>by simp at h
 |_::_,[],_,_,k,_,_,_,h=>by simp at h
 |o'::l,m::es,a,h,k,o,e,h1,h2=>by
  simp only[Z5v,Bool.and_eq_true] at h;cases k with
  |zero =>
   simp at h1 h2;subst h1;subst h2;refine⟨λf t j i x hx=>?_,λq g i x hx=>?_⟩
   ·have:=h.1.1;split at this
    ·rename_i d;exact absurd d f
    ·rw[j] at this
     have:=Z3p this i x hx;simp only[Nat.zero_add,Bool.or_eq_true,beq_iff_eq,Bool.not_eq_true'] at this;rcases this with (this|this)|this
     ·exact .inl this
     ·exact .inr (.inl this)
     ·exact .inr (.inr this)
   ·have:=h.1.2;rw[g] at this
    have:=Z3p this i x hx;simp only[Nat.zero_add,Bool.or_eq_true,beq_iff_eq,decide_eq_true_eq] at this;rcases this with (this|this)|this
    ·exact .inl this
    ·exact .inr (.inl this)
    ·exact .inr (.inr this)
  |succ k =>
   have:=Z3N h.2 k o e (by simpa using h1) (by simpa using h2);rwa [show a+1+k=a+(k+1) by omega] at this
section
variable {b:Nat} {pre:List Nat} {ops:List SOp} {es:List Eff} {s:St}
theorem Z5U (h:dchk b pre ops es s=true) {i j:Nat} {o1 o2:SOp} (a:i<j) (h1:ops[i]? = some o1) (h2:ops[j]? = some o2) (c: ¬ Q4 pre i j=true):Z1l o1 o2=true:=by
 simp only[dchk,Bool.and_eq_true] at h
 have:=Z4D h.1.1.1 j o2 h2;rw[Nat.zero_add] at this
 have:=Z6n this i o1 (by rw[List.getElem?_take,if_pos a];exact h1);rw[Nat.zero_add] at this;exact this.resolve_left c
theorem Z5V (h:dchk b pre ops es s=true) {i j:Nat} {c a:Eff} (l:i<j) (o:es[i]? = some c) (r:es[j]? = some a) (k: ¬ Q4 pre i j=true) :
  (∀ p∈c.ob,p.1 ∉ a.rd/\ ∀ q∈a.ob,q.1≠p.1)/\ ∀ p∈a.ob,p.1 ∉ c.rd:=by
 simp only[dchk,Bool.and_eq_true,List.all_eq_true,Bool.or_eq_true,decide_eq_true_eq] at h;have hm:=h.1.1.2;rcases Z3P (i0:=0) o with⟨h1,h2⟩|h1
 ·rw[h1,h2];simp
 ·rcases Z3P (i0:=0) r with⟨d,e⟩|d
  ·rw[d,e];simp
  ·have:=hm _ d _ h1;simp only[Nat.zero_add] at this;rcases this with (this|this)|this
   ·omega
   ·exact absurd this k
   ·unfold Z9x at this;split at this
    ·rename_i f g;rw[f,g];simp
    ·simp only[Bool.and_eq_true,List.all_eq_true,Bool.not_eq_true',List.any_eq_false,beq_iff_eq] at this;refine⟨λp hp=>⟨λhc=>?_,λq m=>(this.1 p hp).2 q m⟩,λp hp hc=>?_⟩
     ·have:=(this.1 p hp).1;rw[List.contains_iff_mem.2 hc] at this;cases this
     ·have:=this.2 p hp;rw[List.contains_iff_mem.2 hc] at this;cases this
theorem Z4X (h:dchk b pre ops es s=true) {j:Nat} {o:SOp} {e:Eff} (h1:ops[j]? = some o) (h2:es[j]? = some e) :
  (e.ob≠[]-> ∀ t,o.dst=some t-> ∀ (i:Nat) (x:Eff),es[i]? = some x->i=j\/Q4 pre j i=true\/x.men (b+t)=false)/\(∀ q,e.cd=some q-> ∀ (i:Nat) (x:Eff),es[i]? = some x->i=j\/Q4 pre j i=true\/x.top<=q):=by
 simp only[dchk,Bool.and_eq_true] at h
 have:=Z3N h.1.2 j o e h1 h2;simpa using this
theorem ZgE (h:dchk b pre ops es s=true) {e:Eff} (a:e∈es) {q:Nat} (c:e.cd=some q):s.top<=q:=by grind [dchk]
end
end Go.Sx
namespace Go.Sx
open Go.RowKit
variable [Globs] [Codes]
section
variable {P:Program} {F:Fence} {N:Nat} {cx:Cx} {bs:Nat} {ops:Array Oper} {sops:List SOp} {ds:List Deferred} {Q:Exit->St->Prop} {bt fz:Nat->Bool} {pre:List Nat} {es:List Eff} {s0:St}
structure Inv (es:List Eff) (s0:St) (L:Nat->Prop) (s:St):Prop where
 tm: ∀ t,Latest L (λk=>(es[k]?).bind (twr · t)) (lk s0.tm t) (lk s.tm t)
 ob: ∀ i,Latest L (λk=>(es[k]?).bind (λe=>lk e.ob i)) (lk s0.ob i) (lk s.ob i)
 clean: ∀ i,s0.clean i=true->(∀ k e,L k->es[k]? = some e->e.men i=false)->s.clean i=true
 top: ∀ q,s0.top<=q->(∀ k e,L k->es[k]? = some e->e.top<=q)->s.top<=q
theorem Inv.congr {L L':Nat->Prop} {s:St} (h:Inv es s0 L s) (a: ∀ k,L k ↔ L' k):Inv es s0 L' s :=
 ⟨λt=>(h.tm t).congr a,λi=>(h.ob i).congr a,λi h1 h2=>h.clean i h1 λk e hk=>h2 k e ((a k).1 hk),λq h1 h2=>h.top q h1 λk e hk=>h2 k e ((a k).1 hk)⟩
theorem Inv.zero:Inv es s0 (λ_=>False) s0:=by grind [Latest.none,Inv]
theorem Inv.step {L:Nat->Prop} {s:St} (h:Inv es s0 L s) {k:Nat} {e:Eff} (hk:es[k]? = some e) (m: ∀ t j a,L j->es[j]? = some a->(twr e t).isSome->(twr a t).isSome->j<=k) (l: ∀ i j a,L j->es[j]? = some a->(lk e.ob i).isSome->(lk a.ob i).isSome->j<=k) :
  Inv es s0 (λj=>L j\/j=k) (s.app e):=by
 refine⟨λt=>?_,λi=>?_,λi h1 h2=>?_,λq h1 h2=>?_⟩
 ·rw[Zsb];cases g:twr e t with
  |none=>exact (h.tm t).skip (by simp[hk,g])
  |some x =>
   refine Latest.put (by simp[hk,g]) λj f d=>?_;cases c:es[j]? with
   |none=>rw[c] at d;cases d
   |some a=>rw[c] at d;exact m t j a f c (by rw[g];rfl) d
 ·rw[Zsc];cases g:lk e.ob i with
  |none=>exact (h.ob i).skip (by simp[hk,g])
  |some x =>
   refine Latest.put (by simp[hk,g]) λj f d=>?_;cases c:es[j]? with
   |none=>rw[c] at d;cases d
   |some a=>rw[c] at d;exact l i j a f c (by rw[g];rfl) d
 ·exact Zek (h.clean i h1 λj a f c=>h2 j a (.inl f) c) (h2 k e (.inr rfl) hk)
 ·exact ZlY (h.top q h1 λj a f c=>h2 j a (.inl f) c) (h2 k e (.inr rfl) hk)
theorem Inv.at (n:Nat) (f:n<=es.length):Inv es s0 (· < n) (stAt es s0 n):=by
 induction n with
 |zero =>
  have:stAt es s0 0=s0:=by cases es<;>rfl
  rw[this];exact Inv.zero.congr λk=>by simp
 |succ n e =>
  have c:es[n]? = some es[n]:=List.getElem?_eq_getElem (by omega);rw[Z6o c];exact ((e (by omega)).step c (λt j d a _ _ _=>Nat.le_of_lt a) (λi j d a _ _ _=>Nat.le_of_lt a)).congr λk=>by show (k<n\/k=n) ↔ k<n+1;omega
theorem Zdj {b:Nat} {o:SOp} {s:St} {e:Eff} (h:Has P b o s e) {t:Nat} (i:(twr e t).isSome):o.dst=some t:=by
 have key: ∀ d:Option Nat,(∃ x,e.tm=d.map (·,x))->d=some t:=λd ⟨x,hx⟩=>by
  simp only[twr,hx] at i;cases d with
  |none=>cases i
  |some p =>
   grind
 have body:HasB P b o s e->o.dst=some t:=λc=>by
  cases o with
  |a dst g op xs =>
   obtain⟨_,_,j⟩:=c;by_cases hx: ∃ x,e.tm=dst.map (·,x)
   ·exact key dst hx
   ·exact (let ⟨d,nb,hk⟩:=Zdz j;hx ⟨d,hk.1⟩).elim
  |st g sz x y =>
   grind [Zdz,hx,twr,HasB,Has,gud]
  |app dst g fz sz l x y =>
   simp only[HasB] at c;split at c
   ·obtain⟨_,c⟩:=c;split at c
    ·exact key (some dst) ⟨_,by rw[c.2];rfl⟩
    ·split at c
     ·exact key (some dst) ⟨_,by rw[c.2.2.2];rfl⟩
     ·exact c.elim
    ·exact c.elim
   ·exact c.elim
  |cd dst g x xs =>
   obtain⟨nm,r,ob',base,_,_,_,_,_,f⟩:=c;exact key dst ⟨_,by rw[f]⟩
 have skip:e=⟨[],o.dst.map (·,.nov),[],none⟩->o.dst=some t:=λf=>key o.dst ⟨_,by rw[f]⟩;unfold Has at h;cases k:o.gd with
 |none=>rw[k] at h;exact body h
 |some m =>
  grind [Zdz,hx,twr,HasB,Has,gud]
theorem ZiM {o:SOp} {t:Nat} (h:t∈Z6e o.gd):t∈o.tmps:=by grind [SOp.gd,SOp.tmps,SOp,Z6e]
theorem Has.congr {b:Nat} {o:SOp} {s s':St} {e:Eff} (h:Has P b o s e) (a: ∀ t∈o.tmps,lk s.tm t=lk s'.tm t) (d: ∀ i∈e.rd,lk s.ob i=lk s'.ob i):Has P b o s' e :=
 Zdk (λt h=>a t (ZiM h)) (Qb (λc=>c.congr a d) id h)
theorem Z9m {H:Nat->SOp->St->Eff->Prop} (m: ∀ {k o s e t},H k o s e->(twr e t).isSome->o.dst=some t) (I: ∀ {k o s s' e},H k o s e->(∀ t∈o.tmps,lk s.tm t=lk s'.tm t)->(∀ i∈e.rd,lk s.ob i=lk s'.ob i)->H k o s' e)
  (S: ∀ k o,sops[k]? = some o-> ∃ e,es[k]? = some e/\H k o (stAt es s0 k) e) (hlen:sops.length=es.length) (a:dchk bs pre sops es s0=true) {L:Nat->Prop} {s:St} (R:Inv es s0 L s) (G:s0.top<=bs)
  {k:Nat} {o:SOp} (hk:sops[k]? = some o) (hL: ¬ L k) (hlt: ∀ j,L j->j<es.length) (W: ∀ i,Q4 pre i k=true->L i) (hcl: ∀ j i,L j->Q4 pre i j=true->L i) :
  ∃ e,es[k]? = some e/\H k o s e/\(e.ob≠[]-> ∀ t,o.dst=some t->s.clean (bs+t)=true)/\(∀ q,e.cd=some q->s.top<=q)/\Inv es s0 (λj=>L j\/j=k) (s.app e):=by
 obtain⟨e,w,hh⟩:=S k o hk;have hkl:k<es.length:=(List.getElem?_eq_some_iff.1 w).1;have E: ∀ j f,es[j]? = some f-> ∃ o',sops[j]? = some o'/\H j o' (stAt es s0 j) f:=λj f d=>by
  grind
 -- an O ahead in the text Y is not in L,and one behind Y is
 have X: ∀ j,j<k-> ¬ L j-> ¬ Q4 pre j k=true:=λj _ u hb=>u (W j hb);have B: ∀ j,k<j->L j-> ¬ Q4 pre k j=true:=λj _ hl hb=>hL (hcl j k hl hb);have C:=Inv.at (es:=es) (s0:=s0) k (by omega);have hmem: ∀ {l:List Nat} {t:Nat},l.contains t=false->t ∉ l:=λh hm=>by rw[List.contains_iff_mem.2 hm] at h;cases h
 have hag: ∀ t∈o.tmps,lk (stAt es s0 k).tm t=lk s.tm t:=λt ht=>(C.tm t).uniq (R.tm t) λj g=>by
  cases d:es[j]? with
  |none=>rw[d] at g;cases g
  |some f =>
   rw[d] at g;obtain⟨o',z,J⟩:=E j f d;have hd:=m J (t:=t) g;refine⟨λr=>?_,λhl=>?_⟩
   ·apply Classical.byContradiction;intro u
    have:=Z5U a r z hk (X j r u);simp only[Z1l,hd,Bool.and_eq_true,Bool.not_eq_true'] at this;exact hmem this.1.1 ht
   ·rcases Nat.lt_trichotomy j k with h|h|h
    ·exact h
    ·grind
    ·have:=Z5U a h hk z (B j h hl);simp only[Z1l,hd,Bool.and_eq_true,Bool.not_eq_true'] at this;exact absurd ht (hmem this.2)
 have hao: ∀ i∈e.rd,lk (stAt es s0 k).ob i=lk s.ob i:=λi hi=>(C.ob i).uniq (R.ob i) λj g=>by
  cases d:es[j]? with
  |none=>rw[d] at g;cases g
  |some f =>
   rw[d] at g;obtain⟨x,hx⟩:=Option.isSome_iff_exists.1 g;obtain⟨p,hp,A⟩:=Z9B hx;refine⟨λr=>?_,λhl=>?_⟩
   ·apply Classical.byContradiction;intro u
    have:=((Z5V a r d w (X j r u)).1 p hp).1;rw[A] at this;exact this hi
   ·rcases Nat.lt_trichotomy j k with h|h|h
    ·exact h
    ·grind
    ·have:=(Z5V a h w d (B j h hl)).2 p hp;rw[A] at this;exact absurd hi this
 refine⟨e,w,I hh hag hao,λhne t ht=>?_,λq hq=>?_,R.step w (λt j f d c g M=>?_) (λi j f d c g M=>?_)⟩
 ·refine R.clean _ ?_ λj f d c=>?_
  ·simp only[St.clean,Bool.and_eq_true,List.all_eq_true,Bool.not_eq_true'];refine⟨λp hp=>D.top_men _ _ ?_,λp hp=>D.topL_men _ _ ?_⟩
   ·have h1:Env.top s0.tm<=bs+t:=Nat.le_trans (Nat.le_max_left _ _) (Nat.le_trans G (Nat.le_add_right _ _));exact ZdI h1 hp
   ·have h1:Obs.top s0.ob<=bs+t:=Nat.le_trans (Nat.le_max_right _ _) (Nat.le_trans G (Nat.le_add_right _ _));exact ZcJ h1 hp
  ·rcases (Z4X a hk w).1 hne t ht j f c with h|h|h
   ·grind
   ·grind
   ·exact h
 ·refine R.top q (ZgE a (List.mem_of_getElem? w) hq) λj f d c=>?_;rcases (Z4X a hk w).2 q hq j f c with h|h|h
  ·grind
  ·grind
  ·exact h
 ·obtain⟨o',z,J⟩:=E j f c;apply Classical.byContradiction;intro T
  have:=Z5U a (by omega) hk z (B j (by omega) d);have d1:=m hh g;have d2:=m J M;simp[Z1l,d1,d2] at this
 ·apply Classical.byContradiction;intro T;obtain⟨x,hx⟩:=Option.isSome_iff_exists.1 g;obtain⟨y,hy⟩:=Option.isSome_iff_exists.1 M;obtain⟨p,hp,A⟩:=Z9B hx;obtain⟨p',hp',U⟩:=Z9B hy;exact ((Z5V a (by omega) w c (B j (by omega) d)).1 p hp).2 p' hp' (by rw[A,U])
theorem ZcF (a: ∀ k o,sops[k]? = some o-> ∃ e,es[k]? = some e/\Has P bs o (stAt es s0 k) e) (d:sops.length=es.length) (c:dchk bs pre sops es s0=true) {L:Nat->Prop} {s:St} (p:Inv es s0 L s) (g:s0.top<=bs)
  {k:Nat} {o:SOp} (hk:sops[k]? = some o) (r: ¬ L k) (m: ∀ j,L j->j<es.length) (f: ∀ i,Q4 pre i k=true->L i) (l: ∀ j i,L j->Q4 pre i j=true->L i) :
  ∃ e,es[k]? = some e/\Has P bs o s e/\(e.ob≠[]-> ∀ t,o.dst=some t->s.clean (bs+t)=true)/\(∀ q,e.cd=some q->s.top<=q)/\Inv es s0 (λj=>L j\/j=k) (s.app e) :=
 Z9m (H:=λ_ o s e=>Has P bs o s e) (λh u=>Zdj h u) (λh=>h.congr) a d c p g hk r m f l
theorem ZgB (hF:Fence.Open F) (hbs:cx.bs<=bs) (hgl:GlobC cx.φ0 cx.w0 cx.Z) (hl:ops.toList.mapM (λo=>QL P bt (fz (o.dst.getD 0)) ops o)=some sops) (R:QJ cx.N ops=true)
  (T: ∀ i o,ops[i]? = some o-> ∀ e∈o.after,Region.binds .any e=true->e.on<i) (Y:Z8E pre ops)
  (M: ∀ k o,sops[k]? = some o-> ∃ e,es[k]? = some e/\Has P bs o (stAt es s0 k) e) (S:sops.length=es.length) (O:dchk bs pre sops es s0=true) (X:s0.top<=bs) (hK:Q .normal (stAt es s0 es.length)) :
  ∀ (c:Nat) (listed:Array Bool) (s:St) (φ:Mem) (h:Nat->Value) (tmps:Array Value) (w:World),listed.size=ops.size->Closed ops listed →
   Inv es s0 (λk=>listed.getD k false=true) s->(un ops listed).length<=c->Mod cx s φ h tmps w->wpAnyIn F N P .any ops (PostM cx ds Q) c listed ⟨tmps,ds⟩ w:=by
 have hlo:sops.length=ops.size:=by have:=Z1x hl;simpa using this
 -- all are done
 have y: ∀ (listed:Array Bool) (s:St) (φ:Mem) (h:Nat->Value) (tmps:Array Value) (w:World),listed.size=ops.size->(∀ k,k<ops.size->listed.getD k false=true)->Inv es s0 (λk=>listed.getD k false=true) s->Mod cx s φ h tmps w->PostM cx ds Q .normal ⟨tmps,ds⟩ w:=by
  intro listed s φ h tmps w hsz H z hm;have I:=Inv.at (es:=es) (s0:=s0) es.length (Nat.le_refl _);have u: ∀ k,k<es.length ↔ listed.getD k false=true:=λk=>by
   refine⟨λhk=>H k (by omega),λhk=>?_⟩;apply Classical.byContradiction;intro hn;have:listed.getD k false=false:=by simp[Array.getD,show ¬ k<listed.size by omega]
   rw[this] at hk;cases hk
  refine PostM.of hK (hm.weaken (λt d R=>?_) λi o p=>?_)
  ·rw[<- R];exact (z.tm t).uniq (I.tm t) λk _=>(u k).symm
  ·rw[<- p];exact (z.ob i).uniq (I.ob i) λk _=>(u k).symm
 have C: ∀ listed:Array Bool,listed.size=ops.size->un ops listed=[]-> ∀ k,k<ops.size->listed.getD k false=true:=λlisted hsz E k hk=>by
  cases U:listed.getD k false with
  |true=>rfl
  |false =>
   have:k∈un ops listed:=List.mem_filter.2 ⟨List.mem_range.2 hk,by rw[Qz (by omega),U];rfl⟩;rw[E] at this;cases this
 intro c;induction c with
 |zero =>
  intro listed s φ h tmps w hsz g z E hm;have m:un ops listed=[]:=List.eq_nil_of_length_eq_zero (by omega);refine⟨?_,y listed s φ h tmps w hsz (C listed hsz m) z hm⟩;cases U:Region.ready .any ops listed with
  |nil=>rfl
  |cons x xs =>
   have:=Z2h (ops:=ops) (listed:=listed) (i:=x) (by rw[U];simp);rw[m] at this;cases this
 |succ c ih =>
  intro listed s φ h tmps w hsz g z E hm;refine⟨λhrn=>?_,λi hi=>?_⟩
  ·-- nothing is ready: all are done
   refine y listed s φ h tmps w hsz (λk hk=>?_) z hm;cases U:listed.getD k false with
   |true=>rfl
   |false =>
    exfalso;have: ∃ k,k<ops.size/\listed.getD k false=false/\ ∀ j,j<k->listed.getD j false=true:=by
     induction k using Nat.strongRecOn with
     |_ k ihk =>
      by_cases A: ∃ j,j<k/\listed.getD j false=false
      ·obtain⟨j,B,hjq⟩:=A;exact ihk j B (by omega) hjq
      ·refine⟨k,hk,U,λj B=>?_⟩;cases hq':listed.getD j false with
       |true=>rfl
       |false=>exact absurd ⟨j,B,hq'⟩ A
    obtain⟨k0,h1,h2,h3⟩:=this;have hr:k0∈Region.ready .any ops listed:=mem_ready.2 ⟨by rw[Qz (by omega)];exact h2,ops[k0],Array.getElem?_eq_getElem h1,λe he J=>h3 _ (T k0 ops[k0] (Array.getElem?_eq_getElem h1) e he J)⟩;rw[hrn] at hr;cases hr
  ·obtain⟨h1,o,p,W⟩:=mem_ready.1 hi;have hilt:=(Array.getElem?_eq_some_iff.1 p).1;rw[Qz (by omega)] at h1;obtain⟨so,hcs,hso⟩:=Z2m hl i o (by simpa using p);obtain⟨e,he,hh,r,hcd,hI'⟩:=ZcF M S O z X hso (by simp only[h1];simp)
    (λj A=>by
     apply Classical.byContradiction;intro hn;have:listed.getD j false=false:=by simp[Array.getD,show ¬ j<listed.size by omega]
     rw[this] at A;cases A)
    (λj J=>Q7 Y g i j (λo' f=>by rw[p] at f;cases f;exact W) J)
    (λj q A J=>Q7 Y g j q (λo' f=>g j o' f A) J)
   have hst:=Z2F hh r hcd;have hs:=Q9 (ds:=ds) (n:=N) (Q:=PostM cx ds Q) hF hbs hgl hcs (ZO R o (by simpa using Array.mem_of_getElem? p)) hm hst;have l: ∀ a w',Z0B cx ds (λs1=>Alike s1 (s.app e)) a w'->wpAnyIn F N P .any ops (PostM cx ds Q) c (listed.setIfInBounds i true) a w':=by
    rintro⟨tm,df⟩ w' ⟨hdf,s1,φ',h',G,hm'⟩;cases hdf;refine ih _ (s.app e) φ' h' tm w' (by simpa using hsz) (g.set (by omega) λo' f=>by rw[p] at f;cases f;exact W) (hI'.congr λk=>(Z0L (by omega)).symm) (by have:=ZbE hsz (Z2h hi);omega) (hm'.weaken (λt d R=>by rw[G.1 t];exact R) λi o p=>by rw[G.2 i];exact p)
   unfold wpOpIn;simp only[p];split at hs
   ·rename_i hw;rw[if_pos hw];exact Oper.wpIn_mono l hs
   ·rename_i hw;rw[if_neg hw];exact⟨hs.1,l _ _ hs.2⟩
theorem HasPn.congr {b:Nat} {o:SOp} {s s':St} {v:Value} {e:Eff} (h:HasPn P b o s v e) (j: ∀ t∈o.tmps,lk s.tm t=lk s'.tm t) (q: ∀ i∈e.rd,lk s.ob i=lk s'.ob i):HasPn P b o s' v e:=by
 cases o with
 |cd dst g x xs =>
  cases g with
  |some _=>exact h.elim
  |none =>
   obtain⟨nm,base,h1,h2,m,p,f⟩:=h;have hx:=ZY (s:=s) (s':=s') (x:=x) λt h=>j t (by simp only[SOp.tmps,List.mem_append];exact .inl (ZZ.2 (.inl h)));have c: ∀ x∈xs,s.get x=s'.get x:=λy d=>ZY λt h=>j t (by simp only[SOp.tmps,List.mem_append];exact .inl (ZZ.2 (.inr (Z22 d h))));have a: ∀ i,i∈nm\/i∈vids (xs.map s.get)->lk s.ob i=lk s'.ob i:=λi hi=>q i (by rw[f];exact List.mem_append.2 hi);have k:xs.map s.get=xs.map s'.get:=List.map_congr_left c;have l:(xs.map λy=>dva (s.get x) (lk s.ob) (s.get y))=xs.map λy=>dva (s.get x) (lk s'.ob) (s'.get y):=List.map_congr_left λy d=>by
    rw[<- c y d];exact Z70 λi hi=>a i (.inr (Z8Q d hi))
   refine⟨nm,base,h1,λi hi=>by rw[<- a i (.inl hi)];exact h2 i hi,m,?_,by rw[f,k]⟩;rw[<- hx,<- l,<- Z1U (ob:=s.ob) λi hi=>a i (.inl hi)];exact p
 |_=>exact h.elim
theorem HasC.congr {b:Nat} {o:SOp} {s s':St} {q:Eff × Option (Nat × Nat × D)} (h:HasC P b o s q) (a: ∀ t∈o.tmps,lk s.tm t=lk s'.tm t) (f: ∀ i∈q.1.rd,lk s.ob i=lk s'.ob i):HasC P b o s' q:=by
 obtain⟨e,c⟩:=q;cases c with
 |none=>exact Has.congr h a f
 |some c =>
  obtain⟨id,off,m⟩:=c;simp only[HasC] at h ⊢;split at h
  ·rename_i t x;refine⟨?_,h.2⟩;rw[<- h.1];cases x with
   |t n=>simp only[St.get];rw[a n (by simp[SOp.tmps,Z0U])]
   |c d=>rfl
  ·exact h.elim
theorem HasC.dst {b:Nat} {o:SOp} {s:St} {q:Eff × Option (Nat × Nat × D)} (h:HasC P b o s q) {t:Nat} (a:(twr q.1 t).isSome):o.dst=some t:=by
 obtain⟨e,c⟩:=q;cases c with
 |none=>exact Zdj h a
 |some c =>
  obtain⟨id,off,m⟩:=c;simp only[HasC] at h;split at h
  ·obtain⟨_,rfl⟩:=h;simp only[twr] at a;split at a
   ·rename_i e;rw[e];rfl
   ·cases a
  ·exact h.elim
theorem HasO.dst {b k:Nat} {pan:Option (Nat × Value)} {o:SOp} {s:St} {q:Eff × Option (Nat × Nat × D)} (h:HasO P b pre pan k o s q) {t:Nat} (a:(twr q.1 t).isSome):o.dst=some t:=by
 unfold HasO at h;split at h
 ·exact h.dst a
 ·split at h
  ·unfold HasPn at h;split at h
   ·obtain⟨nm,base,_,_,_,_,c⟩:=h;rw[c] at a;cases a
   ·exact h.elim
  ·split at h
   ·rw[h] at a;cases a
   ·exact h.dst a
theorem HasO.congr {b k:Nat} {pan:Option (Nat × Value)} {o:SOp} {s s':St} {q:Eff × Option (Nat × Nat × D)} (h:HasO P b pre pan k o s q) (c: ∀ t∈o.tmps,lk s.tm t=lk s'.tm t) (a: ∀ i∈q.1.rd,lk s.ob i=lk s'.ob i):HasO P b pre pan k o s' q:=by
 unfold HasO at h ⊢;split at h
 ·exact h.congr c a
 ·split at h
  ·rename_i hk;rw[if_pos hk];exact h.congr c a
  ·rename_i hk;rw[if_neg hk];split at h
   ·grind
   ·rename_i d;rw[if_neg d];exact h.congr c a
theorem Z4h {b:Nat} {pan:Option (Nat × Value)}: ∀ {sops:List SOp} {a:Nat} {s:St} {qs:List (Eff × Option (Nat × Nat × D))} {s':St},Z4t P b pre pan a sops s qs s'->sops.length=qs.length/\s'=stAt (qs.map (·.1)) s qs.length ∧
  ∀ k o,sops[k]? = some o-> ∃ q,qs[k]? = some q/\HasO P b pre pan (a+k) o (stAt (qs.map (·.1)) s k) q
 |[],_,s,[],s',h=>⟨rfl,(show s'=s from h),λk o hk=>by simp at hk⟩
 |o::r,a,s,q::qs,s',h=>by
  obtain⟨h1,h2⟩:=h;obtain⟨d,e,f⟩:=Z4h h2;refine⟨by simp[d],by simpa [stAt] using e,λk o' hk=>?_⟩;cases k with
  |zero=>simp at hk;subst hk;exact⟨q,rfl,by simpa [stAt] using h1⟩
  |succ k =>
   obtain⟨c,g,i⟩:=f k o' (by simpa using hk);refine⟨c,by simpa using g,?_⟩;rw[show a+(k+1)=a+1+k by omega];simpa [stAt] using i
 |[],_,_,_::_,_,h=>h.elim
 |_::_,_,_,[],_,h=>h.elim
theorem Z0P {w:Bool} {c:List Eff}: ∀ {qs:List (Eff × Option (Nat × Nat × D))} {a:Nat},ZU w pre s0 c a qs=true-> ∀ (k:Nat) (e:Eff) (id off:Nat) (m:D),numD m=w->qs[k]? = some (e,some (id,off,m)) →
  Z0m m off (lk s0.ob id)=true/\allI (λj e=>j == (a+k) ||Q4 pre (a+k) j ||(match lk e.ob id with|none=>true|some x=>Z0m m off x)) 0 c=true
 |[],_,_,k,_,_,_,_,_,h=>by simp at h
 |(f,none)::r,a,h,k,e,id,off,m,hm,hk=>by
  simp only[ZU] at h;cases k with
  |zero=>simp at hk
  |succ k =>
   have:=Z0P h k e id off m hm (by simpa using hk);rwa [show a+1+k=a+(k+1) by omega] at this
 |(f,some (g,d,i))::r,a,h,k,e,id,off,m,hm,hk=>by
  simp only[ZU] at h;cases k with
  |zero =>
   simp at hk;obtain⟨_,rfl,rfl,rfl⟩:=hk;simp only[hm,beq_self_eq_true,Bool.and_eq_true] at h;exact h.1
  |succ k =>
   have h2:ZU w pre s0 c (a+1) r=true:=by
    split at h
    ·simp only[Bool.and_eq_true] at h;exact h.2
    ·exact h
   have:=Z0P h2 k e id off m hm (by simpa using hk);rwa [show a+1+k=a+(k+1) by omega] at this
theorem Z85 {d:D} {o:Option D} (h:Z9F d o=true):o=some d:=by unfold Z9F at *;grind
theorem Z6K {d:D} {off:Nat} {o:Option Ob} (h:Z0m d off o=true): ∃ cs,o=some (.cells cs)/\cs[off]? = some d:=by
 unfold Z0m at h;split at h
 ·grind [Z85,Z0m]
 ·cases h
theorem Z86 {d:D} {off:Nat} {o:Option Ob} (h:Z0m d off o=true):(∃ m,d=.vec m)\/ ∃ k n,d=.int k n:=by unfold Z0m Z9F at *;grind
theorem ZdQ (hF:Fence.Open F) (hbs:cx.bs<=bs) (hgl:GlobC cx.φ0 cx.w0 cx.Z) (hl:ops.toList.mapM (λo=>QL P bt (fz (o.dst.getD 0)) ops o)=some sops) (hd:QJ cx.N ops=true)
  (hlow: ∀ i o,ops[i]? = some o-> ∀ e∈o.after,Region.binds .any e=true->e.on<i) (hwt:Z8E pre ops) {pan:Option (Nat × Value)} {qs:List (Eff × Option (Nat × Nat × D))} (hes:es=qs.map (·.1))
  (hcan: ∀ k o,sops[k]? = some o-> ∃ q,qs[k]? = some q/\HasO P bs pre pan k o (stAt es s0 k) q) (hlen:sops.length=es.length) (hchk:dchk bs pre sops es s0=true) (hcell:ZU false pre s0 es 0 qs=true) (hcelI:ZU true pre s0 es 0 qs=true) (htop:s0.top<=bs)
  (hK:match pan with|none=>Q .normal (stAt es s0 es.length)|some (c,v)=>c<ops.size/\Q (pnc v) ⟨[],[]⟩) :
  ∀ (f:Nat) (listed:Array Bool) (s:St) (φ:Mem) (h:Nat->Value) (tmps:Array Value) (w:World),listed.size=ops.size->Closed ops listed->(∀ c v,pan=some (c,v)-> ∀ k,listed.getD k false=true->k≠c/\Q4 pre c k=false) →
   Inv es s0 (λk=>listed.getD k false=true) s->(un ops listed).length<=f->Mod cx s φ h tmps w->wpAnyIn F N P .any ops (PostM cx ds Q) f listed ⟨tmps,ds⟩ w:=by
 have hlo:sops.length=ops.size:=by have:=Z1x hl;simpa using this
 -- all are done
 have last: ∀ (listed:Array Bool) (s:St) (φ:Mem) (h:Nat->Value) (tmps:Array Value) (w:World),listed.size=ops.size->(∀ c v,pan=some (c,v)-> ∀ k,listed.getD k false=true->k≠c/\Q4 pre c k=false)->(∀ k,k<ops.size->listed.getD k false=true)->Inv es s0 (λk=>listed.getD k false=true) s->Mod cx s φ h tmps w->PostM cx ds Q .normal ⟨tmps,ds⟩ w:=by
  intro listed s φ h tmps w hsz g S R hm;cases pan with
  |some cv =>
   obtain⟨c,v⟩:=cv;exact absurd rfl (g c v rfl c (S c hK.1)).1
  |none =>
  have hat:=Inv.at (es:=es) (s0:=s0) es.length (Nat.le_refl _);have X: ∀ k,k<es.length ↔ listed.getD k false=true:=λk=>by
   refine⟨λhk=>S k (by omega),λhk=>?_⟩;apply Classical.byContradiction;intro hn;have:listed.getD k false=false:=by simp[Array.getD,show ¬ k<listed.size by omega]
   rw[this] at hk;cases hk
  refine PostM.of hK (hm.weaken (λt d hd=>?_) λi o u=>?_)
  ·rw[<- hd];exact (R.tm t).uniq (hat.tm t) λk _=>(X k).symm
  ·rw[<- u];exact (R.ob i).uniq (hat.ob i) λk _=>(X k).symm
 have hnone: ∀ listed:Array Bool,listed.size=ops.size->un ops listed=[]-> ∀ k,k<ops.size->listed.getD k false=true:=λlisted hsz hun k hk=>by
  cases Y:listed.getD k false with
  |true=>rfl
  |false =>
   have:k∈un ops listed:=List.mem_filter.2 ⟨List.mem_range.2 hk,by rw[Qz (by omega),Y];rfl⟩;rw[hun] at this;cases this
 intro f;induction f with
 |zero =>
  intro listed s φ h tmps w hsz A g R hun hm;have G:un ops listed=[]:=List.eq_nil_of_length_eq_zero (by omega);refine⟨?_,last listed s φ h tmps w hsz g (hnone listed hsz G) R hm⟩;cases Y:Region.ready .any ops listed with
  |nil=>rfl
  |cons x xs =>
   have:=Z2h (ops:=ops) (listed:=listed) (i:=x) (by rw[Y];simp);rw[G] at this;cases this
 |succ f ih =>
  intro listed s φ h tmps w hsz A g R hun hm;refine⟨λhrn=>?_,λi hi=>?_⟩
  ·-- nothing is ready: all are done
   refine last listed s φ h tmps w hsz g (λk hk=>?_) R hm;cases Y:listed.getD k false with
   |true=>rfl
   |false =>
    exfalso;have: ∃ k,k<ops.size/\listed.getD k false=false/\ ∀ j,j<k->listed.getD j false=true:=by
     induction k using Nat.strongRecOn with
     |_ k ihk =>
      by_cases E: ∃ j,j<k/\listed.getD j false=false
      ·obtain⟨j,hjk,hjq⟩:=E;exact ihk j hjk (by omega) hjq
      ·refine⟨k,hk,Y,λj hjk=>?_⟩;cases hq':listed.getD j false with
       |true=>rfl
       |false=>exact absurd ⟨j,hjk,hq'⟩ E
    obtain⟨k0,h1,h2,h3⟩:=this;have hr:k0∈Region.ready .any ops listed:=mem_ready.2 ⟨by rw[Qz (by omega)];exact h2,ops[k0],Array.getElem?_eq_getElem h1,λe he J=>h3 _ (hlow k0 ops[k0] (Array.getElem?_eq_getElem h1) e he J)⟩;rw[hrn] at hr;cases hr
  ·obtain⟨h1,o,u,hrd⟩:=mem_ready.1 hi;have hilt:=(Array.getElem?_eq_some_iff.1 u).1;rw[Qz (by omega)] at h1;obtain⟨so,hcs,hso⟩:=Z2m hl i o (by simpa using u);have I: ∀ j,Q4 pre j i=true->listed.getD j false=true:=λj J=>Q7 hwt A i j (λo' z=>by rw[u] at z;cases z;exact hrd) J;have hltL: ∀ j,listed.getD j false=true->j<es.length:=λj E=>by
    apply Classical.byContradiction;intro hn;have:listed.getD j false=false:=by simp[Array.getD,show ¬ j<listed.size by omega]
    rw[this] at E;cases E
   have T: ∀ j q,listed.getD j false=true->Q4 pre q j=true->listed.getD q false=true:=λj q E J=>Q7 hwt A j q (λo' z=>A j o' z E) J;obtain⟨e,he,⟨q,Y,hqe,hh⟩,M,hcd,hI'⟩:=Z9m (H:=λk o s e=>∃ q,qs[k]? = some q/\q.1=e/\HasO P bs pre pan k o s q)
    (λ⟨q,_,h2,h3⟩ ht=>h3.dst (by rw[h2];exact ht)) (λ⟨q,h1,h2,h3⟩ ht u=>⟨q,h1,h2,h3.congr ht (by rw[h2];exact u)⟩)
    (λk o hk=>by
     obtain⟨q,h1,h2⟩:=hcan k o hk;exact⟨q.1,by rw[hes,List.getElem?_map,h1];rfl,q,h1,rfl,h2⟩) hlen hchk R htop hso (by simp only[h1];simp) hltL I T
   subst hqe;have hdo:=ZO hd o (by simpa using Array.mem_of_getElem? u)
   -- it is done,and there is more
   have go:HasC P bs so s q->(∀ c v,pan=some (c,v)->i≠c/\Q4 pre c i=false)->wpOpIn F N P ops (PostM cx ds Q) i (wpAnyIn F N P .any ops (PostM cx ds Q) f (listed.setIfInBounds i true)) ⟨tmps,ds⟩ w:=λhc C=>by
    have hst:stp P bs so s (λs1=>Alike s1 (s.app q.1)):=by
     obtain⟨e0,cc⟩:=q;cases cc with
     |none=>exact Z2F hc M hcd
     |some cc =>
      obtain⟨id,off,m⟩:=cc;simp only[HasC] at hc;split at hc
      ·rename_i t x;obtain⟨hx,rfl⟩:=hc;obtain⟨c1,c2⟩:_/\_:=by
        cases hm:numD m with
        |false=>exact Z0P hcell i _ id off m hm Y
        |true=>exact Z0P hcelI i _ id off m hm Y
       have B:Z0m m off (lk s.ob id)=true:=by
        rcases R.ob id with⟨j,y,E,p,hv,_⟩|⟨_,hv⟩
        ·rw[hv];have p:(es[j]?).bind (λe=>lk e.ob id)=some y:=p;cases hej:es[j]? with
         |none=>rw[hej] at p;cases p
         |some e' =>
          rw[hej] at p;have p:lk e'.ob id=some y:=p
          have:=Z3p c2 j e' hej;simp only[Nat.zero_add,Bool.or_eq_true,beq_iff_eq] at this;rcases this with (h|h)|h
          ·subst h;rw[h1] at E;cases E
          ·have:=T j i E h;rw[h1] at this;cases this
          ·rw[p] at h;exact h
        ·rw[hv];exact c1
       obtain⟨cs,U,W⟩:=Z6K B;rcases Z86 B with⟨m',rfl⟩|⟨k',n',rfl⟩
       ·simp only[stp,gud,evl,List.map_cons,List.map_nil,hx,U,W,Bool.false_eq_true,if_false];exact Alike.of_eq rfl
       ·simp only[stp,gud,evl,List.map_cons,List.map_nil,hx,U,W,Bool.false_eq_true,if_false];exact Alike.of_eq rfl
      ·exact hc.elim
    have hs:=Q9 (ds:=ds) (n:=N) (Q:=PostM cx ds Q) hF hbs hgl hcs hdo hm hst;have l: ∀ a w',Z0B cx ds (λs1=>Alike s1 (s.app q.1)) a w'->wpAnyIn F N P .any ops (PostM cx ds Q) f (listed.setIfInBounds i true) a w':=by
     rintro⟨tm,df⟩ w' ⟨hdf,s1,φ',h',hal,O⟩;cases hdf;refine ih _ (s.app q.1) φ' h' tm w' (by simpa using hsz) (A.set (by omega) λo' z=>by rw[u] at z;cases z;exact hrd) (λc v B k hk=>?_) (hI'.congr λk=>(Z0L (by omega)).symm) (by have:=ZbE hsz (Z2h hi);omega) (O.weaken (λt d hd=>by rw[hal.1 t];exact hd) λi o u=>by rw[hal.2 i];exact u);rcases (Z0L (by omega)).1 hk with hk|rfl
     ·exact g c v B k hk
     ·exact C c v B
    unfold wpOpIn;simp only[u];split at hs
    ·rename_i p;rw[if_pos p];exact Oper.wpIn_mono l hs
    ·rename_i p;rw[if_neg p];exact⟨hs.1,l _ _ hs.2⟩
   cases pan with
   |none=>exact go hh λ_ _ h=>by cases h
   |some cv =>
    obtain⟨c,v⟩:=cv;simp only[HasO] at hh;split at hh
    ·rename_i C
     -- the one that panics
     subst C;have hst:stpX P bs so s (λ_=>False) (λv' _=>v'=v):=by
      unfold HasPn at hh;split at hh
      ·rename_i dst x xs;obtain⟨nm,base,h1',h2',h3',h4',h5'⟩:=hh;exact⟨nm,_,base,h1',h2',h3',hcd base (by rw[h5']),h4',λr ob' hr=>.inr ⟨v,hr,rfl⟩⟩
      ·exact hh.elim
     have hs:=Z1Q (ds:=ds) (n:=N) (Q:=PostM cx ds Q) hF hbs hgl hcs hdo hm hst (λv' s' φ' h' w' hk O=>by
      subst hk;exact PostM.of hK.2 (O.weaken (λt d hd=>by cases hd) λi o u=>by cases u))
     have l: ∀ a w',Z0B cx ds (λ_=>False) a w'->wpAnyIn F N P .any ops (PostM cx ds Q) f (listed.setIfInBounds i true) a w':=by
      rintro⟨tm,df⟩ w' ⟨hdf,s1,φ',h',hk,O⟩;exact hk.elim
     unfold wpOpIn;simp only[u];split at hs
     ·rename_i p;rw[if_pos p];exact Oper.wpIn_mono l hs
     ·rename_i p;rw[if_neg p];exact⟨hs.1,l _ _ hs.2⟩
    ·rename_i C;split at hh
     ·rename_i J;exact absurd rfl (g c v rfl c (I c J)).1
     ·rename_i J;refine go hh λc' v' he=>?_;cases he;exact⟨C,by simpa using J⟩
theorem Zdq (hF:Fence.Open F) {I:Nat} (J:cx.bs<=I) (T:GlobC cx.φ0 cx.w0 cx.Z) (hl:ops.toList.mapM (λo=>QL P bt (fz (o.dst.getD 0)) ops o)=some sops) (hd:QJ cx.N ops=true)
  (A: ∀ i o,ops[i]? = some o-> ∀ e∈o.after,Region.binds .any e=true->e.on<i) (hwt:Z8E pre ops) {p:Nat} (hp: ∀ i,p<=i->i<ops.size-> ∀ j,j<i->Q4 pre j i=true) :
  ∀ (m j c:Nat) (listed:Array Bool) (s:St) (φ:Mem) (h:Nat->Value) (tmps:Array Value) (w:World),ops.size-j=m->p<=j->j<=ops.size->m<=c->listed.size=ops.size->Closed ops listed →
   (∀ k,listed.getD k false=true ↔ k<j)->Mod cx s φ h tmps w->Z2E P I (sops.drop j) s (Q .normal) (λv s1=>Q (pnc v) s1)->wpAnyIn F N P .any ops (PostM cx ds Q) c listed ⟨tmps,ds⟩ w:=by
 have hlo:sops.length=ops.size:=by have:=Z1x hl;simpa using this
 intro m;induction m with
 |zero =>
  intro j c listed s φ h tmps w hm Y hj S hsz t G d q;have hje:j=ops.size:=by omega
  rw[List.drop_eq_nil_of_le (by omega)] at q;have g:Region.ready .any ops listed=[]:=by
   refine List.eq_nil_iff_forall_not_mem.2 λi hi=>?_;obtain⟨h1,o,H,_⟩:=mem_ready.1 hi;have z:=(Array.getElem?_eq_some_iff.1 H).1;rw[Qz (by omega),(G i).2 (by omega)] at h1;cases h1
  cases c with
  |zero=>exact⟨g,PostM.of q d⟩
  |succ c =>
   refine⟨λ_=>PostM.of q d,λi hi=>?_⟩;rw[g] at hi;cases hi
 |succ m ih =>
  intro j c listed s φ h tmps w hm Y hj S hsz t G d q;have X:j<ops.size:=by omega
  obtain⟨c,rfl⟩: ∃ f,c=f+1:=⟨c-1,by omega⟩;have H:ops[j]? = some ops[j]:=Array.getElem?_eq_getElem X;have B:listed.getD j false=false:=by
   grind
  refine⟨λhr=>?_,λi hi=>?_⟩
  ·exfalso;have:j∈Region.ready .any ops listed:=mem_ready.2 ⟨by rw[Qz (by omega)];exact B,ops[j],H,λe R hb=>(G _).2 (A j ops[j] H e R hb)⟩;rw[hr] at this;cases this
  ·obtain⟨h1,o,l,C⟩:=mem_ready.1 hi;have z:=(Array.getElem?_eq_some_iff.1 l).1;rw[Qz (by omega)] at h1;have W:i=j:=by
    rcases Nat.lt_trichotomy i j with hlt|R|U
    ·grind
    ·exact R
    ·have:=Q7 hwt t i j (λo' r=>by rw[l] at r;cases r;exact C) (hp i (by omega) z j U);rw[B] at this;cases this
   subst W;obtain⟨so,M,E⟩:=Z2m hl i o (by simpa using l);have u:sops.drop i=so::sops.drop (i+1):=by
    rw[List.drop_eq_getElem_cons (by omega)];have:sops[i]? = some sops[i]:=List.getElem?_eq_getElem (by omega);rw[this] at E;cases E;rfl
   rw[u] at q;have hs:=Z1Q (ds:=ds) (n:=N) (Q:=PostM cx ds Q) hF J T M (ZO hd o (by simpa using Array.mem_of_getElem? l)) d q (λv s' φ' h' w' hk x=>PostM.of hk x);have y: ∀ a w',Z0B cx ds (λs1=>Z2E P I (sops.drop (i+1)) s1 (Q .normal) (λv s1=>Q (pnc v) s1)) a w'->wpAnyIn F N P .any ops (PostM cx ds Q) c (listed.setIfInBounds i true) a w':=by
    rintro⟨tm,df⟩ w' ⟨O,s1,φ',h',hk,x⟩;cases O;refine ih (i+1) c _ s1 φ' h' tm w' (by omega) (by omega) (by omega) (by omega) (by simpa using hsz) (t.set (by omega) λo' r=>by rw[l] at r;cases r;exact C) (λk=>?_) x hk;rw[Z0L (by omega),G k];omega
   unfold wpOpIn;simp only[l];split at hs
   ·rename_i hw;rw[if_pos hw];exact Oper.wpIn_mono y hs
   ·grind
theorem ZdP (hF:Fence.Open F) {b2:Nat} (hbs:cx.bs<=bs) (hb2:cx.bs<=b2) (T:GlobC cx.φ0 cx.w0 cx.Z) (hl:ops.toList.mapM (λo=>QL P bt (fz (o.dst.getD 0)) ops o)=some sops) (H:QJ cx.N ops=true)
  (B: ∀ i o,ops[i]? = some o-> ∀ e∈o.after,Region.binds .any e=true->e.on<i) (G:Z8E pre ops) {p:Nat} (hpl:p<ops.size) (hp: ∀ i,p<=i->i<ops.size-> ∀ j,j<i->Q4 pre j i=true)
  (R: ∀ k o,(sops.take p)[k]? = some o-> ∃ e,es[k]? = some e/\Has P bs o (stAt es s0 k) e) (A:(sops.take p).length=es.length) (S:dchk bs pre (sops.take p) es s0=true) (htop:s0.top<=bs)
  (hK:Z2E P b2 (sops.drop p) (stAt es s0 es.length) (Q .normal) (λv s1=>Q (pnc v) s1)) :
  ∀ (c:Nat) (listed:Array Bool) (s:St) (φ:Mem) (h:Nat->Value) (tmps:Array Value) (w:World),listed.size=ops.size->Closed ops listed->(∀ k,listed.getD k false=true->k<p) →
   Inv es s0 (λk=>listed.getD k false=true) s->(un ops listed).length<=c->Mod cx s φ h tmps w->wpAnyIn F N P .any ops (PostM cx ds Q) c listed ⟨tmps,ds⟩ w:=by
 have hlo:sops.length=ops.size:=by have:=Z1x hl;simpa using this
 have hel:es.length=p:=by rw[<- A,List.length_take];omega
 intro c;induction c with
 |zero =>
  intro listed s φ h tmps w hsz m f hI hun hm;exfalso;have:p∈un ops listed:=List.mem_filter.2 ⟨List.mem_range.2 hpl,by
   rw[Qz (by omega)];cases E:listed.getD p false with
   |false=>rfl
   |true=>have:=f p E;omega⟩
  have:=List.length_pos_of_mem this;omega
 |succ c ih =>
  intro listed s φ h tmps w hsz m f hI hun hm;by_cases l: ∀ k,k<p->listed.getD k false=true
  ·-- all ahead are done
   have M:=Inv.at (es:=es) (s0:=s0) es.length (Nat.le_refl _);have z: ∀ k,k<es.length ↔ listed.getD k false=true:=λk=>⟨λhk=>l k (by omega),λhk=>by have:=f k hk;omega⟩;have Y:Mod cx (stAt es s0 es.length) φ h tmps w:=hm.weaken (λt d H=>by rw[<- H];exact (hI.tm t).uniq (M.tm t) λk _=>(z k).symm) λi o x=>by rw[<- x];exact (hI.ob i).uniq (M.ob i) λk _=>(z k).symm
   have hun2:ops.size-p<=(un ops listed).length:=by
    have hnd:(List.range' p (ops.size-p)).Nodup:=List.nodup_range'
    have:=List.Nodup.length_le_of_subset hnd (l₂:=un ops listed) λi hi=>by
     rw[List.mem_range'_1] at hi;refine List.mem_filter.2 ⟨List.mem_range.2 (by omega),?_⟩;rw[Qz (by omega)];cases E:listed.getD i false with
     |false=>rfl
     |true=>have:=f i E;omega
    simpa using this
   exact Zdq hF hb2 T hl H B G hp _ p (c+1) listed (stAt es s0 es.length) φ h tmps w rfl (Nat.le_refl _) (by omega) (by omega) hsz m (λk=>⟨f k,l k⟩) Y hK
  ·refine⟨λhrn=>?_,λi hi=>?_⟩
   ·exfalso;have: ∃ k,k<p/\listed.getD k false=false/\ ∀ j,j<k->listed.getD j false=true:=by
     have h0: ∃ k,k<p/\listed.getD k false=false:=Classical.byContradiction λhn=>l λk hk=>by
      cases E:listed.getD k false with
      |true=>rfl
      |false=>exact absurd ⟨k,hk,E⟩ hn
     obtain⟨k,hk,E⟩:=h0;induction k using Nat.strongRecOn with
     |_ k ihk =>
      by_cases I: ∃ j,j<k/\listed.getD j false=false
      ·obtain⟨j,C,hjq⟩:=I;exact ihk j C (by omega) hjq
      ·refine⟨k,hk,E,λj C=>?_⟩;cases hq':listed.getD j false with
       |true=>rfl
       |false=>exact absurd ⟨j,C,hq'⟩ I
    obtain⟨k0,h1,h2,h3⟩:=this;have X:k0<ops.size:=by omega
    have hr:k0∈Region.ready .any ops listed:=mem_ready.2 ⟨by rw[Qz (by omega)];exact h2,ops[k0],Array.getElem?_eq_getElem X,λe he O=>h3 _ (B k0 ops[k0] (Array.getElem?_eq_getElem X) e he O)⟩;rw[hrn] at hr;cases hr
   ·obtain⟨h1,o,x,hrd⟩:=mem_ready.1 hi;have U:=(Array.getElem?_eq_some_iff.1 x).1;rw[Qz (by omega)] at h1;have u:=λj O=>Q7 G m i j (λo' g=>by rw[x] at g;cases g;exact hrd) O;have W:i<p:=by
     apply Classical.byContradiction;intro hn;exact l λk hk=>u k (hp i (by omega) U k (by omega))
    obtain⟨so,hcs,hso⟩:=Z2m hl i o (by simpa using x);have hso':(sops.take p)[i]? = some so:=by rw[List.getElem?_take,if_pos W];exact hso
    obtain⟨e,he,hh,y,hcd,hI'⟩:=ZcF R A S hI htop hso' (by simp only[h1];simp) (λj I=>by have:=f j I;omega) u
     (λj q I O=>Q7 G m j q (λo' g=>m j o' g I) O)
    have hst:=Z2F hh y hcd;have hs:=Q9 (ds:=ds) (n:=N) (Q:=PostM cx ds Q) hF hbs T hcs (ZO H o (by simpa using Array.mem_of_getElem? x)) hm hst;have r: ∀ a w',Z0B cx ds (λs1=>Alike s1 (s.app e)) a w'->wpAnyIn F N P .any ops (PostM cx ds Q) c (listed.setIfInBounds i true) a w':=by
     rintro⟨tm,df⟩ w' ⟨hdf,s1,φ',h',J,hm'⟩;cases hdf;refine ih _ (s.app e) φ' h' tm w' (by simpa using hsz) (m.set (by omega) λo' g=>by rw[x] at g;cases g;exact hrd) (λk hk=>by
      rcases (Z0L (by omega)).1 hk with hk|rfl
      ·exact f k hk
      ·exact W) (hI'.congr λk=>(Z0L (by omega)).symm) (by have:=ZbE hsz (Z2h hi);omega) (hm'.weaken (λt d H=>by rw[J.1 t];exact H) λi o x=>by rw[J.2 i];exact x)
    unfold wpOpIn;simp only[x];split at hs
    ·rename_i hw;rw[if_pos hw];exact Oper.wpIn_mono r hs
    ·rename_i hw;rw[if_neg hw];exact⟨hs.1,r _ _ hs.2⟩
end
theorem Z2Q {ops:Array Oper} {pre:List Nat} (d:Z2r pre ops=true):(∀ i o,ops[i]? = some o-> ∀ e∈o.after,Region.binds .any e=true->e.on<i)/\Z8E pre ops:=by
 simp only[Z2r,Bool.and_eq_true,decide_eq_true_eq,List.all_eq_true,List.mem_range,beq_iff_eq] at d;obtain⟨g,h2⟩:=d;have c: ∀ i o,ops[i]? = some o-> ∀ e∈o.after,Region.binds .any e=true->e.on<i:=λi o m e q f=>by
  grind
 have k:Z8E pre ops:=λi j f=>by
  have l:j<ops.size:=by
   apply Classical.byContradiction;intro r;simp only[Q4,List.getD,List.getElem?_eq_none (show pre.length<=j by omega)] at f;simp at f
  have m:ops[j]? = some ops[j]:=Array.getElem?_eq_getElem l
  have:=h2 j l;simp only[m,Bool.and_eq_true,beq_iff_eq] at this;have a:(pre.getD j 0 &&& Z6B pre (ops[j]).after.toList 0).testBit i=true:=by rw[this.2];exact f
  rw[Nat.testBit_and,Bool.and_eq_true] at a;rcases Z4K a.2 with h|⟨e,q,p,h⟩
  ·simp at h
  ·grind
 exact⟨c,k⟩
theorem Zvi {P:Program} (f:P.follows .mixedOrders=true):Zt5 P:=by
 intro cx F N ds r bt fz ops Q sops pre id bs l m hl u x p s φ h tmps w j hm es s' a c t;obtain⟨e,q⟩:=Z2Q p;obtain⟨d,rfl,hc⟩:=Z2T a;refine wpIn_region_any f ?_;have g: ∀ i,(Array.replicate ops.size false).getD i false=false:=λi=>by
  by_cases hi:i<ops.size<;>simp[Array.getD,hi]
 refine ZgB r l m hl u e q hc d c j t ops.size (Array.replicate ops.size false) s φ h tmps _ (by simp) (λi o y hi=>by rw[g i] at hi;cases hi) (Inv.zero.congr λk=>by rw[g k];simp) ?_ hm.drew;unfold un;exact Nat.le_trans (List.length_filter_le _ _) (by simp)
theorem Zvj {P:Program} (l:P.follows .mixedOrders=true):Zt6 P:=by
 intro cx F N ds y bt fz ops Q sops pre id bs p r t hl A E u a s φ h tmps w m hm es s' C d e q z;obtain⟨g,x⟩:=Z2Q u;obtain⟨f,rfl,hc⟩:=Z2T d;simp only[ZfZ,Bool.and_eq_true,decide_eq_true_eq,List.all_eq_true,List.mem_range,Bool.or_eq_true,beq_iff_eq] at a;refine wpIn_region_any l ?_;have c: ∀ i,(Array.replicate ops.size false).getD i false=false:=λi=>by
  by_cases hi:i<ops.size<;>simp[Array.getD,hi]
 refine ZdP y r q t hl A g x a.1 (λi h1 h2 j B=>?_) hc f e m z ops.size (Array.replicate ops.size false) s φ h tmps _ (by simp) (λi o G hi=>by rw[c i] at hi;cases hi) (λk hk=>by rw[c k] at hk;cases hk) (Inv.zero.congr λk=>by rw[c k];simp) ?_ hm.drew
 ·rcases a.2 i h2 with h|h
  ·omega
  ·simp only[Q4];rw[h,Nat.testBit_two_pow_sub_one];simpa using B
 ·unfold un;exact Nat.le_trans (List.length_filter_le _ _) (by simp)
theorem Zvk {P:Program} (j:P.follows .mixedOrders=true):Zt7 P:=by
 intro cx F N ds t bt fz ops Q sops pre id bs m p hl u z q s φ h tmps w l hm pan qs s' d e a y;obtain⟨g,r⟩:=Z2Q q;obtain⟨f,rfl,hc⟩:=Z4h d;have x:sops.length=ops.size:=by have:=Z1x hl;simpa using this
 refine wpIn_region_any j ?_;have c: ∀ i,(Array.replicate ops.size false).getD i false=false:=λi=>by
  by_cases hi:i<ops.size<;>simp[Array.getD,hi]
 refine ZdQ (pan:=pan) t m p hl u g r rfl (λk o hk=>?_) (by simpa using f) e a.1 a.2 l ?_ ops.size (Array.replicate ops.size false) s φ h tmps _ (by simp) (λi o A hi=>by rw[c i] at hi;cases hi) (λ_ _ _ k hk=>by rw[c k] at hk;cases hk) (Inv.zero.congr λk=>by rw[c k];simp) ?_ hm.drew
 ·grind
 ·grind
 ·unfold un;exact Nat.le_trans (List.length_filter_le _ _) (by simp)
theorem ZdR {P:Program} (a:P.follows .mixedOrders=true):DrawSound P:=⟨Zvi a,Zvj a,Zvk a⟩
end Go.Sx
namespace Go.Sx
open Go.RowKit
variable [Globs] [Codes]
def ZgV (op:BinOp) (k:IntKind) (a b:Int):Option D :=
 match op with
 |.add=>some (.int k (k.wrap (a+b)))
 |.sub=>some (.int k (k.wrap (a-b)))
 |.mul=>some (.int k (k.wrap (a*b)))
 |.quo=>if b=0 then none else some (.int k (k.wrap (a.tdiv b)))
 |.rem=>if b=0 then none else some (.int k (a.tmod b))
 |.eql=>some (.bool (decide (a=b)))
 |.neq=>some (.bool (!decide (a=b)))
 |.lss=>some (.bool (decide (a<b)))
 |.leq=>some (.bool (decide (a<=b)))
 |.gtr=>some (.bool (decide (b<a)))
 |.geq=>some (.bool (decide (b<=a)))
 |.and=>some (.int k (bitI .and k a b))
 |.or=>some (.int k (bitI .or k a b))
 |.xor=>some (.int k (bitI .xor k a b))
 |.andNot=>some (.int k (bitI .andNot k a b))
 |_=>none
def ZgT (op:BinOp) (a b:List UInt8):Option D :=
 match op with
 |.add=>if a.length+b.length<=4611686018427387904 then some (.str (a++b)) else none
 |.eql=>some (.bool (decide (a=b)))
 |.neq=>some (.bool (!decide (a=b)))
 |.lss=>some (.bool (Op.bytesLess a b))
 |.leq=>some (.bool (Op.bytesLess a b ||decide (a=b)))
 |.gtr=>some (.bool (!(Op.bytesLess a b ||decide (a=b))))
 |.geq=>some (.bool (!Op.bytesLess a b))
 |_=>none
def isBy:List (List D)->Bool
 |[]=>true
 |[.int .u8 n]::r=>decide (0<=n) && decide (n<256) && isBy r
 |_=>false
theorem Z4O: ∀ {es:List (List D)},isBy es=true->es=byC (Qv es)
 |[],_=>rfl
 |e::r,h=>by
  unfold isBy at h;split at h
  ·rename_i heq;cases heq
  ·rename_i n d heq;cases heq;simp only[Bool.and_eq_true,decide_eq_true_eq] at h;have a:=Z4O h.2;have c:((UInt8.ofNat n.toNat).toNat:Int)=n:=by
    rw[UInt8.toNat_ofNat_of_lt' (by show _<256;omega)];omega
   simp only[Qv,byC,List.map_cons] at a ⊢;rw[c,<- a]
  ·cases h
def one1 (d:Option D):Option (D × Option Ob):=match d with
 |some d=>some (d,none)
 |none=>none
def ZgN (dst:Nat):D->D × Option Ob
 |.own sz e es=>(.vec dst,some (.arr true sz e es))
 |r=>(r,none)
def evE (fn:FuncId->List D->Option D) (dst:Nat) (o:AOp) (xs:List D) (obs:Nat->Option Ob):Option (D × Option Ob) :=
 match o,xs with
 |.mv,[d]=>some (d,none)
 |.pick,[.bool c,a,b]=>some (if c then a else b,none)
 |.bin op,[.int k a,.int l b]=>if k=l then one1 (ZgV op k a b) else none
 |.bin op,[.str a,.str b]=>one1 (ZgT op a b)
 |.binb .eql,[.bool a,.bool b]=>some (.bool (a == b),none)
 |.binb .neq,[.bool a,.bool b]=>some (.bool (!(a == b)),none)
 |.un .not,[.bool a]=>some (.bool (!a),none)
 |.un .neg,[.int k a]=>some (.int k (k.wrap (0-a)),none)
 |.conv k,[.int _ n]=>some (.int k (k.wrap n),none)
 |.len true,[.str s]=>some (.int .i64 s.length,none)
 |.len false,[.slice es _]=>some (.int .i64 es.length,none)
 |.len false,[.nils]=>some (.int .i64 0,none)
 |.len false,[.vec id]=>match obs id with
  |some (.arr _ _ _ es)=>some (.int .i64 es.length,none)
  |_=>none
 |.box,[d]=>if D.okc d=true then some (.ptr dst 0,some (.cells d.cells)) else none
 |.alloc z,[]=>some (.ptr dst 0,some (.cells z))
 |.build z ps,ds=>match QO obs z ps ds with
  |some cs=>some (.agg cs,none)
  |none=>none
 |.bslice fz sz n e z ps,ds=>match QO obs z ps ds with
  |some cs=>if cs.all D.pur=true then some (.vec dst,some (.arr fz sz e (Z4y sz n cs))) else none
  |none=>none
 |.load agg sz,[.ptr id off]=>match obs id with
  |some (.cells cs)=>match agg with
   |true=>if off+sz<=cs.length then some (.agg (((cs.drop off).take sz).map (dv obs)),none) else none
   |false=>match cs[off]? with
    |some d=>some (d,none)
    |none=>none
  |_=>none
 |.load agg sz,[.fptr cs]=>match agg with
  |true=>if sz<=cs.length then some (.agg (cs.take sz),none) else none
  |false=>match cs with
   |d::_=>some (d,none)
   |[]=>none
 |.load agg sz,[.vptr id i j g]=>match obs id with
  |some (.arr false h _ es)=>if h=g/\j+sz<=g then (match es[i]? with
   |some cs=>(match agg with
    |true=>some (.agg ((cs.drop j).take sz),none)
    |false=>match cs[j]? with
     |some d=>some (d,none)
     |none=>none)
   |none=>none) else none
  |_=>none
 |.faddr off,[.ptr id o]=>some (.ptr id (o+off),none)
 |.faddr off,[.fptr cs]=>some (.fptr (cs.drop off),none)
 |.faddr off,[.vptr id i j sz]=>some (.vptr id i (j+off) sz,none)
 |.field off agg sz,[.agg cs]=>match agg with
  |true=>if off+sz<=cs.length then some (.agg ((cs.drop off).take sz),none) else none
  |false=>match cs[off]? with
   |some d=>some (d,none)
   |none=>none
 |.iaddr sz,[.slice es _,.int _ n]=>if 0<=n/\n<es.length/\(es.getD n.toNat []).length=sz then some (.fptr (es.getD n.toNat []),none) else none
 |.iaddr sz,[.vec id,.int _ n]=>match obs id with
  |some (.arr true _ _ es)=>if 0<=n/\n<es.length/\(es.getD n.toNat []).length=sz then some (.fptr (es.getD n.toNat []),none) else none
  |some (.arr false g _ es)=>if g=sz/\0<=n/\n<es.length then some (.vptr id n.toNat 0 sz,none) else none
  |_=>none
 |.index,[.str s,.int _ n]=>if 0<=n/\n<s.length then some (.int .u8 (s.getD n.toNat 0).toNat,none) else none
 |.sliceS lo hi,.str s::bs=>match Z0i lo hi s.length bs with
  |some (a,b)=>if 0<=a/\a<=b/\b<=s.length then some (.str ((s.take b.toNat).drop a.toNat),none) else none
  |none=>none
 |.slice sz lo hi,d::bs=>match Z03 obs d with
  |some (es,ext)=>match Z0i lo hi es.length bs with
   |some (a,b)=>if ((es++ext).all λq=>q.length == sz)=true/\0<=a/\a<=b/\b<=(es++ext).length then some (.slice (((es++ext).take b.toNat).drop a.toNat) ((es++ext).drop b.toNat),none) else none
   |none=>none
  |none=>(match d,bs with
   |.vec id,[.int _ n]=>(match lo,hi with
    |true,false=>(match obs id with
     |some (.arr false g _ es)=>if g=sz/\es.isEmpty=false/\0<=n/\n<=es.length then some (.vwin id n.toNat sz,none) else none
     |_=>none)
    |_,_=>none)
   |_,_=>none)
 |.extract i,[.tuple ds]=>match ds[i]? with
  |some d=>some (d,none)
  |none=>none
 |.call f,ds=>match fn f (ds.map (dv obs)) with
  |some r=>some (ZgN dst r)
  |none=>none
 |.nilck,[d]=>if D.nn d=true then some (d,none) else none
 |.eqs neg ks,[.agg a,.agg b]=>match Zz ks a b with
  |some r=>some (.bool (match neg with|true=>!r|false=>r),none)
  |none=>none
 |.mks fz sz e z bt,[.int _ n]=>if z.all D.pur=true/\0<=n/\n*bt<=281474976710656/\n<=1073741824 then some (.vec dst,some (.arr fz sz e (List.replicate n.toNat z))) else none
 |.mke fz sz e bt,[.int _ n]=>if 0<=n/\n*bt<=281474976710656/\n<=1073741824 then some (.vec dst,some (.arr fz sz e [])) else none
 |.b2s,[d]=>match Z2H obs d with
  |some es=>if isBy es=true then some (.str (Qv es),none) else none
  |none=>none
 |.nilv fz sz e,[.nils]=>if 0<sz then some (.vec dst,some (.arr fz sz e [])) else none
 |.mkfn f n,ds=>if n<=ds.length then some (.func f (ds.take n) (ds.drop n),none) else none
 |.eqn op kd,[a,b]=>match eqD kd a b with
  |some r=>match op with
   |.eql=>some (.bool r,none)
   |.neq=>some (.bool (!r),none)
   |_=>none
  |none=>none
 |.iaddrA len sz,[.fptr cs,.int _ n]=>if 0<=n/\n<len then some (.fptr (cs.drop (n.toNat*sz)),none) else none
 |.iaddrA len sz,[.ptr id off,.int _ n]=>if 0<=n/\n<len then some (.ptr id (off+n.toNat*sz),none) else none
 |.mm big,.int k a::ds=>match mmI big k a ds with
  |some r=>some (.int k r,none)
  |none=>none
 |.sh left,[.int k a,.int _ b]=>if 0<=b then some (.int k (shI left k a b),none) else none
 |.mkmap,[]=>some (.map dst,some (.gen (.map []) []))
 |.mkmapC,[]=>some (.map dst,some (.gen (.mapC [] []) []))
 |.ext k,xs=>match extD k xs obs with
  |some d=>some (d,none)
  |none=>none
 |.mlook kd z,[.map id,key]=>match obs id with
  |some (.gen (.map ks) ds)=>if isKD kd key=true then (match Z2K key ks ds with
   |some r=>some (r.getD z,none)
   |none=>none) else none
  |_=>none
 |_,_=>none
section
variable {P:Program} {fn:FuncId->List D->Option D} {dst:Nat} {obs:Nat->Option Ob} {K:D->Option Ob->Prop}
theorem Z4m {op:BinOp} {k:IntKind} {a b:Int} {d:D} {K:D->Prop} (h:ZgV op k a b=some d) (hk:K d):binI op k a b K:=by cases op<;>grind [Option.some.injEq,ZgV,binI]
theorem Z4l {op:BinOp} {a b:List UInt8} {d:D} {K:D->Prop} (h:ZgT op a b=some d) (hk:K d):binS op a b K:=by cases op<;>grind [Option.some.injEq,ZgT,binS]
theorem Z6F {x:Option D} {d:D} {nb:Option Ob} (h:one1 x=some (d,nb)):x=some d/\nb=none:=by unfold one1 at *;grind
theorem Zlu {d a:D} {nb:Option Ob} (h:evE fn dst .b2s [a] obs=some (d,nb)) (hk:K d nb):evl P dst .b2s [a] obs K:=by grind [Option.some.injEq,Prod.mk.injEq,Z4O,evE,evl,Z2H]
theorem Zlt {agg:Bool} {sz id i j a:Nat} {d:D} {nb:Option Ob} (h:evE fn dst (.load agg sz) [.vptr id i j a] obs=some (d,nb)) (hk:K d nb):evl P dst (.load agg sz) [.vptr id i j a] obs K:=by grind [evE,evl]
theorem ZdA {kd:Option IntKind} {z key:D} {id:Nat} {d:D} {nb:Option Ob} (h:evE fn dst (.mlook kd z) [.map id,key] obs=some (d,nb)) (hk:K d nb):evl P dst (.mlook kd z) [.map id,key] obs K:=by grind [evE,evl,Z2K]
theorem ZrE {sz:Nat} {lo hi:Bool} {d:D} {bs:List D} {r:D} {nb:Option Ob} (h:evE fn dst (.slice sz lo hi) (d::bs) obs=some (r,nb)) (hk:K r nb):evl P dst (.slice sz lo hi) (d::bs) obs K:=by
 simp only[evE] at h;simp only[evl];cases hs:Z03 obs d with
 |some p =>
  grind
 |none =>
  grind
theorem Z0y (l: ∀ f o r,fn f o=some r->FnOK P f o r) {op:AOp} {xs:List D} {d:D} {nb:Option Ob} (h:evE fn dst op xs obs=some (d,nb)) (hk:K d nb):evl P dst op xs obs K:=by
 by_cases k:op=.b2s/\ ∃ d,xs=[d]
 ·obtain⟨rfl,d,rfl⟩:=k;exact Zlu h hk
 by_cases hl:(∃ a s,op=.load a s)/\ ∃ a b c d,xs=[.vptr a b c d]
 ·obtain⟨⟨_,_,rfl⟩,_,_,_,_,rfl⟩:=hl;exact Zlt h hk
 by_cases g:(∃ a s,op=.mlook a s)/\ ∃ a b,xs=[.map a,b]
 ·obtain⟨⟨_,_,rfl⟩,_,_,rfl⟩:=g;exact ZdA h hk
 by_cases j:(∃ sz lo hi,op=.slice sz lo hi)/\ ∃ d bs,xs=d::bs
 ·obtain⟨⟨_,_,_,rfl⟩,_,_,rfl⟩:=j;exact ZrE h hk
 unfold evE at h;split at h;all_goals try exact absurd ⟨⟨_,_,_,rfl⟩,_,_,rfl⟩ j
 all_goals try exact absurd ⟨rfl,_,rfl⟩ k
 all_goals try exact absurd ⟨⟨_,_,rfl⟩,_,_,_,_,rfl⟩ hl
 all_goals try exact absurd ⟨⟨_,_,rfl⟩,_,_,rfl⟩ g
 all_goals clear k hl g
 all_goals try simp only[evl]
 all_goals first
  |(simp only[Option.some.injEq,Prod.mk.injEq] at h;obtain⟨rfl,rfl⟩:=h;exact hk)
  |(cases h;done)
  |(obtain⟨h1,rfl⟩:=Z6F h;exact Z4l h1 hk)
  |(
   split at h
   ·rename_i hc;obtain⟨h1,rfl⟩:=Z6F h;exact⟨hc,Z4m h1 hk⟩
   ·cases h)
  |(
   split at h
   ·rename_i r hr;refine⟨r,l _ _ _ hr,?_⟩;simp only[Option.some.injEq] at h;cases r<;>(simp only[ZgN,Prod.mk.injEq] at h;obtain⟨rfl,rfl⟩:=h;exact hk)
   ·cases h)
  |skip
 all_goals
  repeat' split at h
 all_goals first
  |(cases h;done)
  |skip
 all_goals try (simp only[Option.some.injEq,Prod.mk.injEq] at h;obtain⟨rfl,rfl⟩:=h)
 all_goals first
  |exact hk
  |exact⟨by assumption,hk⟩
  |(simp[*];done)
  |(rename_i hc;exact⟨hc.1,hc.2,hk⟩)
  |(rename_i hc;exact⟨hc.1,hc.2.1,hc.2.2,hk⟩)
  |(simp only[*];exact hk)
  |(simp only[*];exact⟨by assumption,hk⟩)
  |(rename_i hc;simp only[*];exact⟨hc.1,hc.2.1,hc.2.2,hk⟩)
  |skip
 all_goals first
  |(rename_i cs heq agg m;rw[heq];exact⟨m,hk⟩)
  |(rename_i sz e es heq hc;rw[heq];exact⟨hc.1,hc.2.1,hc.2.2,hk⟩)
  |(rename_i hc;exact⟨hc.1,hc.2.1,hc.2.2.1,hc.2.2.2,hk⟩)
  |(rename_i r heq;rw[heq];cases ‹Bool›<;>exact hk)
  |(
   rename_i es ext i p a b heq hc;rw[i];simp only[heq];refine⟨?_,hc.2.1,hc.2.2.1,hc.2.2.2,hk⟩
   have:=hc.1;simp only[List.all_eq_true,beq_iff_eq] at this;exact this)
end
def gudE {α:Type} (g:Option (Nat × Bool)) (s:St) (body skip:Option α):Option α :=
 match g with
 |none=>body
 |some (t,a)=>match lk s.tm t with
  |some (.bool b)=>if b=a then body else skip
  |some (.tuple [])=>skip
  |_=>none
theorem Q0 {α:Type} {g:Option (Nat × Bool)} {s:St} {body skip:Option α} {x:α} (h:gudE g s body skip=some x) {p q:Prop} (hp:body=some x->p) (a:skip=some x->q):gud g s p q:=by cases g<;>grind [gudE,gud]
def Z1K (s:St) (ds:List D):List Nat:=(ZpV s.ob (D.collL ds [])).filter λi=>(lk s.ob i).isSome
def Z0w:List Nat->Bool
 |[]=>true
 |i::r=>!(r.contains i) && Z0w r
theorem Zo: ∀ {l:List Nat},Z0w l=true->l.Nodup
 |[],_=>List.nodup_nil
 |i::r,h=>by
  simp only[Z0w,Bool.and_eq_true,Bool.not_eq_true'] at h;refine List.nodup_cons.2 ⟨λhm=>?_,Zo h.2⟩;rw[List.contains_iff_mem.2 hm] at h;exact absurd h.1 (by simp)
theorem ZA {s:St} {ds:List D}: ∀ i∈Z1K s ds,(lk s.ob i).isSome:=by grind [St,D,Z1K,lk]
abbrev Z4z:=D->List D->Obs->Option (D × Obs)
def hasE (cl:Z4z) (fn:FuncId->List D->Option D) (b:Nat) (o:SOp) (s:St):Option Eff :=
 match o with
 |.a dst g op xs=>gudE g s (match evE fn (b+dst.getD 0) op (xs.map s.get) (lk s.ob) with
   |some (d,none)=>some ⟨rdA (lk s.ob) op (xs.map s.get),dst.map (·,d),[],none⟩
   |some (d,some ob)=>if dst.isSome then some ⟨rdA (lk s.ob) op (xs.map s.get),dst.map (·,d),[(b+dst.getD 0,some ob)],none⟩ else none
   |none=>none) (some ⟨[],dst.map (·,.nov),[],none⟩)
 |.st g sz x y=>gudE g s (match stO (sz.at s) (s.get x) (s.get y) (lk s.ob) with
   |some (a,b,id,o)=>if a<b then some ⟨[id],none,[(id,some o)],none⟩ else none
   |none=>none) (some ⟨[],none,[],none⟩)
 |.app dst g fz sz c x y=>gudE g s (match Z4u (lk s.ob) (s.get y) with
   |some (ys,_)=>if (ys.all λq=>q.length == sz)=true then (match s.get x with
    |.nils=>if ys.length<=1073741824 then some ⟨vids [s.get y],some (dst,.vec (b+dst)),[(b+dst,some (.arr fz sz c ys))],none⟩ else none
    |.vec id=>match lk s.ob id with
     |some (.arr e f k es)=>if f=sz/\k=c/\es.length+ys.length<=1073741824 then some ⟨id::vids [s.get y],some (dst,.vec (b+dst)),[(b+dst,some (.arr e sz c (es++ys))),(id,none)],none⟩ else none
     |_=>none
    |_=>none) else none
   |none=>none) (some ⟨[],some (dst,.nov),[],none⟩)
 |.cd dst g x xs=>gudE g s
   (
    let h:=xs.map λy=>dva (s.get x) (lk s.ob) (s.get y);let nm:=Z1K s (s.get x::h)
    if Z0w nm=true then (match cl ((s.get x).ren (idx · nm)) (h.map (D.ren (idx · nm))) (ZT s.ob (idx · nm) 0 nm) with
     |some (r,ob')=>if r.isPan=true then none else some ⟨nm++vids (xs.map s.get),dst.map (·,r.ren (bkN (s.base b) nm)),(renO (λj=>match nm[j]? with|some i=>i|none=>s.base b+j) (bkN (s.base b) nm) ob').map (λp=>(p.1,some p.2))++nm.map (·,none),some (s.base b)⟩
     |none=>none) else none)
   (some ⟨[],dst.map (·,.nov),[],none⟩)
theorem ZaZ {P:Program} {cl:Z4z} {fn:FuncId->List D->Option D} (k: ∀ f j r,fn f j=some r->FnOK P f j r) (u: ∀ d j ob r ob',cl d j ob=some (r,ob')->CallL P d j ob λr0 ob0=>r0=r/\ob0=ob') {b:Nat} {o:SOp} {s:St} {e:Eff}
  (h:hasE cl fn b o s=some e):Has P b o s e/\(∀ q,e.cd=some q->s.top<=q):=by
 have m: ∀ q,e.cd=some q->s.top<=q:=by
  have key: ∀ {g:Option (Nat × Bool)} {body skip:Option Eff},gudE g s body skip=some e->(body=some e-> ∀ q,e.cd=some q->s.top<=q)->(skip=some e->e.cd=none)-> ∀ q,e.cd=some q->s.top<=q:=λ{g body skip} h h1 h2=>by
   have:=Q0 h (p:=∀ q,e.cd=some q->s.top<=q) (q:=e.cd=none) h1 h2;cases g with
   |none=>exact this
   |some E =>
    obtain⟨t,w⟩:=E;simp only[gud] at this;split at this
    ·grind
    ·grind
    ·exact this.elim
  cases o with
  |a dst g op xs =>
   refine key h (λc q l=>?_) (λhs=>by cases hs;rfl);split at c
   ·cases c;cases l
   ·grind
   ·cases c
  |st g sz x y =>
   refine key h (λc q l=>?_) (λhs=>by cases hs;rfl);split at c
   ·grind
   ·cases c
  |app dst g fz sz C x y =>
   refine key h (λc q l=>?_) (λhs=>by cases hs;rfl);split at c
   ·grind
   ·cases c
  |cd dst g x xs =>
   refine key h (λc q l=>?_) (λhs=>by cases hs;rfl);simp only at c;split at c
   ·split at c
    ·split at c
     ·cases c
     ·cases c;cases l;exact Nat.le_max_right _ _
    ·cases c
   ·cases c
 refine⟨?_,m⟩;cases o with
 |a dst g op xs =>
  refine Q0 h (λc=>?_) (λhs=>by cases hs;rfl);split at c
  ·rename_i d i;cases c;exact⟨rfl,rfl,Z0y k i ⟨rfl,rfl⟩⟩
  ·rename_i d ob i;split at c
   ·rename_i z;cases c;exact⟨rfl,rfl,Z0y k i ⟨rfl,z,rfl⟩⟩
   ·cases c
  ·cases c
 |st g sz x y =>
  refine Q0 h (λc=>?_) (λhs=>by cases hs;rfl);simp only[HasB];split at c
  ·grind
  ·cases c
 |app dst g fz sz C x y =>
  refine Q0 h (λc=>?_) (λhs=>by cases hs;rfl);simp only[HasB];split at c
  ·grind
  ·cases c
 |cd dst g x xs =>
  refine Q0 h (λc=>?_) (λhs=>by cases hs;rfl);simp only at c;split at c
  ·rename_i A;split at c
   ·rename_i r ob' hc;split at c
    ·cases c
    ·rename_i B;cases c;exact⟨_,r,ob',_,Zo A,ZA,Nat.le_max_left _ _,u _ _ _ _ _ hc,by simpa using B,rfl⟩
   ·cases c
  ·cases c
def opE (cl:Z4z) (fn:FuncId->List D->Option D) (b:Nat) (o:SOp) (s:St):Option St :=
 match o with
 |.a dst g op xs=>gudE g s (match evE fn (b+dst.getD 0) op (xs.map s.get) (lk s.ob) with
   |some (d,none)=>some (s.put dst d)
   |some (d,some ob)=>match dst with
    |some t=>if s.clean (b+t)=true then some (s.put2 t (b+t) d ob) else none
    |none=>none
   |none=>none) (some (s.put dst .nov))
 |.st g sz x y=>gudE g s (match stO (sz.at s) (s.get x) (s.get y) (lk s.ob) with
   |some (a,b,id,o)=>if a<b then some {s with ob:=(id,o)::Z8 id s.ob} else none
   |none=>none) (some s)
 |.app dst g fz sz c x y=>gudE g s (match Z4u (lk s.ob) (s.get y) with
   |some (ys,_)=>if (ys.all λq=>q.length == sz)=true then (match s.get x with
    |.nils=>if ys.length<=1073741824/\s.clean (b+dst)=true then some (s.put2 dst (b+dst) (.vec (b+dst)) (.arr fz sz c ys)) else none
    |.vec id=>match lk s.ob id with
     |some (.arr e f i es)=>if f=sz/\i=c/\es.length+ys.length<=1073741824/\s.clean (b+dst)=true then some (St.put2 ⟨s.tm,Z8 id s.ob⟩ dst (b+dst) (.vec (b+dst)) (.arr e sz c (es++ys))) else none
     |_=>none
    |_=>none) else none
   |none=>none) (some (s.put (some dst) .nov))
 |.cd dst g x xs=>gudE g s
   (
    let h:=xs.map λy=>dva (s.get x) (lk s.ob) (s.get y);let nm:=Z1K s (s.get x::h)
    if Z0w nm=true then (match cl ((s.get x).ren (idx · nm)) (h.map (D.ren (idx · nm))) (ZT s.ob (idx · nm) 0 nm) with
     |some (r,ob')=>if r.isPan=true then none else some ((s.back (s.base b) nm ob').put dst (r.ren (bkN (s.base b) nm)))
     |none=>none) else none)
   (some (s.put dst .nov))
theorem ZcD {P:Program} {cl:Z4z} {fn:FuncId->List D->Option D} (k: ∀ f e r,fn f e=some r->FnOK P f e r) (i: ∀ d e ob r ob',cl d e ob=some (r,ob')->CallL P d e ob λr0 ob0=>r0=r/\ob0=ob') {b:Nat} {o:SOp} {s s':St} {K:St->Prop}
  (h:opE cl fn b o s=some s') (hk:K s'):stp P b o s K:=by
 cases o with
 |a dst g op xs =>
  refine Q0 h (λc=>?_) (λhs=>by cases hs;exact hk);split at c
  ·rename_i d j;cases c;exact Z0y k j hk
  ·grind [Q0,Z0y,Zo,ZA,Nat.le_max_left,Nat.le_max_right,hx]
  ·cases c
 |st g sz x y =>
  refine Q0 h (λc=>?_) (λhs=>by cases hs;exact hk);split at c
  ·grind
  ·cases c
 |app dst g fz sz p x y =>
  refine Q0 h (λc=>?_) (λhs=>by cases hs;exact hk);split at c
  ·grind
  ·cases c
 |cd dst g x xs =>
  refine Q0 h (λc=>?_) (λhs=>by cases hs;exact hk);simp only at c;split at c
  ·rename_i l;split at c
   ·rename_i r ob' hc;split at c
    ·cases c
    ·rename_i m;cases c;exact⟨_,_,_,Zo l,ZA,Nat.le_max_left _ _,Nat.le_max_right _ _,i _ _ _ _ _ hc,by rintro r0 ob0 ⟨rfl,rfl⟩;exact⟨by simpa using m,hk⟩⟩
   ·cases c
  ·cases c
def opsE (cl:Z4z) (fn:FuncId->List D->Option D) (b:Nat):List SOp->St->Option St
 |[],s=>some s
 |o::r,s=>match opE cl fn b o s with
  |some s'=>opsE cl fn b r s'
  |none=>none
theorem Z0v {P:Program} {cl:Z4z} {fn:FuncId->List D->Option D} (e: ∀ f a r,fn f a=some r->FnOK P f a r) (c: ∀ d a ob r ob',cl d a ob=some (r,ob')->CallL P d a ob λr0 ob0=>r0=r/\ob0=ob') {b:Nat} :
  ∀ {ops:List SOp} {s s':St} {K:St->Prop},opsE cl fn b ops s=some s'->K s'->stps P b ops s K
 |[],s,s',K,h,hk=>by cases h;exact hk
 |o::r,s,s',K,h,hk=>by
  simp only[opsE] at h;split at h
  ·rename_i s1 h1;exact ZcD e c h1 (Z0v e c h hk)
  ·cases h
theorem Z1m {P:Program} {b:Nat} {o:SOp} {s:St} {K K':St->Prop} (h:stp P b o s K) (hk: ∀ s,K s->K' s):stp P b o s K':=by
 cases o with
 |a dst g op xs =>
  refine Qb (λc=>Z5O c λd nb f=>?_) (hk _) h;cases nb with
  |none=>exact hk _ f
  |some ob=>cases dst with
   |none=>exact f
   |some t=>exact⟨f.1,hk _ f.2⟩
 |st g sz x y =>
  refine Qb (λc=>?_) (hk _) h;split at c
  ·grind
  ·exact c.elim
 |app dst g fz sz e x y =>
  refine Qb (λc=>?_) (hk _) h;split at c
  ·rename_i ys ext m;refine⟨c.1,?_⟩;have h2:=c.2;split at h2
   ·grind
   ·grind
   ·exact h2.elim
  ·exact c.elim
 |cd dst g x xs =>
  refine Qb (λc=>?_) (hk _) h;obtain⟨nm,R,base,h1,h2,j,k,l,i⟩:=c;exact⟨nm,R,base,h1,h2,j,k,l,λr ob' hr=>⟨(i r ob' hr).1,hk _ (i r ob' hr).2⟩⟩
theorem Z02 {P:Program} {b:Nat}: ∀ {ops:List SOp} {s:St} {K K':St->Prop},stps P b ops s K->(∀ s,K s->K' s)->stps P b ops s K'
 |[],_,_,_,h,hk=>hk _ h
 |o::r,_,_,_,h,hk=>Z1m (o:=o) h λ_ hs=>Z02 (ops:=r) hs hk
def canE (cl:Z4z) (fn:FuncId->List D->Option D) (b:Nat):List SOp->St->Option (List Eff × St)
 |[],s=>some ([],s)
 |o::r,s=>match hasE cl fn b o s with
  |some e=>match canE cl fn b r (s.app e) with
   |some (es,s')=>some (e::es,s')
   |none=>none
  |none=>none
theorem Z53 {P:Program} {cl:Z4z} {fn:FuncId->List D->Option D} (g: ∀ f a r,fn f a=some r->FnOK P f a r) (c: ∀ d a ob r ob',cl d a ob=some (r,ob')->CallL P d a ob λr0 ob0=>r0=r/\ob0=ob') {b:Nat} :
  ∀ {ops:List SOp} {s s':St} {es:List Eff},canE cl fn b ops s=some (es,s')->Z7m P b ops s es s'
 |[],s,s',es,h=>by simp only[canE,Option.some.injEq,Prod.mk.injEq] at h;obtain⟨rfl,rfl⟩:=h;rfl
 |o::r,s,s',es,h=>by
  simp only[canE] at h;split at h
  ·rename_i e j;split at h
   ·rename_i i k hc;simp only[Option.some.injEq,Prod.mk.injEq] at h;obtain⟨rfl,rfl⟩:=h;exact⟨(ZaZ g c j).1,Z53 g c hc⟩
   ·cases h
  ·cases h
end Go.Sx
/- DEFERRED CALLS,RECOVERY. -/
namespace Go.Sx
open Go.RowKit
variable [Globs] [Codes]
section
variable {F:Fence} {n:Nat} {P:Program}
def recS (cs:List Frame):Value × List Frame:=match recoverD cs with
 |some x=>x
 |none=>(.nilIface,cs)
theorem ZfS {cs:List Frame}:(recS cs).2.length=cs.length:=by
 unfold recS;split
 ·rename_i x hx;exact recoverD_length (v:=x.1) (cs':=x.2) hx
 ·rfl
theorem Z57 (H:Fence.Open F) (l:F.round=none) {id t:Nat} {ops:Array Oper} {o:Oper} {rest:List Oper} (g:ops.toList=o::rest) {c:Call} (M:o.op=.call c) (hc:c.callee=.builtin .recover) (J:o.dst=some t) (E:o.guard=none)
  {Q:Exit->Act->List Frame->World->Prop} {a:Act} {cs:List Frame} {w:World}
  (h:wpListIn F n P ops (λe A w'=>Q e A (recS cs).2 w') rest (a.put (some t) (recS cs).1) w):(Code.region id ops false).wpSIn F n P Q a cs w:=by
 intro b k I y r d;have hsz:ops.size=rest.length+1:=by rw[<- Array.length_toList,g];rfl
 have u:ops[0]? = some o:=by rw[<- Array.getElem?_toList,g];rfl
 have i:List.range ops.size=0::List.range' 1 rest.length:=by
  rw[hsz,List.range_eq_range',List.range'_succ]
 have q:(execOp a.eval o).run P w=.ok .recover w:=by
  simp[execOp,M,hc,resolve,invoke,builtin]
 have R:Region.wanted o (yielded ops a.tmps)=true:=QZ E _;have h0:(lone (b.atR a (.inRegion ops (0::List.range' 1 rest.length)::k)) cs w).fenced P F:=fenced_oper r d u (λf _=>H.fn f);have G:=stepGR_op (P:=P) (b:=b) (a:=a) (k:=k) (cs:=cs) (w:=w) (rest:=List.range' 1 rest.length) u R;rw[y,Oper.semAt_none] at G;have C: ∀ v,(b.atR a (.inRegion ops (0::List.range' 1 rest.length)::k)).finish v=b.atR (a.put o.dst v) (.inRegion ops (List.range' 1 rest.length)::k):=by
  intro v;rw[Frame.finish_atR,u];rfl
 have hk:(b.atR a (.inRegion ops (0::List.range' 1 rest.length)::k)).kind=.deferred:=I;have z:=tryRecover_deferred hk cs;have m:=ZfS (cs:=cs);have hl:wpOpsIn F n P ops (λe A w'=>Q e A (recS cs).2 w') (List.range' 1 rest.length) (a.put (some t) (recS cs).1) w:=by
  rw[wpOpsIn_eq_wpListIn rest 1 (λj=>by
   rw[<- Array.getElem?_toList,g,Nat.add_comm];rfl)]
  exact h
 obtain⟨e,A,w',O,B⟩:=wp_opsIn (F:=F) (n:=n) _ _ _ hl b k (recS cs).2 (y.trans l.symm) r (by rw[m];exact d);refine⟨e,A,(recS cs).2,w',m,O,.of_steps (.head (fenced_calm r d rfl) stepR_region ?_) B⟩;rw[i];refine .one h0 (step_lone_go ?_);rw[G,<- J,<- C];simp only[Frame.atR,y] at z ⊢;unfold recS;cases p:recoverD cs with
 |none=>simp[stepG.apply,q,z,p]
 |some x=>simp[stepG.apply,q,z,p]
def takes (P:Program):List Nat->World->World->Prop
 |[],w,w'=>w=w'
 |b::c,w,w'=>∃ a,(Instr.takeDeferred b).run P w=.ok [] a/\takes P c a w'
theorem Z0F: ∀ (a:List Nat) (w w':World) (fr:Frame) (cs:List Frame),fr.mode≠ .run->fr.defers=a.map mkd->F.fn fr.fn->F.room (cs.length+1+n)->takes P a w w' →
  StepsIn (Machine.fenced P F) P (lone fr cs w) (lone {fr with defers:=[]} cs w')
 |[],w,w',fr,cs,_,c,_,_,f=>by
  cases f;have:{fr with defers:=[]}=fr:=by rw[show ([]:List Deferred)=fr.defers from c.symm]
  rw[this];exact StepsIn.refl _
 |b::a,w,w',fr,cs,hm,c,d,hr,⟨i,h1,h2⟩=>by
  have s1:=step_collected (cs:=cs) hm c rfl h1;have h:(lone fr cs w).fenced P F:=fenced_out d hr hm c (λg e=>by simp[mkd,Target.leads] at e)
  have:=Z0F a i w' {fr with defers:=[]++a.map mkd} cs hm rfl d hr h2;exact .head h s1 this
def Z2U (P:Program) (fn:Func) (c:Frame) (cs:List Frame) (R:Ending->FrameMode->World->Prop):Exit->Act->List Frame->World->Prop:=λe a cs' w =>
 (e=.normal\/e=.ret)/\ ∃ f d,a.defers=f.map mkd/\takes P f w d/\ ∃ g,cs'={c with mode:=g}::cs/\ ∃ v,(results fn a.tmps).run P d=.ok v d/\R (.returned v) g d
theorem Z3c {f:FuncId} {fn:Func} {c:Code} {args:Array Value} {u:FrameMode} {w:World} {R:Ending->FrameMode->World->Prop}
  (hf:P.funcs[f]? = some fn) (z:fn.body=some c) (k:F.fn f)
  (h: ∀ (a:Frame) (cs:List Frame),a.mode=u →
   c.wpSIn F n P (Z2U P fn a cs R) {tmps:=args++Array.replicate (fn.ntmps-args.size) undef,defers:=[]} (a::cs) w) :
  CallsDIn F n P f args u w R:=by
 refine⟨k,λa cs C d=>?_⟩;let b:Frame:={(default:Frame) with fn:=f,kind:=.deferred,roundOf:=none};have j:Frame.enter P f args .deferred =
   b.atR {tmps:=args++Array.replicate (fn.ntmps-args.size) undef,defers:=[]} [.code c]:=by
  simp[Frame.enter,Frame.atR,hf,z,b]
 obtain⟨e,r,cs',w',hl,B,i⟩:=h a cs C b [] rfl rfl k d;rw[<- j] at i;obtain⟨A,y,q,l,m,p,rfl,v,hr,x⟩:=B;have g:F.room (({a with mode:=p}::cs:List Frame).length+1+n):=d;rcases A with rfl|rfl
 ·have t:=Z0F (P:=P) (F:=F) (n:=n) y w' q {b.atR r [] with mode:=.returning} ({a with mode:=p}::cs) (by simp) l k g m;exact⟨.returned v,p,q,_,x,(StepsIn.trans i (.one (fenced_calm (fr:=b.atR r []) k d rfl) (stepR_end rfl))).trans t,rfl,rfl,rfl,rfl,fn,hf,hr⟩
 ·obtain⟨o,hs⟩:=i.1 rfl;have t:=Z0F (P:=P) (F:=F) (n:=n) y w' q {b.atR r o with mode:=.returning} ({a with mode:=p}::cs) (by simp) l k g m;exact⟨.returned v,p,q,_,x,StepsIn.trans hs t,rfl,rfl,rfl,rfl,fn,hf,hr⟩
def recM:FrameMode->Value × FrameMode
 |.panicking (⟨v,false,false⟩::a)=>(v,.panicking ({v,recovered:=true}::a))
 |u=>(.nilIface,u)
theorem Zkx (a:Frame) (cs:List Frame):recS (a::cs)=((recM a.mode).1,{a with mode:=(recM a.mode).2}::cs):=by
 obtain⟨fn,tmps,d,defers,mode,kind,f⟩:=a;cases mode with
 |panicking e =>
  cases e with
  |nil=>rfl
  |cons p c =>
   obtain⟨v,r,g⟩:=p;cases r<;>cases g<;>rfl
 |run=>rfl
 |returning=>rfl
def CallD (P:Program) (u:FrameMode) (d:D) (ob:Obs) (R:FrameMode->Obs->Prop):Prop :=
 ∀ (F:Fence) (_:Fence.Open F) (_:F.round=none) (n:Nat) (φ:Mem) (h:Nat->Value) (w:World) (g:FuncId) (va vc:Array Value),Loc (λ_=>True) ob φ h w->RV φ h (.func (.func g) va vc) d →
  CallsDIn F n P g (va++vc) u w (λe a w'=>∃ v ob' φ' h',e=.returned v/\R a ob'/\After ob φ h w ob' φ' h' w')
theorem Z73 {N:Nat} {hi:Hints} {a b:Code} {e c:SC} (hc:Zt P N hi (.seq a b)=some (.seq e c)):Zt P N hi a=some e/\(Zt P N hi b=some c\/ ∃ ts d,c=.seq (.spec (.frg ts)) d/\Zt P N hi b=some d):=by grind [Zt]
theorem Z4Z {N:Nat} {hi:Hints} {c:Code} {f h:SC} (hc:Zt P N hi c=some (.seq f h)): ∃ a b,c=.seq a b:=by
 cases c with
 |seq a b=>exact⟨a,b,rfl⟩
 |region id ops e =>
  grind [Z1b,Zt]
 |cond x a b=>simp only[Zt] at hc;split at hc<;>cases hc
 |block id c=>simp only[Zt] at hc;cases d:Zt P N hi c<;>rw[d] at hc<;>cases hc
 |loop c=>simp only[Zt] at hc;cases d:Zt P N hi c<;>rw[d] at hc<;>cases hc
 |rangeFunc g ps a b=>simp only[Zt] at hc;split at hc<;>cases hc
 |_=>cases hc
theorem Z4I [CodesOf P] (Z3:DrawSound P) (j:Fence.Open F) {hi:Hints} {c:Code} {i:SC} {cx:Cx} {ds:List Deferred} (hc:Zt P cx.N hi c=some i\/ ∃ ts a,i=.seq (.spec (.frg ts)) a/\Zt P cx.N hi c=some a) (d:GlobC cx.φ0 cx.w0 cx.Z) (f:InRound F cx)
  {Q:Exit->St->Prop} {s:St} {φ:Mem} {h:Nat->Value} {tmps:Array Value} {w:World} (hm:Mod cx s φ h tmps w) (hs:sw P cx.bs i Q s):c.wpIn F n P (PostM cx ds Q) ⟨tmps,ds⟩ w:=by
 rcases hc with hc|⟨ts,a,rfl,hc⟩
 ·grind [Z0e,sw]
 ·obtain⟨φ2,hk,e⟩:=hm.canonM ts;have g:sw P cx.bs a Q (s.canon cx.bs ts):=hs;exact Z0e (n:=n) Z3 j c a hc cx ds rfl rfl d f Q _ φ2 hk tmps w e g
theorem Z2S {N:Nat} {hi:Hints} {c:Code} {k:Sp} (hc:Zt P N hi c=some (.spec k)): ∃ id ops,c=.region id ops false/\Z0T P N hi ops=some k:=by
 cases c with
 |region id ops e =>
  grind [Z1b,Zt]
 |seq a b =>
  grind [Z1b,Zt]
 |cond x a b=>simp only[Zt] at hc;split at hc<;>cases hc
 |block id c=>simp only[Zt] at hc;cases d:Zt P N hi c<;>rw[d] at hc<;>cases hc
 |loop c=>simp only[Zt] at hc;cases d:Zt P N hi c<;>rw[d] at hc<;>cases hc
 |rangeFunc g ps a b=>simp only[Zt] at hc;split at hc<;>cases hc
 |_=>cases hc
theorem Zbd {N:Nat} {hi:Hints} {ops:Array Oper} {t:Nat} {sops:List SOp} (hc:Z0T P N hi ops=some (.rcv t sops)): ∃ o rest c,ops.toList=o::rest/\o.op=.call c/\c.callee=.builtin .recover/\o.dst=some t/\o.guard=none ∧
  rest.mapM (λo=>QL P hi.bt (hi.fz (o.dst.getD 0)) ops o)=some sops/\QJ N ops=true/\t<N:=by grind [Z0T,ZpW]
theorem Zbf {N:Nat} {hi:Hints} {ops:Array Oper} {f:X} {sops:List SOp} (hc:Z0T P N hi ops=some (.dfr sops f)): ∃ init o c x,ops.toList=init++[o]/\o.op=.defer c/\c.callee=.value x/\c.args=#[]/\o.dst=none/\o.guard=none/\Q3 x=some f ∧
  init.mapM (λo=>QL P hi.bt (hi.fz (o.dst.getD 0)) ops o)=some sops/\QJ N ops=true:=by
 unfold Z0T at hc;split at hc
 ·grind
 ·split at hc
  ·grind
  ·split at hc
   ·rename_i x hx;split at hc
    ·rename_i h e g hs;split at hc
     ·rename_i i;cases hc;unfold ZrJ at hx;split at hx
      ·rename_i heq;split at hx
       case isFalse=>cases hx
       rename_i d;cases hx;have d:=Array.eq_empty_of_size_eq_zero d;subst d;rcases List.eq_nil_or_concat ops.toList with h0|⟨l,a,h0⟩
       ·grind
       ·grind
      ·cases hx
     ·cases hc
    ·cases hc
   ·grind
end
end Go.Sx
namespace Go.Sx
open Go.RowKit
variable [Globs] [Codes]
section
variable {F:Fence} {n:Nat} {P:Program}
theorem Z24 {cx:Cx} {s:St} {φ:Mem} {h:Nat->Value} {tmps:Array Value}: ∀ (e:List Nat) (w:World),(e.Nodup/\ ∀ b∈e,cx.kp b=none/\cx.w0.heap.size<=b)->Mod (cx.more e) s φ h tmps w-> ∃ f,takes P e w f/\Mod cx s φ h tmps f
 |[],w,_,hm=>by rw[Cx.more_nil] at hm;exact⟨w,rfl,hm⟩
 |b::e,w,j,hm=>by
  obtain⟨a,d⟩:=j;rw[List.nodup_cons] at a;obtain⟨k,hk,g⟩:=And.intro a.1 (d b (by simp));obtain⟨h1,i⟩:=hm.unmark k hk g;obtain⟨f,l,m⟩:=Z24 e _ ⟨a.2,λc hc=>d c (List.mem_cons_of_mem _ hc)⟩ i;exact⟨f,⟨_,run_takeDeferred h1,l⟩,m⟩
theorem CallD.fn [CodesOf P] (Z3:DrawSound P) {g:FuncId} {N t:Nat} {ops:List SOp} {sb:SC} (hf:FnC P g N (.seq (.spec (.rcv t ops)) sb) []) {first caps:List D} {ob:Obs} (k:Nat) (hk:Obs.top ob<=k) (hlen:(first++caps).length<=N) {u:FrameMode} (B:(recM u).1.oneCell'=true) {R:FrameMode->Obs->Prop}
  (hst:stps P (St.nx ⟨(t,.raw (recM u).1)::Z8 t (ZM 0 (first++caps)),ob⟩ k) ops ⟨(t,.raw (recM u).1)::Z8 t (ZM 0 (first++caps)),ob⟩
   λs1=>sw P k sb (λe s=>(e=.normal\/e=.ret)/\RetL k (λ_ ob'=>R (recM u).2 ob') s (.tuple [])) s1) :
  CallD P u (.func (.func g) first caps) ob R:=by
 intro F H a n φ h w g' va vc hp hrv;obtain⟨va',vc',hve,ha,hc,I,M⟩:=func_inv hrv;cases hve;obtain⟨fn,c,hi,W,r,hN,m,C⟩:=hf.ex;obtain⟨ca,cb,rfl⟩:=Z4Z m;obtain⟨O,S⟩:=Z73 m;obtain⟨id,ops0,rfl,hsp⟩:=Z2S O;obtain⟨o,rest,c,q,ho,hcal,y,X,A,T,ht⟩:=Zbd hsp;have p:RVL φ h (va++vc).toList (first++caps):=by
  rw[Array.toList_append];exact QY (ZG _ _ (by simpa using ha) λj d x=>by have:=I j d x;simpa [Array.getD_eq_getD_getElem?,List.getD] using this)
   (ZG _ _ (by simpa using hc) λj d x=>by have:=M j d x;simpa [Array.getD_eq_getD_getElem?,List.getD] using this)
 have hsz:(va++vc).size<=N:=by
  have:=p.length;simp only[Array.length_toList] at this;omega
 refine Z3c W r (H.fn g) λf cs hu=>?_;rw[hN];have hm0:=hp.enter (N:=N) (k:=k) (kp:=λ_=>none) (vs:=(va++vc)++Array.replicate (N-(va++vc).size) Go.undef) (by rw[Array.size_append,Array.size_replicate];omega) (λt d x=>Z48 p t d x) (ob1:=ob) (λ_ _ h=>h) (λ_ _ h=>by cases h);have hm1:=(hm0.setTmp ht (d:=.raw (recM u).1) (v:=(recM u).1) (.pure (.raw _ B))).weaken (s':=⟨(t,.raw (recM u).1)::Z8 t (ZM 0 (first++caps)),ob⟩) (λi d hi=>by simp only[ZE] at hi;exact hi) (λ_ _ h=>h);refine wpSIn_seq (Z57 H a q ho hcal y X ?_);rw[Zkx,hu];have hro:InRound F {N,w0:=w,φ0:=φ,Z:=ZOf ob h,bs:=k,h0:=h,kp:=λ_=>none}:=λl hl=>by rw[a] at hl;cases hl
 have key:=Z1P (n:=n) (F:=F) (ds:=[]) (cx:={N,w0:=w,φ0:=φ,Z:=ZOf ob h,bs:=k,h0:=h,kp:=λ_=>none}) (rest:=[]) (Nat.le_max_left k _) hp.glob H
  (Y:=λe a' w'=>Exit.thenS (cb.wpSIn F n P (Z2U P fn f cs λe u' w'=>∃ v ob' φ' h',e=.returned v/\R u' ob'/\After ob φ h w ob' φ' h' w')) (Z2U P fn f cs λe u' w'=>∃ v ob' φ' h',e=.returned v/\R u' ob'/\After ob φ h w ob' φ' h' w') e a' ({f with mode:=(recM u).2}::cs) w')
  (K:=λs1=>sw P k sb (λe s=>(e=.normal\/e=.ret)/\RetL k (λ_ ob'=>R (recM u).2 ob') s (.tuple [])) s1)
  (λs1 φ1 h1 tm w1 hm hk'=>?_) rest ops A (λo' ho'=>ZO T o' (by rw[q];exact List.mem_cons_of_mem _ ho')) _ φ h _ w hm1 hst
 ·rw[List.append_nil] at key;exact key
 ·show cb.wpSIn F n P _ ⟨tm,[]⟩ _ w1;refine wpSIn_of_wpIn a (wpIn_mono (Z4I (n:=n) (ds:=[]) (cx:={N,w0:=w,φ0:=φ,Z:=ZOf ob h,bs:=k,h0:=h,kp:=λ_=>none}) Z3 H S hp.glob hro hm hk') ?_);rintro e ⟨tm2,df⟩ w2 ⟨ms,hnd,U,s2,φ2,h2,⟨he,hR⟩,hm2⟩;obtain⟨w3,htk,z⟩:=Z24 (P:=P) ms w2 hnd hm2;obtain⟨v,E,G⟩:=Z7J C (ds:=[]) rfl z;obtain⟨h3,_,J⟩:=z.leave rfl rfl rfl rfl rfl hp.glob hk G;exact⟨he,ms,w3,by simpa using U,htk,_,rfl,v,E,v,_,φ2,h3,rfl,hR,J⟩
theorem Mod.rebase {cx:Cx} {s:St} {φ:Mem} {h:Nat->Value} {tmps:Array Value} {w:World} (hm:Mod cx s φ h tmps w) (k2:Nat):Mod {cx with bs:=k2,h0:=h,φ0:=φ} s φ h tmps w :=
 ⟨hm.size,hm.tm,hm.mem,λ_ _ _ h=>h,(λb o v h1 h2=>by have a:φ b o=none:=h2;rw[h1] at a;cases a),hm.ob,hm.sep,hm.os,hm.tape,hm.output,hm.grow,hm.one,hm.frame,λ_ _=>rfl,hm.kept⟩
theorem Mod.unbase {cx:Cx} {k2:Nat} {h1:Nat->Value} {φ1:Mem} {s:St} {φ:Mem} {h:Nat->Value} {tmps:Array Value} {w:World} (hm:Mod {cx with bs:=k2,h0:=h1,φ0:=φ1} s φ h tmps w) (d:cx.bs<=k2) (hfix: ∀ i,i<cx.bs->h1 i=cx.h0 i)
  (a: ∀ b o v,cx.φ0 b o=some v->φ1 b o=some v) (c: ∀ b o v,φ1 b o=some v->cx.φ0 b o=none->cx.own b):Mod cx s φ h tmps w :=
 ⟨hm.size,hm.tm,hm.mem,λb o v h=>hm.ext b o v (a b o v h),(λb o v h1 h2=>by
  cases e:φ1 b o with
  |none=>exact hm.new b o v h1 e
  |some u=>exact c b o u e h2),hm.ob,hm.sep,hm.os,hm.tape,hm.output,hm.grow,hm.one,hm.frame,λi hi=>by rw[hm.hfix i (Nat.lt_of_lt_of_le hi d)];exact hfix i hi,hm.kept⟩
def swD (P:Program) (bs:Nat) (Q1:Exit->St->Prop) (KD:D->SC->St->Prop):SC->St->Prop
 |.seq a b,s=>match a with
  |.spec (.dfr ops x)=>stps P (s.nx bs) ops s λs1=>KD (s1.get x) b s1
  |.spec (.frg ts)=>swD P bs Q1 KD b (s.canon bs ts)
  |a=>sw P bs a (thenS (swD P bs Q1 KD b) Q1) s
 |_,_=>False
theorem Zbe {N:Nat} {hi:Hints} {ops:Array Oper} {ts:List Nat} (hc:Z0T P N hi ops=some (.frg ts)):False:=by grind [Z0T]
theorem ZbU [CodesOf P] (Z3:DrawSound P) (hF:Fence.Open F) (u:F.round=none) {hi:Hints} {N bs:Nat} {Q1:Exit->St->Prop} {KD:D->SC->St->Prop} {Y:Exit->Act->World->Prop} (c:Code): ∀ (sc:SC),Zt P N hi c=some sc-> ∀ (cx:Cx) (ds:List Deferred),cx.N=N->cx.bs=bs->GlobC cx.φ0 cx.w0 cx.Z->InRound F cx →
  ∀ (s:St) (φ:Mem) (h:Nat->Value) (tmps:Array Value) (w:World),Mod cx s φ h tmps w->swD P bs Q1 KD sc s →
  (∀ e a w',e≠ .normal->PostM cx ds Q1 e a w'->Y e a w') →
  (∀ (x:Operand) (x':X) (O:Code) (m:SC) (tm:Array Value) (df:List Deferred) (r:World),Q3 x=some x'->(Zt P N hi O=some m\/ ∃ ts M,m=.seq (.spec (.frg ts)) M/\Zt P N hi O=some M)->PostM cx ds (λ_ s1=>KD (s1.get x') m s1) .normal ⟨tm,df⟩ r →
   ∃ d,(Deferred.ofValue (Act.eval ⟨tm,df⟩ x) #[]).run P r=.ok d r/\O.wpIn F n P Y ⟨tm,d::df⟩ r)->c.wpIn F n P Y ⟨tmps,ds⟩ w:=by
 induction c with
 |seq a b iha ihb =>
  intro sc hc cx ds hN p t H s φ h tmps w hm hs h1 h2;have hsc: ∃ J m,sc=.seq J m:=by
   simp only[Zt] at hc;split at hc
   ·split at hc
    ·cases hc;exact⟨_,_,rfl⟩
    ·cases hc;exact⟨_,_,rfl⟩
   ·cases hc
  obtain⟨J,m,rfl⟩:=hsc;obtain⟨G,S⟩:=Z73 hc;have g:sw P bs J (thenS (swD P bs Q1 KD m) Q1) s->(Code.seq a b).wpIn F n P Y ⟨tmps,ds⟩ w:=λhs=>by
   refine wpIn_seq (wpIn_mono (Z0e (n:=n) Z3 hF a J G cx ds hN p t H _ s φ h tmps w hm hs) ?_);rintro e ⟨tm,df⟩ w' ⟨q,l,U,s',φ',h',B,j⟩;simp only at U;subst U;have R: ∀ (z:SC),Zt P N hi b=some z-> ∀ (y:St) (φ'':Mem) (C:Nat->Value),Mod (cx.more q) y φ'' C tm w'->swD P bs Q1 KD z y->b.wpIn F n P Y ⟨tm,q.map mkd++ds⟩ w':=λz hb' y φ'' C hm'' hs'' =>
    ihb z hb' (cx.more q) (q.map mkd++ds) hN p t (H.more q) y φ'' C tm w' hm'' hs''
     (λe a w' he hp=>h1 e a w' he (hp.after l))
     (λx x' O m tm df r q1 q2 q3=>h2 x x' O m tm df r q1 q2 (q3.after l))
   cases e with
   |normal =>
    simp only[thenS] at B;simp only[Exit.then];rcases S with hb|⟨ts,M,rfl,hb⟩
    ·exact R m hb s' φ' h' j B
    ·obtain⟨φ2,hk,hmk⟩:=j.canonM ts;have hq':swD P bs Q1 KD M (s'.canon bs ts):=B;subst p;exact R M hb _ φ2 hk hmk hq'
   |ret=>exact h1 _ _ _ (by simp) ⟨q,l,rfl,s',φ',h',B,j⟩
   |exit i=>exact h1 _ _ _ (by simp) ⟨q,l,rfl,s',φ',h',B,j⟩
   |goto i=>exact h1 _ _ _ (by simp) ⟨q,l,rfl,s',φ',h',B,j⟩
   |panic i=>exact h1 _ _ _ (by simp) ⟨q,l,rfl,s',φ',h',B,j⟩
   |outgrown=>exact h1 _ _ _ (by simp) ⟨q,l,rfl,s',φ',h',B,j⟩
  cases J with
  |spec k =>
   cases k with
   |dfr ops x =>
    obtain⟨id,ops0,rfl,I⟩:=Z2S G;obtain⟨init,o,c0,x0,A,ho,hcal,E,W,hgd,hx,hmap,hdd⟩:=Zbf I;refine wpIn_seq (wpIn_region_list ?_);rw[A];have T:=ZO hdd;subst hN;subst p;refine Z1P (n:=n) (F:=F) (cx:=cx) (ds:=ds) (Nat.le_max_left cx.bs _) t hF (K:=λs1=>KD (s1.get x) m s1) (rest:=[o]) (λs1 φ1 h1' tm r hm1 hk=>?_) init ops hmap (λo' ho'=>T o' (by rw[A];simp[ho'])) s φ h tmps w hm hs;obtain⟨d,hd,hw⟩:=h2 x0 x b m tm ds r hx S (PostM.of (Q:=λ_ s1=>KD (s1.get x) m s1) hk hm1);unfold wpListIn;rw[if_pos (QZ hgd _)];refine⟨λf _=>hF.fn f,?_⟩;rw[u,Oper.semAt_none];have hrun:(execOp (Act.eval ⟨tm,ds⟩) o).run P r=.ok (.defer d) r:=by
     simp only[execOp,ho,resolve,hcal,E,Array.map_empty,Sem.run_bind,hd,Result.andThen_ok];rfl
    rw[hrun,Oper.uponIn_defer,W];exact hw
   |frg ts =>
    obtain⟨id,ops0,rfl,I⟩:=Z2S G;exact (Zbe I).elim
   |rng _ _ _=>exact g hs
   |nxt _ _ _=>exact g hs
   |rcv _ _=>exact g hs
   |pan _=>exact g hs
   |ord _ _=>exact g hs
  |_=>exact g hs
 |_ =>
  intro sc hc cx ds hN p t H s φ h tmps w hm hs;cases sc with
  |seq J m =>
   obtain⟨a,b,e⟩:=Z4Z hc;cases e
  |_=>exact hs.elim
def DQ (P:Program) (k k2:Nat) (rs:List SR) (cl:D) (R:D->Obs->Prop) (u:FrameMode) (a:St):Prop:=∃ nm Rd base,nm.Nodup/\(∀ i∈nm,(lk a.ob i).isSome)/\k2<=base/\a.top<=base/\CallD P u (cl.ren (idx · nm)) (ZT a.ob (idx · nm) 0 nm) Rd ∧
 ∀ c ob',Rd c ob'->settle c=.returning/\ ∃ ds,rs.mapM (resD (a.back base nm ob'))=some ds/\RetL k R (a.back base nm ob') (Z0H ds)
def DefQ (P:Program) (k k2:Nat) (rs:List SR) (cl:D) (R:D->Obs->Prop):Exit->St->Prop:=λe a=>match e with
 |.normal=>DQ P k k2 rs cl R .returning a
 |.ret=>DQ P k k2 rs cl R .returning a
 |.panic c=>DQ P k k2 rs cl R (.panicking c) a
 |_=>False
def KDef (P:Program) (k:Nat) (rs:List SR) (R:D->Obs->Prop):D->SC->St->Prop:=λcl c s1=>∃ g fa a k2,cl=.func (.func g) fa a/\ZC P g=true/\s1.top<=k2/\k<=k2/\D.top cl<=k2/\sw P k2 c (DefQ P k k2 rs cl R) s1
theorem CallL.fnD [CodesOf P] (Z3:DrawSound P) {f:FuncId} {N:Nat} {sc:SC} {rs:List SR} (hf:FnC P f N sc rs) (hpf:ZC P f=true) {first caps args:List D} {ob:Obs} {R:D->Obs->Prop} (k:Nat) (hk:Obs.top ob<=k)
  (hlen:(first++args++caps).length<=N)
  (hsw:swD P k (EndQ rs (RetL k R)) (KDef P k rs R) sc ⟨ZM 0 (first++args++caps),ob⟩):CallL P (.func (.func f) first caps) args ob R:=by
 intro F hF n φ h w v vs hp hv hvs;obtain⟨va,vc,rfl,ha,hc,ha',hc'⟩:=func_inv hv;rw[Zi hpf];show CallsIn F n P f (va++vs++vc) w _;have S:RVL φ h (va++vs++vc).toList (first++args++caps):=by
  rw[Array.toList_append,Array.toList_append];exact QY (QY (ZG _ _ (by simpa using ha) λj d hd=>by have:=ha' j d hd;simpa [Array.getD_eq_getD_getElem?,List.getD] using this) hvs)
   (ZG _ _ (by simpa using hc) λj d hd=>by have:=hc' j d hd;simpa [Array.getD_eq_getD_getElem?,List.getD] using this)
 have hsz:(va++vs++vc).size<=N:=by
  have:=S.length;simp only[Array.length_toList] at this;omega
 refine hF.calls (callsIn_wide (n:=0).1 ?_) n;have hm':=hp.enter (N:=N) (k:=k) (kp:=λ_=>none) (vs:=(va++vs++vc)++Array.replicate (N-(va++vs++vc).size) Go.undef) (by rw[Array.size_append,Array.size_replicate];omega) (λt d hd=>Z48 S t d hd) (ob1:=ob) (λ_ _ h=>h) (λ_ _ h=>by cases h);obtain⟨fn,c,hi,hfn,W,hN,Y,hres⟩:=hf.ex;have hW:=Z2l;refine callsIn_of_wp_marks hfn W (hW.fn f) ?_ rfl;rw[hN];obtain⟨cx,z⟩: ∃ cx:Cx,cx={N,w0:=w,φ0:=φ,Z:=ZOf ob h,bs:=k,h0:=h,kp:=λ_=>none}:=⟨_,rfl⟩;rw[<- z] at hm';have U:GlobC cx.φ0 cx.w0 cx.Z:=by rw[z];exact hp.glob
 have hroc:InRound Fence.wide cx:=λl hl=>by cases hl
 have hbsc:cx.bs=k:=by rw[z]
 have hNc:cx.N=N:=by rw[z]
 have leave: ∀ {s':St} {φ':Mem} {h':Nat->Value} {tm:Array Value} {w':World},Mod cx s' φ' h' tm w'-> ∀ {v:Value} {r:D},RV φ' h' v r-> ∃ h2,RV φ' h2 v ((s'.fin k r).get (.t 0))/\After ob φ h w (s'.fin k r).ob φ' h2 w':=λhm v r hv=>by
  subst z;exact hm.leave rfl rfl rfl rfl rfl hp.glob hk hv
 have p: ∀ {s':St} {φ':Mem} {h':Nat->Value} {tm:Array Value} {ds:List D},rs.mapM (resD s')=some ds->RetL k R s' (Z0H ds)-> ∀ w',Mod cx s' φ' h' tm w'-> ∃ v,(results fn tm).run P w'= .ok v w'/\Post ob φ h w R (.returned v) w':=λ{s' φ' h' tm ds} B hR w' hm=>by
  obtain⟨v,hrun,hrv⟩:=Z7J hres B hm;obtain⟨h2,q1,q2⟩:=leave hm hrv;exact⟨v,hrun,.ret hR q1 q2⟩
 refine ZbU (n:=0) Z3 hW rfl c sc Y cx [] hNc hbsc U hroc _ φ h _ w hm' hsw ?_ ?_
 ·-- no deferred call
  rintro e ⟨tm,df⟩ w' hne ⟨a,J,A,s',φ',h',y,I⟩;simp only[List.append_nil] at A;subst A;cases e with
  |normal=>exact absurd rfl hne
  |ret=>obtain⟨ds,B,hK⟩:=y;exact Z0g (λw' hm=>p B hK w' hm) a w' J I
  |panic c =>
   obtain⟨v,rfl,hK⟩:=y
   have:=QQ (F:=Fence.wide) (n:=0) (P:=P) (fn:=fn) (tmps:=tm) (R:=Post ob φ h w R) (u:=.panicking [{v,recovered:=false}]) (dd:=[]) (by simp)
    (λw' hm=>by
     obtain⟨h2,q1,q2⟩:=leave hm (.undef Go.undef);exact⟨_,_,φ',h2,.inr ⟨v,rfl,rfl⟩,hK,q2⟩) a w' J I
   show LeavesInM Fence.wide 0 P fn tm _ (a.map mkd) _ w';rw[List.append_nil] at this;exact this
  |exit _=>exact y.elim
  |goto _=>exact y.elim
  |outgrown=>exact y.elim
 ·-- the deferred call is noted
  rintro x x' cb sb tm df w1 hx hcb ⟨a,J,A,s1,φ1,h1,⟨g,fa,fc,k2,X,hpg,ht1,hk2,ht2,hsb⟩,q⟩;simp only[List.append_nil] at A;subst A;have m:GlobC (cx.more a).φ0 (cx.more a).w0 (cx.more a).Z:=U;have M:=q.get m (ds:=a.map mkd) hx;rw[X] at M;obtain⟨wa,wc,hve,_,_,_,_⟩:=func_inv M;refine⟨{target:=.fn (.func g) wc,args:=wa++ #[]},by rw[hve];exact Sem.run_pure _ _ _,?_⟩;rw[hve] at M;have E:GlobC φ1 (cx.more a).w0 (cx.more a).Z:=⟨λg cs hg=>(m.ok g cs hg).mono q.ext,m.x,m.i⟩;have hmB:=q.rebase k2;rw[<- hNc] at hcb;refine wpIn_mono (Z4I (n:=0) (F:=Fence.wide) (ds:={target:=.fn (.func g) wc,args:=wa++ #[]}::a.map mkd) (cx:={cx.more a with bs:=k2,h0:=h1,φ0:=φ1}) Z3 hW hcb E (λl hl=>by cases hl) hmB hsb) ?_;rintro e ⟨O,df2⟩ w2 ⟨ms2,hnd2,T,s2,φ2,h2,y,I⟩;simp only at T;subst T
  -- the closure,as it is at the end
  have C: ∀ {u:FrameMode},u≠ .run->DQ P k k2 rs (s1.get x') R u s2->LeavesInM Fence.wide 0 P fn O (Post ob φ h w R) (ms2.map mkd++{target:=.fn (.func g) wc,args:=wa++ #[]}::a.map mkd) u w2:=λ{u} hu hD=>by
   obtain⟨nm,Rd,base,d1,d2,d3,d4,d5,d6⟩:=hD;refine QQ (F:=Fence.wide) (n:=0) (P:=P) (fn:=fn) (tmps:=O) (R:=Post ob φ h w R) hu (λw3 G=>?_) ms2 w2 hnd2 I;have hfx: ∀ i,i<k2->h2 i=h1 i:=λi hi=>G.hfix i hi;have hmono: ∀ b o v,φ1 b o=some v->φ2 b o=some v:=G.ext;have hv2:RV φ2 h2 (.func (.func g) wa wc) (s1.get x'):=by
    rw[X];exact (M.mono hmono).under (n:=k2) (by rw[<- X];exact ht2) hfx
   have H:=d5 Fence.wide hW rfl 0 φ2 (hcal h2 nm) w3 g wa wc (G.loc (G.glob E) d1) (Z1r hv2);refine⟨hu,.inr ⟨(λhd=>by cases hd),.func g,wc,g,wa++ #[]++wc,rfl,?_,λ_ _=>trivial,?_⟩⟩
   ·obtain⟨fn',hf',hb',hn'⟩:=Z1t hpg;simp only[invoke,Sem.run_bind,Sem.run_pure,Result.andThen_ok,callFunc,run_program,hf',hn',hb',Bool.false_eq_true,if_false]
   ·rw[Array.append_empty];refine CallsDIn.mono H ?_;rintro e u' w4 ⟨v,ob',φ',h',rfl,hRd,haft⟩;obtain⟨hset,ds,B,hR⟩:=d6 u' ob' hRd;obtain⟨q6,_⟩:=G.back (base:=base) d3 d4 d1 d2 haft;have hm5:Mod (cx.more a) (s2.back base nm ob') φ' (hbak h2 h' base) O w4:=q6.unbase (by show cx.bs<=k2;omega) (λi hi=>q.hfix i hi) q.ext q.new;show LeavesInM Fence.wide 0 P fn O _ (a.map mkd) (settle u') w4;rw[hset];exact Z0g (λw' hm=>p B hR w' hm) a w4 J hm5
  cases e with
  |normal=>exact C (by simp) y
  |ret=>exact C (by simp) y
  |panic c=>exact C (by simp) y
  |exit _=>exact y.elim
  |goto _=>exact y.elim
  |outgrown=>exact y.elim
end
end Go.Sx
