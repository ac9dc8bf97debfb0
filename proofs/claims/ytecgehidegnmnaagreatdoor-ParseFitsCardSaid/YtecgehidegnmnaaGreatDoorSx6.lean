/- Own work: a layer over the kit: plain data,a walk over it,its soundness. -/
import Derived.RecoverIn
import Derived.RangeFuncLeaves
import Derived.Test.YtecgehidegnmnaaGreatDoorSx5
import Derived.Test.YtecgehidegnmnaaGreatDoorSx4
set_option linter.all false
namespace Go.Sx
open Go.RowKit
variable [Globs] [Codes]
theorem Z1K {α β:Type} {f:α->Option β}: ∀ {l:List α} {d:List β},l.mapM f=some d-> ∀ (k:Nat) (a:α),l[k]? = some a-> ∃ b,f a=some b/\d[k]? = some b
 |[],_,_,k,a,c=>by simp at c
 |x::l,d,h,k,a,c=>by
  simp only[List.mapM_cons,Option.bind_eq_bind,Option.bind_eq_some_iff,Option.pure_def,Option.some.injEq] at h;obtain⟨b,h1,r,h2,rfl⟩:=h;cases k with
  |zero=>simp at c;subst c;exact⟨b,h1,rfl⟩
  |succ k=>obtain⟨e,g,i⟩:=Z1K h2 k a (by simpa using c);exact⟨e,g,by simpa using i⟩
theorem Z1h {α β:Type} {f:α->Option β}: ∀ {l:List α} {a:List β},l.mapM f=some a->a.length=l.length
 |[],_,h=>by simp at h;subst h;rfl
 |x::l,a,h=>by
  simp only[List.mapM_cons,Option.bind_eq_bind,Option.bind_eq_some_iff,Option.pure_def,Option.some.injEq] at h;obtain⟨b,h1,r,h2,rfl⟩:=h;simp[Z1h h2]
def un (ops:Array Oper) (listed:Array Bool):List Nat:=(List.range ops.size).filter λi=>!listed.getD i true
theorem Z8t {ops:Array Oper} {listed:Array Bool} {i:Nat} (hs:listed.size=ops.size) (hi:i∈un ops listed):(un ops (listed.setIfInBounds i true)).length<(un ops listed).length:=by
 have e:un ops (listed.setIfInBounds i true)=(un ops listed).filter λj=>decide (j≠i):=by
  unfold un;rw[List.filter_filter];refine List.filter_congr λj c=>?_;have a:j<listed.size:=by rw[hs];exact List.mem_range.1 c
  by_cases h:j=i
  ·subst h;simp[a]
  ·simp[Array.getD_eq_getD_getElem?,Array.getElem?_setIfInBounds_ne (Ne.symm h),h]
 rw[e];exact List.length_filter_lt_length_iff_exists.2 ⟨i,hi,by simp⟩
theorem Z1G {ops:Array Oper} {listed:Array Bool} {i:Nat} (h:i∈Region.ready .any ops listed):i∈un ops listed:=by
 obtain⟨h1,o,h2,_⟩:=mem_ready.1 h;exact List.mem_filter.2 ⟨List.mem_range.2 (Array.getElem?_eq_some_iff.1 h2).1,by simpa using h1⟩
def Closed (ops:Array Oper) (listed:Array Bool):Prop:=∀ i o,ops[i]? = some o->listed.getD i false=true-> ∀ e∈o.after,Region.binds .any e=true->listed.getD e.on false=true
theorem Z3B {pre:List Nat} {i:Nat}: ∀ {l:List Edge} {m:Nat},(Z4P pre l m).testBit i=true->m.testBit i=true\/ ∃ e∈l,Region.binds .any e=true/\(i=e.on\/Qb pre i e.on=true)
 |[],m,h=>.inl h
 |e::r,m,h=>by
  simp only[Z4P] at h;rcases Z3B h with h|⟨c,d,h⟩
  ·split at h
   ·rename_i a;simp only[Nat.testBit_or,Bool.or_eq_true] at h;rcases h with (h|h)|h
    ·exact .inl h
    ·refine .inr ⟨e,by simp,a,.inl ?_⟩
     have:=Nat.testBit_two_pow (n:=e.on) (m:=i);rw[this] at h;exact (of_decide_eq_true h).symm
    ·exact .inr ⟨e,by simp,a,.inr h⟩
   ·exact .inl h
  ·exact .inr ⟨c,List.mem_cons_of_mem _ d,h⟩
def Z65 (pre:List Nat) (ops:Array Oper):Prop:=∀ i j,Qb pre i j=true-> ∃ o,ops[j]? = some o/\ ∃ e∈o.after,Region.binds .any e=true/\e.on<j/\(i=e.on\/Qb pre i e.on=true)
theorem Qg {ops:Array Oper} {listed:Array Bool} {pre:List Nat} (hp:Z65 pre ops) (c:Closed ops listed): ∀ (j i:Nat),(∀ o,ops[j]? = some o-> ∀ e∈o.after,Region.binds .any e=true->listed.getD e.on false=true)->Qb pre i j=true->listed.getD i false=true:=by
 intro j;induction j using Nat.strongRecOn with
 |_ j p =>
  intro i k g;obtain⟨o,m,e,l,a,d,h⟩:=hp i j g;have hl:=k o m e l a;rcases h with rfl|h
  ·exact hl
  ·exact p e.on d i (λo' f=>c e.on o' f hl) h
theorem Z0F {listed:Array Bool} {i j:Nat} (hi:i<listed.size):(listed.setIfInBounds i true).getD j false=true ↔ listed.getD j false=true\/j=i:=by
 by_cases h:j=i
 ·subst h;simp[hi]
 ·simp[Array.getD_eq_getD_getElem?,Array.getElem?_setIfInBounds_ne (Ne.symm h),h]
theorem QM {listed:Array Bool} {i:Nat} (hi:i<listed.size):listed.getD i true=listed.getD i false:=by simp[Array.getD,hi]
theorem Closed.set {ops:Array Oper} {listed:Array Bool} (c:Closed ops listed) {i:Nat} (hi:i<listed.size) (hr: ∀ o,ops[i]? = some o-> ∀ e∈o.after,Region.binds .any e=true->listed.getD e.on false=true):Closed ops (listed.setIfInBounds i true):=by
 intro j o g a e f d;rw[Z0F hi] at a ⊢;rcases a with a|rfl
 ·exact .inl (c j o g a e f d)
 ·exact .inl (hr o g e f d)
section latest
variable {V:Type} {L L':Nat->Prop} {wr:Nat->Option V} {v0 v v':V}
def Latest (L:Nat->Prop) (wr:Nat->Option V) (v0 v:V):Prop :=
 (∃ k x,L k/\wr k=some x/\v=x/\ ∀ a,L a->(wr a).isSome->a<=k)\/((∀ k,L k->wr k=none)/\v=v0)
theorem Latest.none (h: ∀ k,¬ L k):Latest L wr v0 v0:=.inr ⟨λk a=>absurd a (h k),rfl⟩
theorem Latest.skip {j:Nat} (h:Latest L wr v0 v) (d:wr j=Option.none):Latest (λk=>L k\/k=j) wr v0 v:=by
 rcases h with⟨k,x,h1,h2,f,g⟩|⟨h1,h2⟩
 ·refine .inl ⟨k,x,.inl h1,h2,f,λl a c=>?_⟩;rcases a with a|rfl
  ·exact g l a c
  ·rw[d] at c;cases c
 ·exact .inr ⟨λk i=>i.elim (h1 k) λe=>by rw[e];exact d,h2⟩
theorem Latest.put {j:Nat} {x:V} (c:wr j=some x) (hl: ∀ k,L k->(wr k).isSome->k<=j):Latest (λk=>L k\/k=j) wr v0 x :=
 .inl ⟨j,x,.inr rfl,c,rfl,λf a d=>a.elim (λh=>hl f h d) λe=>by omega⟩
theorem Latest.uniq (h:Latest L wr v0 v) (h':Latest L' wr v0 v') (d: ∀ k,(wr k).isSome->(L k ↔ L' k)):v=v':=by
 rcases h with⟨k,x,h1,h2,f,g⟩|⟨h1,h2⟩<;>rcases h' with⟨c,o,e,a,i,j⟩|⟨e,a⟩
 ·have l:k<=c:=j k ((d k (by rw[h2];rfl)).1 h1) (by rw[h2];rfl);have m:c<=k:=g c ((d c (by rw[a];rfl)).2 e) (by rw[a];rfl);have:k=c:=by omega
  subst this;rw[h2] at a;rw[f,i];exact Option.some.inj a
 ·have:=e k ((d k (by rw[h2];rfl)).1 h1);rw[h2] at this;cases this
 ·have:=h1 c ((d c (by rw[a];rfl)).2 e);rw[a] at this;cases this
 ·rw[h2,a]
theorem Latest.congr (h:Latest L wr v0 v) (a: ∀ k,L k ↔ L' k):Latest L' wr v0 v:=by
 rcases h with⟨k,x,h1,h2,e,f⟩|⟨h1,h2⟩
 ·exact .inl ⟨k,x,(a k).1 h1,h2,e,λd c=>f d ((a d).2 c)⟩
 ·exact .inr ⟨λk g=>h1 k ((a k).2 g),h2⟩
end latest
def twr (e:Eff) (t:Nat):Option (Option D):=match e.tm with
 |some (a,d)=>if t=a then some (some d) else none
 |none=>none
theorem ZjI (s:St) (e:Eff) (t:Nat):lk (s.app e).tm t=(twr e t).getD (lk s.tm t):=by
 simp only[St.app,twr];cases e.tm with
 |none=>rfl
 |some p =>
  obtain⟨a,d⟩:=p;simp only[lk];split
  ·rfl
  ·rename_i hi;rw[ZD,if_neg hi];rfl
theorem ZjJ (s:St) (e:Eff) (i:Nat):lk (s.app e).ob i=(lk e.ob i).getD (lk s.ob i):=by
 simp only[St.app];rw[Z45];cases lk e.ob i<;>rfl
theorem Z18 {α:Type} {p:Nat × α->Bool} (id:Nat): ∀ {l:List (Nat × α)},l.all p=true->(Za id l).all p=true
 |[],_=>rfl
 |(j,x)::r,h=>by
  simp only[List.all_cons,Bool.and_eq_true] at h;simp only[Za];split
  ·exact Z18 id h.2
  ·simp only[List.all_cons,Bool.and_eq_true];exact⟨h.1,Z18 id h.2⟩
theorem Z46 {i:Nat}: ∀ {l:List (Nat × Option Ob)} {ob:Obs},(l.any λp=>match p.2 with|some o=>Ob.men i o|none=>false)=false->(ob.all λp=>!(Ob.men i p.2))=true->((setO l ob).all λp=>!(Ob.men i p.2))=true
 |[],ob,_,h=>h
 |(j,none)::r,ob,h1,h2=>by
  simp only[List.any_cons,Bool.false_or] at h1;exact Z18 j (Z46 h1 h2)
 |(j,some o)::r,ob,h1,h2=>by
  simp only[List.any_cons,Bool.or_eq_false_iff] at h1;simp only[setO,List.all_cons,Bool.and_eq_true,Bool.not_eq_true'];exact⟨h1.1,Z18 j (Z46 h1.2 h2)⟩
theorem Zaw {s:St} {e:Eff} {i:Nat} (h:s.clean i=true) (a:e.men i=false):(s.app e).clean i=true:=by
 simp only[St.clean,Bool.and_eq_true] at h ⊢;simp only[Eff.men,Bool.or_eq_false_iff] at a;refine⟨?_,Z46 a.2 h.2⟩;simp only[St.app];cases c:e.tm with
 |none=>exact h.1
 |some p =>
  obtain⟨t,d⟩:=p
  have:=a.1;rw[c] at this;simp only[List.all_cons,Bool.and_eq_true,Bool.not_eq_true'];exact⟨this,Z18 t h.1⟩
theorem Env.top_erase (id:Nat): ∀ (l:Env),Env.top (Za id l)<=Env.top l
 |[]=>Nat.le_refl _
 |(j,d)::r=>by
  have:=Env.top_erase id r;simp only[Za];split<;>simp only[Env.top]<;>omega
theorem Obs.top_erase (id:Nat): ∀ (l:Obs),Obs.top (Za id l)<=Obs.top l
 |[]=>Nat.le_refl _
 |(j,d)::r=>by
  have:=Obs.top_erase id r;simp only[Za];split<;>simp only[Obs.top]<;>omega
theorem Z44: ∀ (l:List (Nat × Option Ob)) (ob:Obs),Obs.top (setO l ob)<=max (otop l) (Obs.top ob)
 |[],ob=>by simp only[setO,otop];omega
 |(j,none)::r,ob=>by
  have h1:=Z44 r ob;have h2:=Obs.top_erase j (setO r ob);simp only[setO,otop];omega
 |(j,some o)::r,ob=>by
  have h1:=Z44 r ob;have h2:=Obs.top_erase j (setO r ob);simp only[setO,otop,Obs.top];omega
theorem Zgl {s:St} {e:Eff} {q:Nat} (h:s.top<=q) (c:e.top<=q):(s.app e).top<=q:=by
 have h1:Env.top s.tm<=q:=Nat.le_trans (Nat.le_max_left _ _) h;have h2:Obs.top s.ob<=q:=Nat.le_trans (Nat.le_max_right _ _) h;have g:=Z44 e.ob s.ob;have i:otop e.ob<=q:=Nat.le_trans (Nat.le_max_right _ _) c;have a:(match e.tm with|some (_,d)=>D.top d|none=>0)<=q:=Nat.le_trans (Nat.le_max_left _ _) c;simp only[St.top,St.app];refine Nat.max_le.2 ⟨?_,by omega⟩;cases f:e.tm with
 |none=>exact h1
 |some p =>
  obtain⟨t,d⟩:=p;rw[f] at a
  have:=Env.top_erase t s.tm;simp only[Env.top];simp only at a;omega
def stAt:List Eff->St->Nat->St
 |_,s,0=>s
 |[],s,_=>s
 |e::es,s,k+1=>stAt es (s.app e) k
theorem Z4F: ∀ {es:List Eff} {s:St} {k:Nat} {e:Eff},es[k]? = some e->stAt es s (k+1)=(stAt es s k).app e
 |[],_,k,_,h=>by simp at h
 |x::es,s,0,e,h=>by
  simp at h;subst h;cases es<;>rfl
 |x::es,s,k+1,e,h=>by
  have:=Z4F (es:=es) (s:=s.app x) (k:=k) (e:=e) (by simpa using h);simpa [stAt] using this
theorem Z28 {P:Program} {b:Nat}: ∀ {sops:List SOp} {s:St} {es:List Eff} {s':St},Z5a P b sops s es s'->sops.length=es.length/\s'=stAt es s es.length/\ ∀ k o,sops[k]? = some o-> ∃ e,es[k]? = some e/\Has P b o (stAt es s k) e
 |[],s,[],s',h=>⟨rfl,(show s'=s from h),λk o a=>by simp at a⟩
 |o::r,s,e::es,s',h=>by
  obtain⟨h1,h2⟩:=h;obtain⟨d,f,g⟩:=Z28 h2;refine⟨by simp[d],by simpa [stAt] using f,λk o' a=>?_⟩;cases k with
  |zero=>simp at a;subst a;exact⟨e,rfl,by simpa [stAt] using h1⟩
  |succ k=>obtain⟨c,r1,r2⟩:=g k o' (by simpa using a);exact⟨c,by simpa using r1,by simpa [stAt] using r2⟩
 |[],_,_::_,_,h=>h.elim
 |_::_,_,[],_,h=>h.elim
theorem Z4E {pre:List Nat} {j:Nat} {o2:SOp}: ∀ {l:List SOp} {i0:Nat},Z8C pre j o2 i0 l=true-> ∀ (k:Nat) (o1:SOp),l[k]? = some o1->Qb pre (i0+k) j=true\/Z1a o1 o2=true
 |[],_,_,k,_,h=>by simp at h
 |o::l,i0,h,k,o1,h1=>by
  simp only[Z8C,Bool.and_eq_true,Bool.or_eq_true] at h;cases k with
  |zero=>simp at h1;subst h1;simpa using h.1
  |succ k =>
   have:=Z4E h.2 k o1 (by simpa using h1);rwa [show i0+1+k=i0+(k+1) by omega] at this
theorem Z3v {pre:List Nat} {a:List SOp}: ∀ {l:List SOp} {c:Nat},Z6y pre a c l=true-> ∀ (k:Nat) (o2:SOp),l[k]? = some o2->Z8C pre (c+k) o2 0 (a.take (c+k))=true
 |[],_,_,k,_,h=>by simp at h
 |o::l,c,h,k,o2,h1=>by
  simp only[Z6y,Bool.and_eq_true] at h;cases k with
  |zero=>simp at h1;subst h1;simpa using h.1
  |succ k =>
   have:=Z3v h.2 k o2 (by simpa using h1);rwa [show c+1+k=c+(k+1) by omega] at this
theorem Z2Q: ∀ {es:List Eff} {i0 k:Nat} {e:Eff},es[k]? = some e->(e.ob=[]/\e.rd=[])\/(i0+k,e)∈Z5J i0 es
 |[],_,_,_,h=>by simp at h
 |x::es,i0,k,e,h=>by
  cases k with
  |zero =>
   simp at h;subst h;simp only[Z5J];split
   ·rename_i h1 h2;exact .inl ⟨h1,h2⟩
   ·exact .inr (by simp)
  |succ k =>
   have:=Z2Q (es:=es) (i0:=i0+1) (k:=k) (e:=e) (by simpa using h);rw[show i0+1+k=i0+(k+1) by omega] at this;rcases this with this|this
   ·exact .inl this
   ·refine .inr ?_;simp only[Z5J];split
    ·exact this
    ·exact List.mem_cons_of_mem _ this
theorem Z2z {p:Nat->Eff->Bool}: ∀ {es:List Eff} {i0:Nat},allI p i0 es=true-> ∀ (k:Nat) (e:Eff),es[k]? = some e->p (i0+k) e=true
 |[],_,_,k,_,h=>by simp at h
 |x::es,i0,h,k,e,h1=>by
  simp only[allI,Bool.and_eq_true] at h;cases k with
  |zero=>simp at h1;subst h1;simpa using h.1
  |succ k =>
   have:=Z2z h.2 k e (by simpa using h1);rwa [show i0+1+k=i0+(k+1) by omega] at this
theorem Z2P {b:Nat} {pre:List Nat} {c:List Eff}: ∀ {l:List SOp} {es:List Eff} {a:Nat},Z4e b pre c a l es=true-> ∀ (k:Nat) (o:SOp) (e:Eff),l[k]? = some o->es[k]? = some e →
  (e.ob≠[]-> ∀ t,o.dst=some t-> ∀ (i:Nat) (x:Eff),c[i]? = some x->i=a+k\/Qb pre (a+k) i=true\/x.men (b+t)=false)/\(∀ q,e.cd=some q-> ∀ (i:Nat) (x:Eff),c[i]? = some x->i=a+k\/Qb pre (a+k) i=true\/x.top<=q)
 |[],_,_,_,k,_,_,h,_=>by simp at h
 |_::_,[],_,_,k,_,_,_,h=>by simp at h
 |o'::l,m::es,a,h,k,o,e,h1,h2=>by
  simp only[Z4e,Bool.and_eq_true] at h;cases k with
  |zero =>
   simp at h1 h2;subst h1;subst h2;refine⟨λf t j i x hx=>?_,λq g i x hx=>?_⟩
   ·have:=h.1.1;split at this
    ·rename_i d;exact absurd d f
    ·rw[j] at this
     have:=Z2z this i x hx;simp only[Nat.zero_add,Bool.or_eq_true,beq_iff_eq,Bool.not_eq_true'] at this;rcases this with (this|this)|this
     ·exact .inl this
     ·exact .inr (.inl this)
     ·exact .inr (.inr this)
   ·have:=h.1.2;rw[g] at this
    have:=Z2z this i x hx;simp only[Nat.zero_add,Bool.or_eq_true,beq_iff_eq,decide_eq_true_eq] at this;rcases this with (this|this)|this
    ·exact .inl this
    ·exact .inr (.inl this)
    ·exact .inr (.inr this)
  |succ k =>
   have:=Z2P h.2 k o e (by simpa using h1) (by simpa using h2);rwa [show a+1+k=a+(k+1) by omega] at this
section
variable {b:Nat} {pre:List Nat} {ops:List SOp} {es:List Eff} {s:St}
theorem Z4n (h:dchk b pre ops es s=true) {i j:Nat} {o1 o2:SOp} (a:i<j) (h1:ops[i]? = some o1) (h2:ops[j]? = some o2) (c: ¬ Qb pre i j=true):Z1a o1 o2=true:=by
 simp only[dchk,Bool.and_eq_true] at h
 have:=Z3v h.1.1.1 j o2 h2;rw[Nat.zero_add] at this
 have:=Z4E this i o1 (by rw[List.getElem?_take,if_pos a];exact h1);rw[Nat.zero_add] at this;exact this.resolve_left c
theorem Z4o (h:dchk b pre ops es s=true) {i j:Nat} {c a:Eff} (l:i<j) (o:es[i]? = some c) (r:es[j]? = some a) (k: ¬ Qb pre i j=true) :
  (∀ p∈c.ob,p.1 ∉ a.rd/\ ∀ q∈a.ob,q.1≠p.1)/\ ∀ p∈a.ob,p.1 ∉ c.rd:=by
 simp only[dchk,Bool.and_eq_true,List.all_eq_true,Bool.or_eq_true,decide_eq_true_eq] at h;have hm:=h.1.1.2;rcases Z2Q (i0:=0) o with⟨h1,h2⟩|h1
 ·rw[h1,h2];simp
 ·rcases Z2Q (i0:=0) r with⟨d,e⟩|d
  ·rw[d,e];simp
  ·have:=hm _ d _ h1;simp only[Nat.zero_add] at this;rcases this with (this|this)|this
   ·omega
   ·exact absurd this k
   ·unfold Z6O at this;split at this
    ·rename_i f g;rw[f,g];simp
    ·simp only[Bool.and_eq_true,List.all_eq_true,Bool.not_eq_true',List.any_eq_false,beq_iff_eq] at this;refine⟨λp hp=>⟨λhc=>?_,λq m=>(this.1 p hp).2 q m⟩,λp hp hc=>?_⟩
     ·have:=(this.1 p hp).1;rw[List.contains_iff_mem.2 hc] at this;cases this
     ·have:=this.2 p hp;rw[List.contains_iff_mem.2 hc] at this;cases this
theorem Z3H (h:dchk b pre ops es s=true) {j:Nat} {o:SOp} {e:Eff} (h1:ops[j]? = some o) (h2:es[j]? = some e) :
  (e.ob≠[]-> ∀ t,o.dst=some t-> ∀ (i:Nat) (x:Eff),es[i]? = some x->i=j\/Qb pre j i=true\/x.men (b+t)=false)/\(∀ q,e.cd=some q-> ∀ (i:Nat) (x:Eff),es[i]? = some x->i=j\/Qb pre j i=true\/x.top<=q):=by
 simp only[dchk,Bool.and_eq_true] at h
 have:=Z2P h.1.2 j o e h1 h2;simpa using this
theorem Zc6 (h:dchk b pre ops es s=true) {e:Eff} (a:e∈es) {q:Nat} (c:e.cd=some q):s.top<=q:=by
 simp only[dchk,Bool.and_eq_true,List.all_eq_true] at h
 have:=h.2 e a;rw[c] at this;simpa using this
end
end Go.Sx
namespace Go.Sx
open Go.RowKit
variable [Globs] [Codes]
section
variable {P:Program} {F:Fence} {N:Nat} {cx:Cx} {bs:Nat} {ops:Array Oper} {sops:List SOp} {ds:List Deferred} {Q:Exit->St->Prop} {bt fz:Nat->Bool} {pre:List Nat} {es:List Eff} {s0:St}
structure Inv (es:List Eff) (s0:St) (L:Nat->Prop) (s:St):Prop where
 tm: ∀ t,Latest L (λk=>(es[k]?).bind (twr · t)) (lk s0.tm t) (lk s.tm t)
 ob: ∀ i,Latest L (λk=>(es[k]?).bind (λe=>lk e.ob i)) (lk s0.ob i) (lk s.ob i)
 clean: ∀ i,s0.clean i=true->(∀ k e,L k->es[k]? = some e->e.men i=false)->s.clean i=true
 top: ∀ q,s0.top<=q->(∀ k e,L k->es[k]? = some e->e.top<=q)->s.top<=q
theorem Inv.congr {L L':Nat->Prop} {s:St} (h:Inv es s0 L s) (a: ∀ k,L k ↔ L' k):Inv es s0 L' s :=
 ⟨λt=>(h.tm t).congr a,λi=>(h.ob i).congr a,λi h1 h2=>h.clean i h1 λk e c=>h2 k e ((a k).1 c),λq h1 h2=>h.top q h1 λk e c=>h2 k e ((a k).1 c)⟩
theorem Inv.zero:Inv es s0 (λ_=>False) s0:=⟨λ_=>Latest.none λ_ h=>h,λ_=>Latest.none λ_ h=>h,λ_ h _=>h,λ_ h _=>h⟩
theorem Inv.step {L:Nat->Prop} {s:St} (h:Inv es s0 L s) {k:Nat} {e:Eff} (l:es[k]? = some e) (o: ∀ t j a,L j->es[j]? = some a->(twr e t).isSome->(twr a t).isSome->j<=k) (m: ∀ i j a,L j->es[j]? = some a->(lk e.ob i).isSome->(lk a.ob i).isSome->j<=k) :
  Inv es s0 (λj=>L j\/j=k) (s.app e):=by
 refine⟨λt=>?_,λi=>?_,λi h1 h2=>?_,λq h1 h2=>?_⟩
 ·rw[ZjI];cases g:twr e t with
  |none=>exact (h.tm t).skip (by simp[l,g])
  |some x =>
   refine Latest.put (by simp[l,g]) λj f d=>?_;cases c:es[j]? with
   |none=>rw[c] at d;cases d
   |some a=>rw[c] at d;exact o t j a f c (by rw[g];rfl) d
 ·rw[ZjJ];cases g:lk e.ob i with
  |none=>exact (h.ob i).skip (by simp[l,g])
  |some x =>
   refine Latest.put (by simp[l,g]) λj f d=>?_;cases c:es[j]? with
   |none=>rw[c] at d;cases d
   |some a=>rw[c] at d;exact m i j a f c (by rw[g];rfl) d
 ·exact Zaw (h.clean i h1 λj a f c=>h2 j a (.inl f) c) (h2 k e (.inr rfl) l)
 ·exact Zgl (h.top q h1 λj a f c=>h2 j a (.inl f) c) (h2 k e (.inr rfl) l)
theorem Inv.at (n:Nat) (f:n<=es.length):Inv es s0 (· < n) (stAt es s0 n):=by
 induction n with
 |zero =>
  have:stAt es s0 0=s0:=by cases es<;>rfl
  rw[this];exact Inv.zero.congr λk=>by simp
 |succ n e =>
  have c:es[n]? = some es[n]:=List.getElem?_eq_getElem (by omega);rw[Z4F c];exact ((e (by omega)).step c (λt j d a _ _ _=>Nat.le_of_lt a) (λi j d a _ _ _=>Nat.le_of_lt a)).congr λk=>by show (k<n\/k=n) ↔ k<n+1;omega
theorem Z9I {b:Nat} {o:SOp} {s:St} {e:Eff} (h:Has P b o s e) {t:Nat} (f:(twr e t).isSome):o.dst=some t:=by
 have key: ∀ d:Option Nat,(∃ x,e.tm=d.map (·,x))->d=some t:=λd ⟨x,hx⟩=>by
  simp only[twr,hx] at f;cases d with
  |none=>cases f
  |some u =>
   simp only[Option.map_some] at f;split at f
   ·rename_i e;rw[e]
   ·cases f
 have body:HasB P b o s e->o.dst=some t:=λc=>by
  cases o with
  |a dst g op xs =>
   obtain⟨_,_,l⟩:=c;by_cases hx: ∃ x,e.tm=dst.map (·,x)
   ·exact key dst hx
   ·exact (let ⟨d,nb,m⟩:=Zjp l;hx ⟨d,m.1⟩).elim
  |st g sz x y =>
   simp only[HasB] at c;split at c
   ·rw[c.2] at f;simp[twr] at f
   ·exact c.elim
  |app dst g fz sz p x y =>
   simp only[HasB] at c;split at c
   ·obtain⟨_,c⟩:=c;split at c
    ·exact key (some dst) ⟨_,by rw[c.2];rfl⟩
    ·split at c
     ·exact key (some dst) ⟨_,by rw[c.2.2.2];rfl⟩
     ·exact c.elim
    ·exact c.elim
   ·exact c.elim
  |cd dst g x xs =>
   obtain⟨nm,r,ob',base,_,_,_,_,_,i⟩:=c;exact key dst ⟨_,by rw[i]⟩
 have skip:e=⟨[],o.dst.map (·,.nov),[],none⟩->o.dst=some t:=λi=>key o.dst ⟨_,by rw[i]⟩;unfold Has at h;cases j:o.gd with
 |none=>rw[j] at h;exact body h
 |some k =>
  obtain⟨q,w⟩:=k;rw[j] at h;simp only[gud] at h;split at h
  ·split at h
   ·exact body h
   ·exact skip h
  ·exact skip h
  ·exact h.elim
theorem ZdV {o:SOp} {t:Nat} (h:t∈Z5o o.gd):t∈o.tmps:=by
 cases o<;>simp only[SOp.gd] at h<;>simp only[SOp.tmps,List.mem_append]<;>first|exact .inr h|exact .inl (.inr h)
theorem Has.congr {b:Nat} {o:SOp} {s s':St} {e:Eff} (h:Has P b o s e) (a: ∀ t∈o.tmps,lk s.tm t=lk s'.tm t) (d: ∀ i∈e.rd,lk s.ob i=lk s'.ob i):Has P b o s' e :=
 Z9K (λt h=>a t (ZdV h)) (Qj (λc=>c.congr a d) id h)
theorem Z6H {H:Nat->SOp->St->Eff->Prop} (m: ∀ {k o s e t},H k o s e->(twr e t).isSome->o.dst=some t) (O: ∀ {k o s s' e},H k o s e->(∀ t∈o.tmps,lk s.tm t=lk s'.tm t)->(∀ i∈e.rd,lk s.ob i=lk s'.ob i)->H k o s' e)
  (C: ∀ k o,sops[k]? = some o-> ∃ e,es[k]? = some e/\H k o (stAt es s0 k) e) (hlen:sops.length=es.length) (a:dchk bs pre sops es s0=true) {L:Nat->Prop} {s:St} (W:Inv es s0 L s) (I:s0.top<=bs)
  {k:Nat} {o:SOp} (U:sops[k]? = some o) (J: ¬ L k) (hlt: ∀ j,L j->j<es.length) (hpre: ∀ i,Qb pre i k=true->L i) (M: ∀ j i,L j->Qb pre i j=true->L i) :
  ∃ e,es[k]? = some e/\H k o s e/\(e.ob≠[]-> ∀ t,o.dst=some t->s.clean (bs+t)=true)/\(∀ q,e.cd=some q->s.top<=q)/\Inv es s0 (λj=>L j\/j=k) (s.app e):=by
 obtain⟨e,w,hh⟩:=C k o U;have hkl:k<es.length:=(List.getElem?_eq_some_iff.1 w).1;have G: ∀ j f,es[j]? = some f-> ∃ o',sops[j]? = some o'/\H j o' (stAt es s0 j) f:=λj f c=>by
  have hjl:=(List.getElem?_eq_some_iff.1 c).1;have:sops[j]? = some sops[j]:=List.getElem?_eq_getElem (by omega);obtain⟨e'',q1,q2⟩:=C j _ this;rw[c] at q1;cases q1;exact⟨_,this,q2⟩
 -- an T ahead in the text that is not in L,and one behind that is
 have nbe: ∀ j,j<k-> ¬ L j-> ¬ Qb pre j k=true:=λj _ u hb=>u (hpre j hb);have B: ∀ j,k<j->L j-> ¬ Qb pre k j=true:=λj _ hl hb=>J (M j k hl hb);have E:=Inv.at (es:=es) (s0:=s0) k (by omega);have hmem: ∀ {l:List Nat} {t:Nat},l.contains t=false->t ∉ l:=λh hm=>by rw[List.contains_iff_mem.2 hm] at h;cases h
 have hag: ∀ t∈o.tmps,lk (stAt es s0 k).tm t=lk s.tm t:=λt ht=>(E.tm t).uniq (W.tm t) λj g=>by
  cases c:es[j]? with
  |none=>rw[c] at g;cases g
  |some f =>
   rw[c] at g;obtain⟨o',z,R⟩:=G j f c;have hd:=m R (t:=t) g;refine⟨λr=>?_,λhl=>?_⟩
   ·apply Classical.byContradiction;intro u
    have:=Z4n a r z U (nbe j r u);simp only[Z1a,hd,Bool.and_eq_true,Bool.not_eq_true'] at this;exact hmem this.1.1 ht
   ·rcases Nat.lt_trichotomy j k with h|h|h
    ·exact h
    ·subst h;exact absurd hl J
    ·have:=Z4n a h U z (B j h hl);simp only[Z1a,hd,Bool.and_eq_true,Bool.not_eq_true'] at this;exact absurd ht (hmem this.2)
 have hao: ∀ i∈e.rd,lk (stAt es s0 k).ob i=lk s.ob i:=λi hi=>(E.ob i).uniq (W.ob i) λj g=>by
  cases c:es[j]? with
  |none=>rw[c] at g;cases g
  |some f =>
   rw[c] at g;obtain⟨x,hx⟩:=Option.isSome_iff_exists.1 g;obtain⟨p,hp,A⟩:=Z6R hx;refine⟨λr=>?_,λhl=>?_⟩
   ·apply Classical.byContradiction;intro u
    have:=((Z4o a r c w (nbe j r u)).1 p hp).1;rw[A] at this;exact this hi
   ·rcases Nat.lt_trichotomy j k with h|h|h
    ·exact h
    ·subst h;exact absurd hl J
    ·have:=(Z4o a h w c (B j h hl)).2 p hp;rw[A] at this;exact absurd hi this
 refine⟨e,w,O hh hag hao,λhne t ht=>?_,λq hq=>?_,W.step w (λt j f c d g S=>?_) (λi j f c d g S=>?_)⟩
 ·refine W.clean _ ?_ λj f c d=>?_
  ·simp only[St.clean,Bool.and_eq_true,List.all_eq_true,Bool.not_eq_true'];refine⟨λp hp=>D.top_men _ _ ?_,λp hp=>D.topL_men _ _ ?_⟩
   ·have h1:Env.top s0.tm<=bs+t:=Nat.le_trans (Nat.le_max_left _ _) (Nat.le_trans I (Nat.le_add_right _ _));exact Z9Z h1 hp
   ·have h1:Obs.top s0.ob<=bs+t:=Nat.le_trans (Nat.le_max_right _ _) (Nat.le_trans I (Nat.le_add_right _ _));exact Z9j h1 hp
  ·rcases (Z3H a U w).1 hne t ht j f d with h|h|h
   ·subst h;exact absurd c J
   ·exact absurd (M j k c h) J
   ·exact h
 ·refine W.top q (Zc6 a (List.mem_of_getElem? w) hq) λj f c d=>?_;rcases (Z3H a U w).2 q hq j f d with h|h|h
  ·subst h;exact absurd c J
  ·exact absurd (M j k c h) J
  ·exact h
 ·obtain⟨o',z,R⟩:=G j f d;apply Classical.byContradiction;intro X
  have:=Z4n a (by omega) U z (B j (by omega) c);have d1:=m hh g;have d2:=m R S;simp[Z1a,d1,d2] at this
 ·apply Classical.byContradiction;intro X;obtain⟨x,hx⟩:=Option.isSome_iff_exists.1 g;obtain⟨y,hy⟩:=Option.isSome_iff_exists.1 S;obtain⟨p,hp,A⟩:=Z6R hx;obtain⟨p',hp',Y⟩:=Z6R hy;exact ((Z4o a (by omega) w d (B j (by omega) c)).1 p hp).2 p' hp' (by rw[A,Y])
theorem Z9i (a: ∀ k o,sops[k]? = some o-> ∃ e,es[k]? = some e/\Has P bs o (stAt es s0 k) e) (d:sops.length=es.length) (c:dchk bs pre sops es s0=true) {L:Nat->Prop} {s:St} (p:Inv es s0 L s) (g:s0.top<=bs)
  {k:Nat} {o:SOp} (u:sops[k]? = some o) (r: ¬ L k) (m: ∀ j,L j->j<es.length) (f: ∀ i,Qb pre i k=true->L i) (l: ∀ j i,L j->Qb pre i j=true->L i) :
  ∃ e,es[k]? = some e/\Has P bs o s e/\(e.ob≠[]-> ∀ t,o.dst=some t->s.clean (bs+t)=true)/\(∀ q,e.cd=some q->s.top<=q)/\Inv es s0 (λj=>L j\/j=k) (s.app e) :=
 Z6H (H:=λ_ o s e=>Has P bs o s e) (λh w=>Z9I h w) (λh=>h.congr) a d c p g u r m f l
theorem Zc5 (hF:Fence.Open F) (hbs:cx.bs<=bs) (hgl:GlobC cx.φ0 cx.w0 cx.Z) (hl:ops.toList.mapM (λo=>Z01 P bt (fz (o.dst.getD 0)) ops o)=some sops) (S:QW cx.N ops=true)
  (U: ∀ i o,ops[i]? = some o-> ∀ e∈o.after,Region.binds .any e=true->e.on<i) (hwt:Z65 pre ops)
  (O: ∀ k o,sops[k]? = some o-> ∃ e,es[k]? = some e/\Has P bs o (stAt es s0 k) e) (T:sops.length=es.length) (R:dchk bs pre sops es s0=true) (Y:s0.top<=bs) (hK:Q .normal (stAt es s0 es.length)) :
  ∀ (c:Nat) (listed:Array Bool) (s:St) (φ:Mem) (h:Nat->Value) (tmps:Array Value) (w:World),listed.size=ops.size->Closed ops listed →
   Inv es s0 (λk=>listed.getD k false=true) s->(un ops listed).length<=c->Mod cx s φ h tmps w->wpAnyIn F N P .any ops (PostM cx ds Q) c listed ⟨tmps,ds⟩ w:=by
 have hlo:sops.length=ops.size:=by have:=Z1h hl;simpa using this
 -- all are done
 have y: ∀ (listed:Array Bool) (s:St) (φ:Mem) (h:Nat->Value) (tmps:Array Value) (w:World),listed.size=ops.size->(∀ k,k<ops.size->listed.getD k false=true)->Inv es s0 (λk=>listed.getD k false=true) s->Mod cx s φ h tmps w->PostM cx ds Q .normal ⟨tmps,ds⟩ w:=by
  intro listed s φ h tmps w hsz I z hm;have J:=Inv.at (es:=es) (s0:=s0) es.length (Nat.le_refl _);have u: ∀ k,k<es.length ↔ listed.getD k false=true:=λk=>by
   refine⟨λC=>I k (by omega),λC=>?_⟩;apply Classical.byContradiction;intro hn;have:listed.getD k false=false:=by simp[Array.getD,show ¬ k<listed.size by omega]
   rw[this] at C;cases C
  refine PostM.of hK (hm.weaken (λt d S=>?_) λi o p=>?_)
  ·rw[<- S];exact (z.tm t).uniq (J.tm t) λk _=>(u k).symm
  ·rw[<- p];exact (z.ob i).uniq (J.ob i) λk _=>(u k).symm
 have E: ∀ listed:Array Bool,listed.size=ops.size->un ops listed=[]-> ∀ k,k<ops.size->listed.getD k false=true:=λlisted hsz G k C=>by
  cases W:listed.getD k false with
  |true=>rfl
  |false =>
   have:k∈un ops listed:=List.mem_filter.2 ⟨List.mem_range.2 C,by rw[QM (by omega),W];rfl⟩;rw[G] at this;cases this
 intro c;induction c with
 |zero =>
  intro listed s φ h tmps w hsz g z G hm;have m:un ops listed=[]:=List.eq_nil_of_length_eq_zero (by omega);refine⟨?_,y listed s φ h tmps w hsz (E listed hsz m) z hm⟩;cases W:Region.ready .any ops listed with
  |nil=>rfl
  |cons x xs =>
   have:=Z1G (ops:=ops) (listed:=listed) (i:=x) (by rw[W];simp);rw[m] at this;cases this
 |succ c ih =>
  intro listed s φ h tmps w hsz g z G hm;refine⟨λhrn=>?_,λi hi=>?_⟩
  ·-- nothing is ready: all are done
   refine y listed s φ h tmps w hsz (λk C=>?_) z hm;cases W:listed.getD k false with
   |true=>rfl
   |false =>
    exfalso;have: ∃ k,k<ops.size/\listed.getD k false=false/\ ∀ j,j<k->listed.getD j false=true:=by
     induction k using Nat.strongRecOn with
     |_ k ihk =>
      by_cases A: ∃ j,j<k/\listed.getD j false=false
      ·obtain⟨j,B,hjq⟩:=A;exact ihk j B (by omega) hjq
      ·refine⟨k,C,W,λj B=>?_⟩;cases hq':listed.getD j false with
       |true=>rfl
       |false=>exact absurd ⟨j,B,hq'⟩ A
    obtain⟨k0,h1,h2,h3⟩:=this;have hr:k0∈Region.ready .any ops listed:=mem_ready.2 ⟨by rw[QM (by omega)];exact h2,ops[k0],Array.getElem?_eq_getElem h1,λe he M=>h3 _ (U k0 ops[k0] (Array.getElem?_eq_getElem h1) e he M)⟩;rw[hrn] at hr;cases hr
  ·obtain⟨h1,o,p,X⟩:=mem_ready.1 hi;have hilt:=(Array.getElem?_eq_some_iff.1 p).1;rw[QM (by omega)] at h1;obtain⟨so,hcs,hso⟩:=Z1K hl i o (by simpa using p);obtain⟨e,he,hh,r,hcd,hI'⟩:=Z9i O T R z Y hso (by simp only[h1];simp)
    (λj A=>by
     apply Classical.byContradiction;intro hn;have:listed.getD j false=false:=by simp[Array.getD,show ¬ j<listed.size by omega]
     rw[this] at A;cases A)
    (λj M=>Qg hwt g i j (λo' f=>by rw[p] at f;cases f;exact X) M)
    (λj q A M=>Qg hwt g j q (λo' f=>g j o' f A) M)
   have hst:=Z1V hh r hcd;have hs:=Qy (ds:=ds) (n:=N) (Q:=PostM cx ds Q) hF hbs hgl hcs (Q5 S o (by simpa using Array.mem_of_getElem? p)) hm hst;have l: ∀ a w',Z0J cx ds (λs1=>Alike s1 (s.app e)) a w'->wpAnyIn F N P .any ops (PostM cx ds Q) c (listed.setIfInBounds i true) a w':=by
    rintro⟨tm,df⟩ w' ⟨hdf,s1,φ',h',H,hm'⟩;cases hdf;refine ih _ (s.app e) φ' h' tm w' (by simpa using hsz) (g.set (by omega) λo' f=>by rw[p] at f;cases f;exact X) (hI'.congr λk=>(Z0F (by omega)).symm) (by have:=Z8t hsz (Z1G hi);omega) (hm'.weaken (λt d S=>by rw[H.1 t];exact S) λi o p=>by rw[H.2 i];exact p)
   unfold wpOpIn;simp only[p];split at hs
   ·rename_i hw;rw[if_pos hw];exact Oper.wpIn_mono l hs
   ·rename_i hw;rw[if_neg hw];exact⟨hs.1,l _ _ hs.2⟩
theorem HasPn.congr {b:Nat} {o:SOp} {s s':St} {v:Value} {e:Eff} (h:HasPn P b o s v e) (j: ∀ t∈o.tmps,lk s.tm t=lk s'.tm t) (q: ∀ i∈e.rd,lk s.ob i=lk s'.ob i):HasPn P b o s' v e:=by
 cases o with
 |cd dst g x xs =>
  cases g with
  |some _=>exact h.elim
  |none =>
   obtain⟨nm,base,h1,h2,m,p,f⟩:=h;have hx:=Qq (s:=s) (s':=s') (x:=x) λt h=>j t (by simp only[SOp.tmps,List.mem_append];exact .inl (ZS.2 (.inl h)));have c: ∀ x∈xs,s.get x=s'.get x:=λy d=>Qq λt h=>j t (by simp only[SOp.tmps,List.mem_append];exact .inl (ZS.2 (.inr (Z4z d h))));have a: ∀ i,i∈nm\/i∈vids (xs.map s.get)->lk s.ob i=lk s'.ob i:=λi hi=>q i (by rw[f];exact List.mem_append.2 hi);have k:xs.map s.get=xs.map s'.get:=List.map_congr_left c;have l:(xs.map λy=>dva (s.get x) (lk s.ob) (s.get y))=xs.map λy=>dva (s.get x) (lk s'.ob) (s'.get y):=List.map_congr_left λy d=>by
    rw[<- c y d];exact Z52 λi hi=>a i (.inr (Z6l d hi))
   refine⟨nm,base,h1,λi hi=>by rw[<- a i (.inl hi)];exact h2 i hi,m,?_,by rw[f,k]⟩;rw[<- hx,<- l,<- Z1t (ob:=s.ob) λi hi=>a i (.inl hi)];exact p
 |_=>exact h.elim
theorem HasC.congr {b:Nat} {o:SOp} {s s':St} {q:Eff × Option (Nat × Nat × D)} (h:HasC P b o s q) (a: ∀ t∈o.tmps,lk s.tm t=lk s'.tm t) (f: ∀ i∈q.1.rd,lk s.ob i=lk s'.ob i):HasC P b o s' q:=by
 obtain⟨e,c⟩:=q;cases c with
 |none=>exact Has.congr h a f
 |some c =>
  obtain⟨id,off,m⟩:=c;simp only[HasC] at h ⊢;split at h
  ·rename_i t x;refine⟨?_,h.2⟩;rw[<- h.1];cases x with
   |t n=>simp only[St.get];rw[a n (by simp[SOp.tmps,Z0S])]
   |c d=>rfl
  ·exact h.elim
theorem HasC.dst {b:Nat} {o:SOp} {s:St} {q:Eff × Option (Nat × Nat × D)} (h:HasC P b o s q) {t:Nat} (a:(twr q.1 t).isSome):o.dst=some t:=by
 obtain⟨e,c⟩:=q;cases c with
 |none=>exact Z9I h a
 |some c =>
  obtain⟨id,off,m⟩:=c;simp only[HasC] at h;split at h
  ·obtain⟨_,rfl⟩:=h;simp only[twr] at a;split at a
   ·rename_i e;rw[e];rfl
   ·cases a
  ·exact h.elim
theorem HasO.dst {b k:Nat} {pan:Option (Nat × Value)} {o:SOp} {s:St} {q:Eff × Option (Nat × Nat × D)} (h:HasO P b pre pan k o s q) {t:Nat} (a:(twr q.1 t).isSome):o.dst=some t:=by
 unfold HasO at h;split at h
 ·exact h.dst a
 ·split at h
  ·unfold HasPn at h;split at h
   ·obtain⟨nm,base,_,_,_,_,c⟩:=h;rw[c] at a;cases a
   ·exact h.elim
  ·split at h
   ·rw[h] at a;cases a
   ·exact h.dst a
theorem HasO.congr {b k:Nat} {pan:Option (Nat × Value)} {o:SOp} {s s':St} {q:Eff × Option (Nat × Nat × D)} (h:HasO P b pre pan k o s q) (e: ∀ t∈o.tmps,lk s.tm t=lk s'.tm t) (d: ∀ i∈q.1.rd,lk s.ob i=lk s'.ob i):HasO P b pre pan k o s' q:=by
 unfold HasO at h ⊢;split at h
 ·exact h.congr e d
 ·split at h
  ·rename_i c;rw[if_pos c];exact h.congr e d
  ·rename_i c;rw[if_neg c];split at h
   ·rename_i a;rw[if_pos a];exact h
   ·rename_i a;rw[if_neg a];exact h.congr e d
theorem Z38 {b:Nat} {pan:Option (Nat × Value)}: ∀ {sops:List SOp} {c:Nat} {s:St} {qs:List (Eff × Option (Nat × Nat × D))} {s':St},Z3g P b pre pan c sops s qs s'->sops.length=qs.length/\s'=stAt (qs.map (·.1)) s qs.length ∧
  ∀ k o,sops[k]? = some o-> ∃ q,qs[k]? = some q/\HasO P b pre pan (c+k) o (stAt (qs.map (·.1)) s k) q
 |[],_,s,[],s',h=>⟨rfl,(show s'=s from h),λk o a=>by simp at a⟩
 |o::r,c,s,q::qs,s',h=>by
  obtain⟨h1,h2⟩:=h;obtain⟨e,f,g⟩:=Z38 h2;refine⟨by simp[e],by simpa [stAt] using f,λk o' a=>?_⟩;cases k with
  |zero=>simp at a;subst a;exact⟨q,rfl,by simpa [stAt] using h1⟩
  |succ k =>
   obtain⟨d,r1,r2⟩:=g k o' (by simpa using a);refine⟨d,by simpa using r1,?_⟩;rw[show c+(k+1)=c+1+k by omega];simpa [stAt] using r2
 |[],_,_,_::_,_,h=>h.elim
 |_::_,_,_,[],_,h=>h.elim
theorem Z0I {w:Bool} {c:List Eff}: ∀ {qs:List (Eff × Option (Nat × Nat × D))} {a:Nat},ZR w pre s0 c a qs=true-> ∀ (k:Nat) (e:Eff) (id off:Nat) (m:D),numD m=w->qs[k]? = some (e,some (id,off,m)) →
  Z0l m off (lk s0.ob id)=true/\allI (λj e=>j == (a+k) ||Qb pre (a+k) j ||(match lk e.ob id with|none=>true|some x=>Z0l m off x)) 0 c=true
 |[],_,_,k,_,_,_,_,_,h=>by simp at h
 |(g,none)::r,a,h,k,e,id,off,m,hm,d=>by
  simp only[ZR] at h;cases k with
  |zero=>simp at d
  |succ k =>
   have:=Z0I h k e id off m hm (by simpa using d);rwa [show a+1+k=a+(k+1) by omega] at this
 |(g,some (i,f,l))::r,a,h,k,e,id,off,m,hm,d=>by
  simp only[ZR] at h;cases k with
  |zero =>
   simp at d;obtain⟨_,rfl,rfl,rfl⟩:=d;simp only[hm,beq_self_eq_true,Bool.and_eq_true] at h;exact h.1
  |succ k =>
   have h2:ZR w pre s0 c (a+1) r=true:=by
    split at h
    ·simp only[Bool.and_eq_true] at h;exact h.2
    ·exact h
   have:=Z0I h2 k e id off m hm (by simpa using d);rwa [show a+1+k=a+(k+1) by omega] at this
theorem Z5O {d:D} {o:Option D} (h:Z4X d o=true):o=some d:=by
 unfold Z4X at h;split at h
 ·split at h
  ·simp at h;rw[h]
  ·simp at h;rw[h.1,h.2]
  ·cases h
 ·cases h
theorem Z4W {d:D} {off:Nat} {o:Option Ob} (h:Z0l d off o=true): ∃ cs,o=some (.cells cs)/\cs[off]? = some d:=by
 unfold Z0l at h;split at h
 ·rename_i cs;exact⟨cs,rfl,Z5O h⟩
 ·cases h
theorem Z5P {d:D} {off:Nat} {o:Option Ob} (h:Z0l d off o=true):(∃ m,d=.vec m)\/ ∃ k n,d=.int k n:=by
 unfold Z0l Z4X at h;split at h
 ·split at h
  ·split at h
   ·exact .inl ⟨_,rfl⟩
   ·exact .inr ⟨_,_,rfl⟩
   ·cases h
  ·cases h
 ·cases h
theorem Za5 (hF:Fence.Open F) (hbs:cx.bs<=bs) (hgl:GlobC cx.φ0 cx.w0 cx.Z) (hl:ops.toList.mapM (λo=>Z01 P bt (fz (o.dst.getD 0)) ops o)=some sops) (hd:QW cx.N ops=true)
  (hlow: ∀ i o,ops[i]? = some o-> ∀ e∈o.after,Region.binds .any e=true->e.on<i) (hwt:Z65 pre ops) {pan:Option (Nat × Value)} {qs:List (Eff × Option (Nat × Nat × D))} (hes:es=qs.map (·.1))
  (hcan: ∀ k o,sops[k]? = some o-> ∃ q,qs[k]? = some q/\HasO P bs pre pan k o (stAt es s0 k) q) (hlen:sops.length=es.length) (hchk:dchk bs pre sops es s0=true) (hcell:ZR false pre s0 es 0 qs=true) (hcelI:ZR true pre s0 es 0 qs=true) (htop:s0.top<=bs)
  (hK:match pan with|none=>Q .normal (stAt es s0 es.length)|some (c,v)=>c<ops.size/\Q (pnc v) ⟨[],[]⟩) :
  ∀ (f:Nat) (listed:Array Bool) (s:St) (φ:Mem) (h:Nat->Value) (tmps:Array Value) (w:World),listed.size=ops.size->Closed ops listed->(∀ c v,pan=some (c,v)-> ∀ k,listed.getD k false=true->k≠c/\Qb pre c k=false) →
   Inv es s0 (λk=>listed.getD k false=true) s->(un ops listed).length<=f->Mod cx s φ h tmps w->wpAnyIn F N P .any ops (PostM cx ds Q) f listed ⟨tmps,ds⟩ w:=by
 have hlo:sops.length=ops.size:=by have:=Z1h hl;simpa using this
 -- all are done
 have last: ∀ (listed:Array Bool) (s:St) (φ:Mem) (h:Nat->Value) (tmps:Array Value) (w:World),listed.size=ops.size->(∀ c v,pan=some (c,v)-> ∀ k,listed.getD k false=true->k≠c/\Qb pre c k=false)->(∀ k,k<ops.size->listed.getD k false=true)->Inv es s0 (λk=>listed.getD k false=true) s->Mod cx s φ h tmps w->PostM cx ds Q .normal ⟨tmps,ds⟩ w:=by
  intro listed s φ h tmps w hsz g T S hm;cases pan with
  |some cv =>
   obtain⟨c,v⟩:=cv;exact absurd rfl (g c v rfl c (T c hK.1)).1
  |none =>
  have hat:=Inv.at (es:=es) (s0:=s0) es.length (Nat.le_refl _);have Y: ∀ k,k<es.length ↔ listed.getD k false=true:=λk=>by
   refine⟨λp=>T k (by omega),λp=>?_⟩;apply Classical.byContradiction;intro hn;have:listed.getD k false=false:=by simp[Array.getD,show ¬ k<listed.size by omega]
   rw[this] at p;cases p
  refine PostM.of hK (hm.weaken (λt d hd=>?_) λi o z=>?_)
  ·rw[<- hd];exact (S.tm t).uniq (hat.tm t) λk _=>(Y k).symm
  ·rw[<- z];exact (S.ob i).uniq (hat.ob i) λk _=>(Y k).symm
 have hnone: ∀ listed:Array Bool,listed.size=ops.size->un ops listed=[]-> ∀ k,k<ops.size->listed.getD k false=true:=λlisted hsz hun k p=>by
  cases hq:listed.getD k false with
  |true=>rfl
  |false =>
   have:k∈un ops listed:=List.mem_filter.2 ⟨List.mem_range.2 p,by rw[QM (by omega),hq];rfl⟩;rw[hun] at this;cases this
 intro f;induction f with
 |zero =>
  intro listed s φ h tmps w hsz B g S hun hm;have I:un ops listed=[]:=List.eq_nil_of_length_eq_zero (by omega);refine⟨?_,last listed s φ h tmps w hsz g (hnone listed hsz I) S hm⟩;cases hq:Region.ready .any ops listed with
  |nil=>rfl
  |cons x xs =>
   have:=Z1G (ops:=ops) (listed:=listed) (i:=x) (by rw[hq];simp);rw[I] at this;cases this
 |succ f ih =>
  intro listed s φ h tmps w hsz B g S hun hm;refine⟨λhrn=>?_,λi hi=>?_⟩
  ·-- nothing is ready: all are done
   refine last listed s φ h tmps w hsz g (λk p=>?_) S hm;cases hq:listed.getD k false with
   |true=>rfl
   |false =>
    exfalso;have: ∃ k,k<ops.size/\listed.getD k false=false/\ ∀ j,j<k->listed.getD j false=true:=by
     induction k using Nat.strongRecOn with
     |_ k ihk =>
      by_cases G: ∃ j,j<k/\listed.getD j false=false
      ·obtain⟨j,hjk,hjq⟩:=G;exact ihk j hjk (by omega) hjq
      ·refine⟨k,p,hq,λj hjk=>?_⟩;cases hq':listed.getD j false with
       |true=>rfl
       |false=>exact absurd ⟨j,hjk,hq'⟩ G
    obtain⟨k0,h1,h2,h3⟩:=this;have hr:k0∈Region.ready .any ops listed:=mem_ready.2 ⟨by rw[QM (by omega)];exact h2,ops[k0],Array.getElem?_eq_getElem h1,λe he M=>h3 _ (hlow k0 ops[k0] (Array.getElem?_eq_getElem h1) e he M)⟩;rw[hrn] at hr;cases hr
  ·obtain⟨h1,o,z,hrd⟩:=mem_ready.1 hi;have hilt:=(Array.getElem?_eq_some_iff.1 z).1;rw[QM (by omega)] at h1;obtain⟨so,hcs,hso⟩:=Z1K hl i o (by simpa using z);have J: ∀ j,Qb pre j i=true->listed.getD j false=true:=λj M=>Qg hwt B i j (λo' A=>by rw[z] at A;cases A;exact hrd) M;have hltL: ∀ j,listed.getD j false=true->j<es.length:=λj G=>by
    apply Classical.byContradiction;intro hn;have:listed.getD j false=false:=by simp[Array.getD,show ¬ j<listed.size by omega]
    rw[this] at G;cases G
   have U: ∀ j q,listed.getD j false=true->Qb pre q j=true->listed.getD q false=true:=λj q G M=>Qg hwt B j q (λo' A=>B j o' A G) M;obtain⟨e,he,⟨q,hq,hqe,hh⟩,O,hcd,hI'⟩:=Z6H (H:=λk o s e=>∃ q,qs[k]? = some q/\q.1=e/\HasO P bs pre pan k o s q)
    (λ⟨q,_,h2,h3⟩ ht=>h3.dst (by rw[h2];exact ht)) (λ⟨q,h1,h2,h3⟩ ht z=>⟨q,h1,h2,h3.congr ht (by rw[h2];exact z)⟩)
    (λk o p=>by
     obtain⟨q,h1,h2⟩:=hcan k o p;exact⟨q.1,by rw[hes,List.getElem?_map,h1];rfl,q,h1,rfl,h2⟩) hlen hchk S htop hso (by simp only[h1];simp) hltL J U
   subst hqe;have hdo:=Q5 hd o (by simpa using Array.mem_of_getElem? z)
   -- it is done,and there is more
   have go:HasC P bs so s q->(∀ c v,pan=some (c,v)->i≠c/\Qb pre c i=false)->wpOpIn F N P ops (PostM cx ds Q) i (wpAnyIn F N P .any ops (PostM cx ds Q) f (listed.setIfInBounds i true)) ⟨tmps,ds⟩ w:=λhc E=>by
    have hst:stp P bs so s (λs1=>Alike s1 (s.app q.1)):=by
     obtain⟨e0,cc⟩:=q;cases cc with
     |none=>exact Z1V hc O hcd
     |some cc =>
      obtain⟨id,off,m⟩:=cc;simp only[HasC] at hc;split at hc
      ·rename_i t x;obtain⟨hx,rfl⟩:=hc;obtain⟨c1,c2⟩:_/\_:=by
        cases hm:numD m with
        |false=>exact Z0I hcell i _ id off m hm hq
        |true=>exact Z0I hcelI i _ id off m hm hq
       have C:Z0l m off (lk s.ob id)=true:=by
        rcases S.ob id with⟨j,y,G,u,hv,_⟩|⟨_,hv⟩
        ·rw[hv];have u:(es[j]?).bind (λe=>lk e.ob id)=some y:=u;cases hej:es[j]? with
         |none=>rw[hej] at u;cases u
         |some e' =>
          rw[hej] at u;have u:lk e'.ob id=some y:=u
          have:=Z2z c2 j e' hej;simp only[Nat.zero_add,Bool.or_eq_true,beq_iff_eq] at this;rcases this with (h|h)|h
          ·subst h;rw[h1] at G;cases G
          ·have:=U j i G h;rw[h1] at this;cases this
          ·rw[u] at h;exact h
        ·rw[hv];exact c1
       obtain⟨cs,W,X⟩:=Z4W C;rcases Z5P C with⟨m',rfl⟩|⟨k',n',rfl⟩
       ·simp only[stp,gud,evl,List.map_cons,List.map_nil,hx,W,X,Bool.false_eq_true,if_false];exact Alike.of_eq rfl
       ·simp only[stp,gud,evl,List.map_cons,List.map_nil,hx,W,X,Bool.false_eq_true,if_false];exact Alike.of_eq rfl
      ·exact hc.elim
    have hs:=Qy (ds:=ds) (n:=N) (Q:=PostM cx ds Q) hF hbs hgl hcs hdo hm hst;have l: ∀ a w',Z0J cx ds (λs1=>Alike s1 (s.app q.1)) a w'->wpAnyIn F N P .any ops (PostM cx ds Q) f (listed.setIfInBounds i true) a w':=by
     rintro⟨tm,df⟩ w' ⟨hdf,s1,φ',h',hal,R⟩;cases hdf;refine ih _ (s.app q.1) φ' h' tm w' (by simpa using hsz) (B.set (by omega) λo' A=>by rw[z] at A;cases A;exact hrd) (λc v C k p=>?_) (hI'.congr λk=>(Z0F (by omega)).symm) (by have:=Z8t hsz (Z1G hi);omega) (R.weaken (λt d hd=>by rw[hal.1 t];exact hd) λi o z=>by rw[hal.2 i];exact z);rcases (Z0F (by omega)).1 p with p|rfl
     ·exact g c v C k p
     ·exact E c v C
    unfold wpOpIn;simp only[z];split at hs
    ·rename_i u;rw[if_pos u];exact Oper.wpIn_mono l hs
    ·rename_i u;rw[if_neg u];exact⟨hs.1,l _ _ hs.2⟩
   cases pan with
   |none=>exact go hh λ_ _ h=>by cases h
   |some cv =>
    obtain⟨c,v⟩:=cv;simp only[HasO] at hh;split at hh
    ·rename_i E
     -- the one that panics
     subst E;have hst:stpX P bs so s (λ_=>False) (λv' _=>v'=v):=by
      unfold HasPn at hh;split at hh
      ·rename_i dst x xs;obtain⟨nm,base,h1',h2',h3',h4',h5'⟩:=hh;exact⟨nm,_,base,h1',h2',h3',hcd base (by rw[h5']),h4',λr ob' hr=>.inr ⟨v,hr,rfl⟩⟩
      ·exact hh.elim
     have hs:=Z1s (ds:=ds) (n:=N) (Q:=PostM cx ds Q) hF hbs hgl hcs hdo hm hst (λv' s' φ' h' w' p R=>by
      subst p;exact PostM.of hK.2 (R.weaken (λt d hd=>by cases hd) λi o z=>by cases z))
     have l: ∀ a w',Z0J cx ds (λ_=>False) a w'->wpAnyIn F N P .any ops (PostM cx ds Q) f (listed.setIfInBounds i true) a w':=by
      rintro⟨tm,df⟩ w' ⟨hdf,s1,φ',h',p,R⟩;exact p.elim
     unfold wpOpIn;simp only[z];split at hs
     ·rename_i u;rw[if_pos u];exact Oper.wpIn_mono l hs
     ·rename_i u;rw[if_neg u];exact⟨hs.1,l _ _ hs.2⟩
    ·rename_i E;split at hh
     ·rename_i M;exact absurd rfl (g c v rfl c (J c M)).1
     ·rename_i M;refine go hh λc' v' he=>?_;cases he;exact⟨E,by simpa using M⟩
theorem Z9M (hF:Fence.Open F) {I:Nat} (J:cx.bs<=I) (T:GlobC cx.φ0 cx.w0 cx.Z) (hl:ops.toList.mapM (λo=>Z01 P bt (fz (o.dst.getD 0)) ops o)=some sops) (hd:QW cx.N ops=true)
  (B: ∀ i o,ops[i]? = some o-> ∀ e∈o.after,Region.binds .any e=true->e.on<i) (hwt:Z65 pre ops) {p:Nat} (hp: ∀ i,p<=i->i<ops.size-> ∀ j,j<i->Qb pre j i=true) :
  ∀ (m j c:Nat) (listed:Array Bool) (s:St) (φ:Mem) (h:Nat->Value) (tmps:Array Value) (w:World),ops.size-j=m->p<=j->j<=ops.size->m<=c->listed.size=ops.size->Closed ops listed →
   (∀ k,listed.getD k false=true ↔ k<j)->Mod cx s φ h tmps w->Z1U P I (sops.drop j) s (Q .normal) (λv s1=>Q (pnc v) s1)->wpAnyIn F N P .any ops (PostM cx ds Q) c listed ⟨tmps,ds⟩ w:=by
 have hlo:sops.length=ops.size:=by have:=Z1h hl;simpa using this
 intro m;induction m with
 |zero =>
  intro j c listed s φ h tmps w hm hpj hj S hsz u z d q;have hje:j=ops.size:=by omega
  rw[List.drop_eq_nil_of_le (by omega)] at q;have g:Region.ready .any ops listed=[]:=by
   refine List.eq_nil_iff_forall_not_mem.2 λi hi=>?_;obtain⟨h1,o,H,_⟩:=mem_ready.1 hi;have A:=(Array.getElem?_eq_some_iff.1 H).1;rw[QM (by omega),(z i).2 (by omega)] at h1;cases h1
  cases c with
  |zero=>exact⟨g,PostM.of q d⟩
  |succ c =>
   refine⟨λ_=>PostM.of q d,λi hi=>?_⟩;rw[g] at hi;cases hi
 |succ m ih =>
  intro j c listed s φ h tmps w hm hpj hj S hsz u z d q;have X:j<ops.size:=by omega
  obtain⟨c,rfl⟩: ∃ f,c=f+1:=⟨c-1,by omega⟩;have H:ops[j]? = some ops[j]:=Array.getElem?_eq_getElem X;have C:listed.getD j false=false:=by
   cases hq:listed.getD j false with
   |false=>rfl
   |true=>have:=(z j).1 hq;omega
  refine⟨λhr=>?_,λi hi=>?_⟩
  ·exfalso;have:j∈Region.ready .any ops listed:=mem_ready.2 ⟨by rw[QM (by omega)];exact C,ops[j],H,λe R hb=>(z _).2 (B j ops[j] H e R hb)⟩;rw[hr] at this;cases this
  ·obtain⟨h1,o,l,E⟩:=mem_ready.1 hi;have A:=(Array.getElem?_eq_some_iff.1 l).1;rw[QM (by omega)] at h1;have W:i=j:=by
    rcases Nat.lt_trichotomy i j with hlt|R|U
    ·rw[(z i).2 hlt] at h1;cases h1
    ·exact R
    ·have:=Qg hwt u i j (λo' t=>by rw[l] at t;cases t;exact E) (hp i (by omega) A j U);rw[C] at this;cases this
   subst W;obtain⟨so,M,G⟩:=Z1K hl i o (by simpa using l);have x:sops.drop i=so::sops.drop (i+1):=by
    rw[List.drop_eq_getElem_cons (by omega)];have:sops[i]? = some sops[i]:=List.getElem?_eq_getElem (by omega);rw[this] at G;cases G;rfl
   rw[x] at q;have hs:=Z1s (ds:=ds) (n:=N) (Q:=PostM cx ds Q) hF J T M (Q5 hd o (by simpa using Array.mem_of_getElem? l)) d q (λv s' φ' h' w' Y y=>PostM.of Y y);have r: ∀ a w',Z0J cx ds (λs1=>Z1U P I (sops.drop (i+1)) s1 (Q .normal) (λv s1=>Q (pnc v) s1)) a w'->wpAnyIn F N P .any ops (PostM cx ds Q) c (listed.setIfInBounds i true) a w':=by
    rintro⟨tm,df⟩ w' ⟨O,s1,φ',h',Y,y⟩;cases O;refine ih (i+1) c _ s1 φ' h' tm w' (by omega) (by omega) (by omega) (by omega) (by simpa using hsz) (u.set (by omega) λo' t=>by rw[l] at t;cases t;exact E) (λk=>?_) y Y;rw[Z0F (by omega),z k];omega
   unfold wpOpIn;simp only[l];split at hs
   ·rename_i hw;rw[if_pos hw];exact Oper.wpIn_mono r hs
   ·rename_i hw;rw[if_neg hw];exact⟨hs.1,r _ _ hs.2⟩
theorem Za4 (hF:Fence.Open F) {b2:Nat} (hbs:cx.bs<=bs) (hb2:cx.bs<=b2) (U:GlobC cx.φ0 cx.w0 cx.Z) (hl:ops.toList.mapM (λo=>Z01 P bt (fz (o.dst.getD 0)) ops o)=some sops) (I:QW cx.N ops=true)
  (C: ∀ i o,ops[i]? = some o-> ∀ e∈o.after,Region.binds .any e=true->e.on<i) (H:Z65 pre ops) {p:Nat} (hpl:p<ops.size) (hp: ∀ i,p<=i->i<ops.size-> ∀ j,j<i->Qb pre j i=true)
  (S: ∀ k o,(sops.take p)[k]? = some o-> ∃ e,es[k]? = some e/\Has P bs o (stAt es s0 k) e) (B:(sops.take p).length=es.length) (T:dchk bs pre (sops.take p) es s0=true) (htop:s0.top<=bs)
  (hK:Z1U P b2 (sops.drop p) (stAt es s0 es.length) (Q .normal) (λv s1=>Q (pnc v) s1)) :
  ∀ (c:Nat) (listed:Array Bool) (s:St) (φ:Mem) (h:Nat->Value) (tmps:Array Value) (w:World),listed.size=ops.size->Closed ops listed->(∀ k,listed.getD k false=true->k<p) →
   Inv es s0 (λk=>listed.getD k false=true) s->(un ops listed).length<=c->Mod cx s φ h tmps w->wpAnyIn F N P .any ops (PostM cx ds Q) c listed ⟨tmps,ds⟩ w:=by
 have hlo:sops.length=ops.size:=by have:=Z1h hl;simpa using this
 have hel:es.length=p:=by rw[<- B,List.length_take];omega
 intro c;induction c with
 |zero =>
  intro listed s φ h tmps w hsz m f hI hun hm;exfalso;have:p∈un ops listed:=List.mem_filter.2 ⟨List.mem_range.2 hpl,by
   rw[QM (by omega)];cases G:listed.getD p false with
   |false=>rfl
   |true=>have:=f p G;omega⟩
  have:=List.length_pos_of_mem this;omega
 |succ c ih =>
  intro listed s φ h tmps w hsz m f hI hun hm;by_cases l: ∀ k,k<p->listed.getD k false=true
  ·-- all ahead are done
   have O:=Inv.at (es:=es) (s0:=s0) es.length (Nat.le_refl _);have A: ∀ k,k<es.length ↔ listed.getD k false=true:=λk=>⟨λr=>l k (by omega),λr=>by have:=f k r;omega⟩;have hmod:Mod cx (stAt es s0 es.length) φ h tmps w:=hm.weaken (λt d I=>by rw[<- I];exact (hI.tm t).uniq (O.tm t) λk _=>(A k).symm) λi o y=>by rw[<- y];exact (hI.ob i).uniq (O.ob i) λk _=>(A k).symm
   have hun2:ops.size-p<=(un ops listed).length:=by
    have hnd:(List.range' p (ops.size-p)).Nodup:=List.nodup_range'
    have:=List.Nodup.length_le_of_subset hnd (l₂:=un ops listed) λi hi=>by
     rw[List.mem_range'_1] at hi;refine List.mem_filter.2 ⟨List.mem_range.2 (by omega),?_⟩;rw[QM (by omega)];cases G:listed.getD i false with
     |false=>rfl
     |true=>have:=f i G;omega
    simpa using this
   exact Z9M hF hb2 U hl I C H hp _ p (c+1) listed (stAt es s0 es.length) φ h tmps w rfl (Nat.le_refl _) (by omega) (by omega) hsz m (λk=>⟨f k,l k⟩) hmod hK
  ·refine⟨λhrn=>?_,λi hi=>?_⟩
   ·exfalso;have: ∃ k,k<p/\listed.getD k false=false/\ ∀ j,j<k->listed.getD j false=true:=by
     have h0: ∃ k,k<p/\listed.getD k false=false:=Classical.byContradiction λhn=>l λk r=>by
      cases G:listed.getD k false with
      |true=>rfl
      |false=>exact absurd ⟨k,r,G⟩ hn
     obtain⟨k,r,G⟩:=h0;induction k using Nat.strongRecOn with
     |_ k ihk =>
      by_cases J: ∃ j,j<k/\listed.getD j false=false
      ·obtain⟨j,E,hjq⟩:=J;exact ihk j E (by omega) hjq
      ·refine⟨k,r,G,λj E=>?_⟩;cases hq':listed.getD j false with
       |true=>rfl
       |false=>exact absurd ⟨j,E,hq'⟩ J
    obtain⟨k0,h1,h2,h3⟩:=this;have Y:k0<ops.size:=by omega
    have hr:k0∈Region.ready .any ops listed:=mem_ready.2 ⟨by rw[QM (by omega)];exact h2,ops[k0],Array.getElem?_eq_getElem Y,λe he R=>h3 _ (C k0 ops[k0] (Array.getElem?_eq_getElem Y) e he R)⟩;rw[hrn] at hr;cases hr
   ·obtain⟨h1,o,y,hrd⟩:=mem_ready.1 hi;have W:=(Array.getElem?_eq_some_iff.1 y).1;rw[QM (by omega)] at h1;have x:=λj R=>Qg H m i j (λo' g=>by rw[y] at g;cases g;exact hrd) R;have X:i<p:=by
     apply Classical.byContradiction;intro hn;exact l λk r=>x k (hp i (by omega) W k (by omega))
    obtain⟨so,hcs,hso⟩:=Z1K hl i o (by simpa using y);have hso':(sops.take p)[i]? = some so:=by rw[List.getElem?_take,if_pos X];exact hso
    obtain⟨e,he,hh,z,hcd,hI'⟩:=Z9i S B T hI htop hso' (by simp only[h1];simp) (λj J=>by have:=f j J;omega) x
     (λj q J R=>Qg H m j q (λo' g=>m j o' g J) R)
    have hst:=Z1V hh z hcd;have hs:=Qy (ds:=ds) (n:=N) (Q:=PostM cx ds Q) hF hbs U hcs (Q5 I o (by simpa using Array.mem_of_getElem? y)) hm hst;have u: ∀ a w',Z0J cx ds (λs1=>Alike s1 (s.app e)) a w'->wpAnyIn F N P .any ops (PostM cx ds Q) c (listed.setIfInBounds i true) a w':=by
     rintro⟨tm,df⟩ w' ⟨hdf,s1,φ',h',M,hm'⟩;cases hdf;refine ih _ (s.app e) φ' h' tm w' (by simpa using hsz) (m.set (by omega) λo' g=>by rw[y] at g;cases g;exact hrd) (λk r=>by
      rcases (Z0F (by omega)).1 r with r|rfl
      ·exact f k r
      ·exact X) (hI'.congr λk=>(Z0F (by omega)).symm) (by have:=Z8t hsz (Z1G hi);omega) (hm'.weaken (λt d I=>by rw[M.1 t];exact I) λi o y=>by rw[M.2 i];exact y)
    unfold wpOpIn;simp only[y];split at hs
    ·rename_i hw;rw[if_pos hw];exact Oper.wpIn_mono u hs
    ·rename_i hw;rw[if_neg hw];exact⟨hs.1,u _ _ hs.2⟩
end
theorem Z24 {ops:Array Oper} {pre:List Nat} (k:Z1N pre ops=true):(∀ i o,ops[i]? = some o-> ∀ e∈o.after,Region.binds .any e=true->e.on<i)/\Z65 pre ops:=by
 simp only[Z1N,Bool.and_eq_true,decide_eq_true_eq,List.all_eq_true,List.mem_range,beq_iff_eq] at k;obtain⟨m,h2⟩:=k;have c: ∀ i o,ops[i]? = some o-> ∀ e∈o.after,Region.binds .any e=true->e.on<i:=λi o d e l f=>by
  have:=h2 i (Array.getElem?_eq_some_iff.1 d).1;simp only[d,List.all_eq_true,Bool.and_eq_true,Bool.or_eq_true,Bool.not_eq_true',decide_eq_true_eq] at this;rcases this.1 e (by simpa using l) with h|h
  ·rw[f] at h;cases h
  ·exact h
 have p:Z65 pre ops:=λi j f=>by
  have q:j<ops.size:=by
   apply Classical.byContradiction;intro r;simp only[Qb,List.getD,List.getElem?_eq_none (show pre.length<=j by omega)] at f;simp at f
  have d:ops[j]? = some ops[j]:=Array.getElem?_eq_getElem q
  have:=h2 j q;simp only[d,Bool.and_eq_true,beq_iff_eq] at this;have a:(pre.getD j 0 &&& Z4P pre (ops[j]).after.toList 0).testBit i=true:=by rw[this.2];exact f
  rw[Nat.testBit_and,Bool.and_eq_true] at a;rcases Z3B a.2 with h|⟨e,l,g,h⟩
  ·simp at h
  ·exact⟨_,d,e,by simpa using l,g,c j _ d e (by simpa using l) g,h⟩
 exact⟨c,p⟩
theorem Zlt {P:Program} (f:P.follows .mixedOrders=true):Zkg P:=by
 intro cx F N ds r bt fz ops Q sops pre id bs l m hl u x p s φ h tmps w j hm es s' a c t;obtain⟨e,q⟩:=Z24 p;obtain⟨d,rfl,hc⟩:=Z28 a;refine wpIn_region_any f ?_;have g: ∀ i,(Array.replicate ops.size false).getD i false=false:=λi=>by
  by_cases hi:i<ops.size<;>simp[Array.getD,hi]
 refine Zc5 r l m hl u e q hc d c j t ops.size (Array.replicate ops.size false) s φ h tmps _ (by simp) (λi o y hi=>by rw[g i] at hi;cases hi) (Inv.zero.congr λk=>by rw[g k];simp) ?_ hm.drew;unfold un;exact Nat.le_trans (List.length_filter_le _ _) (by simp)
theorem Zlu {P:Program} (l:P.follows .mixedOrders=true):Zkh P:=by
 intro cx F N ds z bt fz ops Q sops pre id bs p r t hl B G u a s φ h tmps w m hm es s' E d e q A;obtain⟨g,x⟩:=Z24 u;obtain⟨f,rfl,hc⟩:=Z28 d;simp only[ZbE,Bool.and_eq_true,decide_eq_true_eq,List.all_eq_true,List.mem_range,Bool.or_eq_true,beq_iff_eq] at a;refine wpIn_region_any l ?_;have c: ∀ i,(Array.replicate ops.size false).getD i false=false:=λi=>by
  by_cases hi:i<ops.size<;>simp[Array.getD,hi]
 refine Za4 z r q t hl B g x a.1 (λi h1 h2 j C=>?_) hc f e m A ops.size (Array.replicate ops.size false) s φ h tmps _ (by simp) (λi o H hi=>by rw[c i] at hi;cases hi) (λk y=>by rw[c k] at y;cases y) (Inv.zero.congr λk=>by rw[c k];simp) ?_ hm.drew
 ·rcases a.2 i h2 with h|h
  ·omega
  ·simp only[Qb];rw[h,Nat.testBit_two_pow_sub_one];simpa using C
 ·unfold un;exact Nat.le_trans (List.length_filter_le _ _) (by simp)
theorem Zlv {P:Program} (j:P.follows .mixedOrders=true):Zki P:=by
 intro cx F N ds z bt fz ops Q sops pre id bs r t hl A C x s φ h tmps w l hm pan qs s' d e a p;obtain⟨g,y⟩:=Z24 x;obtain⟨f,rfl,hc⟩:=Z38 d;have u:sops.length=ops.size:=by have:=Z1h hl;simpa using this
 refine wpIn_region_any j ?_;have c: ∀ i,(Array.replicate ops.size false).getD i false=false:=λi=>by
  by_cases hi:i<ops.size<;>simp[Array.getD,hi]
 refine Za5 (pan:=pan) z r t hl A g y rfl (λk o m=>?_) (by simpa using f) e a.1 a.2 l ?_ ops.size (Array.replicate ops.size false) s φ h tmps _ (by simp) (λi o E hi=>by rw[c i] at hi;cases hi) (λ_ _ _ k m=>by rw[c k] at m;cases m) (Inv.zero.congr λk=>by rw[c k];simp) ?_ hm.drew
 ·obtain⟨q,h1,h2⟩:=hc k o m;exact⟨q,h1,by simpa using h2⟩
 ·cases pan with
  |none=>simpa using p
  |some B=>exact⟨by rw[<- u];exact p.1,p.2⟩
 ·unfold un;exact Nat.le_trans (List.length_filter_le _ _) (by simp)
theorem Za6 {P:Program} (a:P.follows .mixedOrders=true):DrawSound P:=⟨Zlt a,Zlu a,Zlv a⟩
end Go.Sx
namespace Go.Sx
open Go.RowKit
variable [Globs] [Codes]
def Zck (op:BinOp) (k:IntKind) (a b:Int):Option D :=
 match op with
 |.add=>some (.int k (k.wrap (a+b)))
 |.sub=>some (.int k (k.wrap (a-b)))
 |.mul=>some (.int k (k.wrap (a*b)))
 |.quo=>if b=0 then none else some (.int k (k.wrap (a.tdiv b)))
 |.rem=>if b=0 then none else some (.int k (a.tmod b))
 |.eql=>some (.bool (decide (a=b)))
 |.neq=>some (.bool (!decide (a=b)))
 |.lss=>some (.bool (decide (a<b)))
 |.leq=>some (.bool (decide (a<=b)))
 |.gtr=>some (.bool (decide (b<a)))
 |.geq=>some (.bool (decide (b<=a)))
 |.and=>some (.int k (bitI .and k a b))
 |.or=>some (.int k (bitI .or k a b))
 |.xor=>some (.int k (bitI .xor k a b))
 |.andNot=>some (.int k (bitI .andNot k a b))
 |_=>none
def Zci (op:BinOp) (a b:List UInt8):Option D :=
 match op with
 |.add=>if a.length+b.length<=4611686018427387904 then some (.str (a++b)) else none
 |.eql=>some (.bool (decide (a=b)))
 |.neq=>some (.bool (!decide (a=b)))
 |.lss=>some (.bool (Op.bytesLess a b))
 |.leq=>some (.bool (Op.bytesLess a b ||decide (a=b)))
 |.gtr=>some (.bool (!(Op.bytesLess a b ||decide (a=b))))
 |.geq=>some (.bool (!Op.bytesLess a b))
 |_=>none
def isBy:List (List D)->Bool
 |[]=>true
 |[.int .u8 n]::r=>decide (0<=n) && decide (n<256) && isBy r
 |_=>false
theorem Z3C: ∀ {es:List (List D)},isBy es=true->es=byC (QC es)
 |[],_=>rfl
 |e::r,h=>by
  unfold isBy at h;split at h
  ·rename_i heq;cases heq
  ·rename_i n d heq;cases heq;simp only[Bool.and_eq_true,decide_eq_true_eq] at h;have a:=Z3C h.2;have c:((UInt8.ofNat n.toNat).toNat:Int)=n:=by
    rw[UInt8.toNat_ofNat_of_lt' (by show _<256;omega)];omega
   simp only[QC,byC,List.map_cons] at a ⊢;rw[c,<- a]
  ·cases h
def one1 (d:Option D):Option (D × Option Ob):=match d with
 |some d=>some (d,none)
 |none=>none
def Zce (dst:Nat):D->D × Option Ob
 |.own sz e es=>(.vec dst,some (.arr true sz e es))
 |r=>(r,none)
def evE (fn:FuncId->List D->Option D) (dst:Nat) (o:AOp) (xs:List D) (obs:Nat->Option Ob):Option (D × Option Ob) :=
 match o,xs with
 |.mv,[d]=>some (d,none)
 |.pick,[.bool c,a,b]=>some (if c then a else b,none)
 |.bin op,[.int k a,.int l b]=>if k=l then one1 (Zck op k a b) else none
 |.bin op,[.str a,.str b]=>one1 (Zci op a b)
 |.binb .eql,[.bool a,.bool b]=>some (.bool (a == b),none)
 |.binb .neq,[.bool a,.bool b]=>some (.bool (!(a == b)),none)
 |.un .not,[.bool a]=>some (.bool (!a),none)
 |.un .neg,[.int k a]=>some (.int k (k.wrap (0-a)),none)
 |.conv k,[.int _ n]=>some (.int k (k.wrap n),none)
 |.len true,[.str s]=>some (.int .i64 s.length,none)
 |.len false,[.slice es _]=>some (.int .i64 es.length,none)
 |.len false,[.nils]=>some (.int .i64 0,none)
 |.len false,[.vec id]=>match obs id with
  |some (.arr _ _ _ es)=>some (.int .i64 es.length,none)
  |_=>none
 |.box,[d]=>if D.okc d=true then some (.ptr dst 0,some (.cells d.cells)) else none
 |.alloc z,[]=>some (.ptr dst 0,some (.cells z))
 |.build z ps,ds=>match QX obs z ps ds with
  |some cs=>some (.agg cs,none)
  |none=>none
 |.bslice fz sz n e z ps,ds=>match QX obs z ps ds with
  |some cs=>if cs.all D.pur=true then some (.vec dst,some (.arr fz sz e (Z3q sz n cs))) else none
  |none=>none
 |.load agg sz,[.ptr id off]=>match obs id with
  |some (.cells cs)=>match agg with
   |true=>if off+sz<=cs.length then some (.agg (((cs.drop off).take sz).map (dv obs)),none) else none
   |false=>match cs[off]? with
    |some d=>some (d,none)
    |none=>none
  |_=>none
 |.load agg sz,[.fptr cs]=>match agg with
  |true=>if sz<=cs.length then some (.agg (cs.take sz),none) else none
  |false=>match cs with
   |d::_=>some (d,none)
   |[]=>none
 |.load agg sz,[.vptr id i j g]=>match obs id with
  |some (.arr false h _ es)=>if h=g/\j+sz<=g then (match es[i]? with
   |some cs=>(match agg with
    |true=>some (.agg ((cs.drop j).take sz),none)
    |false=>match cs[j]? with
     |some d=>some (d,none)
     |none=>none)
   |none=>none) else none
  |_=>none
 |.faddr off,[.ptr id o]=>some (.ptr id (o+off),none)
 |.faddr off,[.fptr cs]=>some (.fptr (cs.drop off),none)
 |.faddr off,[.vptr id i j sz]=>some (.vptr id i (j+off) sz,none)
 |.field off agg sz,[.agg cs]=>match agg with
  |true=>if off+sz<=cs.length then some (.agg ((cs.drop off).take sz),none) else none
  |false=>match cs[off]? with
   |some d=>some (d,none)
   |none=>none
 |.iaddr sz,[.slice es _,.int _ n]=>if 0<=n/\n<es.length/\(es.getD n.toNat []).length=sz then some (.fptr (es.getD n.toNat []),none) else none
 |.iaddr sz,[.vec id,.int _ n]=>match obs id with
  |some (.arr true _ _ es)=>if 0<=n/\n<es.length/\(es.getD n.toNat []).length=sz then some (.fptr (es.getD n.toNat []),none) else none
  |some (.arr false g _ es)=>if g=sz/\0<=n/\n<es.length then some (.vptr id n.toNat 0 sz,none) else none
  |_=>none
 |.index,[.str s,.int _ n]=>if 0<=n/\n<s.length then some (.int .u8 (s.getD n.toNat 0).toNat,none) else none
 |.sliceS lo hi,.str s::bs=>match Z0c lo hi s.length bs with
  |some (a,b)=>if 0<=a/\a<=b/\b<=s.length then some (.str ((s.take b.toNat).drop a.toNat),none) else none
  |none=>none
 |.slice sz lo hi,d::bs=>match Z05 obs d with
  |some (es,ext)=>match Z0c lo hi es.length bs with
   |some (a,b)=>if ((es++ext).all λq=>q.length == sz)=true/\0<=a/\a<=b/\b<=(es++ext).length then some (.slice (((es++ext).take b.toNat).drop a.toNat) ((es++ext).drop b.toNat),none) else none
   |none=>none
  |none=>(match d,bs with
   |.vec id,[.int _ n]=>(match lo,hi with
    |true,false=>(match obs id with
     |some (.arr false g _ es)=>if g=sz/\es.isEmpty=false/\0<=n/\n<=es.length then some (.vwin id n.toNat sz,none) else none
     |_=>none)
    |_,_=>none)
   |_,_=>none)
 |.extract i,[.tuple ds]=>match ds[i]? with
  |some d=>some (d,none)
  |none=>none
 |.call f,ds=>match fn f (ds.map (dv obs)) with
  |some r=>some (Zce dst r)
  |none=>none
 |.nilck,[d]=>if D.nn d=true then some (d,none) else none
 |.eqs neg ks,[.agg a,.agg b]=>match ZF ks a b with
  |some r=>some (.bool (match neg with|true=>!r|false=>r),none)
  |none=>none
 |.mks fz sz e z bt,[.int _ n]=>if z.all D.pur=true/\0<=n/\n*bt<=281474976710656/\n<=1073741824 then some (.vec dst,some (.arr fz sz e (List.replicate n.toNat z))) else none
 |.mke fz sz e bt,[.int _ n]=>if 0<=n/\n*bt<=281474976710656/\n<=1073741824 then some (.vec dst,some (.arr fz sz e [])) else none
 |.b2s,[d]=>match Z1Z obs d with
  |some es=>if isBy es=true then some (.str (QC es),none) else none
  |none=>none
 |.nilv fz sz e,[.nils]=>if 0<sz then some (.vec dst,some (.arr fz sz e [])) else none
 |.mkfn f n,ds=>if n<=ds.length then some (.func f (ds.take n) (ds.drop n),none) else none
 |.eqn op kd,[a,b]=>match eqD kd a b with
  |some r=>match op with
   |.eql=>some (.bool r,none)
   |.neq=>some (.bool (!r),none)
   |_=>none
  |none=>none
 |.iaddrA len sz,[.fptr cs,.int _ n]=>if 0<=n/\n<len then some (.fptr (cs.drop (n.toNat*sz)),none) else none
 |.iaddrA len sz,[.ptr id off,.int _ n]=>if 0<=n/\n<len then some (.ptr id (off+n.toNat*sz),none) else none
 |.mm big,.int k a::ds=>match mmI big k a ds with
  |some r=>some (.int k r,none)
  |none=>none
 |.sh left,[.int k a,.int _ b]=>if 0<=b then some (.int k (shI left k a b),none) else none
 |.mkmap,[]=>some (.map dst,some (.gen (.map []) []))
 |.mkmapC,[]=>some (.map dst,some (.gen (.mapC [] []) []))
 |.ext k,xs=>match extD k xs obs with
  |some d=>some (d,none)
  |none=>none
 |.mlook kd z,[.map id,key]=>match obs id with
  |some (.gen (.map ks) ds)=>if isKD kd key=true then (match Z2r key ks ds with
   |some r=>some (r.getD z,none)
   |none=>none) else none
  |_=>none
 |_,_=>none
section
variable {P:Program} {fn:FuncId->List D->Option D} {dst:Nat} {obs:Nat->Option Ob} {K:D->Option Ob->Prop}
theorem Z3b {op:BinOp} {k:IntKind} {a b:Int} {d:D} {K:D->Prop} (h:Zck op k a b=some d) (c:K d):binI op k a b K:=by
 cases op<;>simp only[Zck,Option.some.injEq,reduceCtorEq] at h<;>simp only[binI]<;>first|(subst h;exact c)|(split at h;cases h;simp only[Option.some.injEq] at h;subst h;exact⟨by assumption,c⟩)
theorem Z3a {op:BinOp} {a b:List UInt8} {d:D} {K:D->Prop} (h:Zci op a b=some d) (c:K d):binS op a b K:=by
 cases op<;>simp only[Zci,Option.some.injEq,reduceCtorEq] at h<;>simp only[binS]<;>first|(subst h;exact c)|(split at h;simp only[Option.some.injEq] at h;subst h;exact⟨by assumption,c⟩;cases h)
theorem Z4T {x:Option D} {d:D} {nb:Option Ob} (h:one1 x=some (d,nb)):x=some d/\nb=none:=by
 unfold one1 at h;split at h
 ·simp only[Option.some.injEq,Prod.mk.injEq] at h;exact⟨by rw[h.1],h.2.symm⟩
 ·cases h
theorem Zg5 {d a:D} {nb:Option Ob} (h:evE fn dst .b2s [a] obs=some (d,nb)) (f:K d nb):evl P dst .b2s [a] obs K:=by
 simp only[evE] at h;simp only[evl];cases c:Z1Z obs a with
 |none=>rw[c] at h;cases h
 |some es =>
  rw[c] at h;simp only at h ⊢;split at h
  ·rename_i e;simp only[Option.some.injEq,Prod.mk.injEq] at h;obtain⟨rfl,rfl⟩:=h;exact⟨Z3C e,f⟩
  ·cases h
theorem Zg4 {agg:Bool} {sz id i j a:Nat} {d:D} {nb:Option Ob} (h:evE fn dst (.load agg sz) [.vptr id i j a] obs=some (d,nb)) (f:K d nb):evl P dst (.load agg sz) [.vptr id i j a] obs K:=by
 simp only[evE] at h;simp only[evl];cases g:obs id with
 |none=>rw[g] at h;cases h
 |some o =>
  rw[g] at h;cases o with
  |cells _=>cases h
  |gen _ _=>cases h
  |arr fz k e es =>
   cases fz with
   |true=>cases h
   |false =>
    simp only at h ⊢;split at h
    ·rename_i hc;refine⟨hc.1,hc.2,?_⟩;cases hi:es[i]? with
     |none=>rw[hi] at h;cases h
     |some cs =>
      rw[hi] at h;cases agg with
      |true=>simp only[Option.some.injEq,Prod.mk.injEq] at h;obtain⟨rfl,rfl⟩:=h;exact f
      |false =>
       simp only[Bool.false_eq_true,if_false] at h ⊢;cases c:cs[j]? with
       |none=>rw[c] at h;cases h
       |some d=>rw[c] at h;simp only[Option.some.injEq,Prod.mk.injEq] at h;obtain⟨rfl,rfl⟩:=h;exact f
    ·cases h
theorem Z9U {kd:Option IntKind} {z key:D} {id:Nat} {d:D} {nb:Option Ob} (h:evE fn dst (.mlook kd z) [.map id,key] obs=some (d,nb)) (c:K d nb):evl P dst (.mlook kd z) [.map id,key] obs K:=by
 simp only[evE] at h;simp only[evl];cases a:obs id with
 |none=>rw[a] at h;cases h
 |some o =>
  rw[a] at h;cases o with
  |cells _=>cases h
  |arr _ _ _ _=>cases h
  |gen g ds =>
   cases g with
   |loop=>cases h
   |mapC=>cases h
   |mapB=>cases h
   |mapS=>cases h
   |iter=>cases h
   |map ks =>
    simp only at h ⊢;split at h
    ·rename_i hc;refine⟨hc,?_⟩;cases hf:Z2r key ks ds with
     |none=>rw[hf] at h;cases h
     |some r=>rw[hf] at h;simp only[Option.some.injEq,Prod.mk.injEq] at h;obtain⟨rfl,rfl⟩:=h;exact c
    ·cases h
theorem Zjq {sz:Nat} {lo hi:Bool} {d:D} {bs:List D} {r:D} {nb:Option Ob} (h:evE fn dst (.slice sz lo hi) (d::bs) obs=some (r,nb)) (f:K r nb):evl P dst (.slice sz lo hi) (d::bs) obs K:=by
 simp only[evE] at h;simp only[evl];cases hs:Z05 obs d with
 |some p =>
  obtain⟨es,ext⟩:=p;rw[hs] at h;simp only at h ⊢;cases c:Z0c lo hi es.length bs with
  |none=>rw[c] at h;cases h
  |some q =>
   obtain⟨a,b⟩:=q;rw[c] at h;simp only at h ⊢;split at h
   ·rename_i hc;simp only[Option.some.injEq,Prod.mk.injEq] at h;obtain⟨rfl,rfl⟩:=h;refine⟨?_,hc.2.1,hc.2.2.1,hc.2.2.2,f⟩
    have:=hc.1;simp only[List.all_eq_true,beq_iff_eq] at this;exact this
   ·cases h
 |none =>
  rw[hs] at h;simp only at h ⊢;split at h
  ·split at h
   ·split at h
    ·rename_i heq;simp only[heq];split at h
     ·rename_i hc;simp only[Option.some.injEq,Prod.mk.injEq] at h;obtain⟨rfl,rfl⟩:=h;exact⟨hc.1,λe=>(by rw[e] at hc;simp at hc),hc.2.2.1,hc.2.2.2,f⟩
     ·cases h
    ·cases h
   ·cases h
  ·cases h
theorem Z0u (m: ∀ f p r,fn f p=some r->FnOK P f p r) {op:AOp} {xs:List D} {d:D} {nb:Option Ob} (h:evE fn dst op xs obs=some (d,nb)) (g:K d nb):evl P dst op xs obs K:=by
 by_cases l:op=.b2s/\ ∃ d,xs=[d]
 ·obtain⟨rfl,d,rfl⟩:=l;exact Zg5 h g
 by_cases hl:(∃ a s,op=.load a s)/\ ∃ a b c d,xs=[.vptr a b c d]
 ·obtain⟨⟨_,_,rfl⟩,_,_,_,_,rfl⟩:=hl;exact Zg4 h g
 by_cases i:(∃ a s,op=.mlook a s)/\ ∃ a b,xs=[.map a,b]
 ·obtain⟨⟨_,_,rfl⟩,_,_,rfl⟩:=i;exact Z9U h g
 by_cases k:(∃ sz lo hi,op=.slice sz lo hi)/\ ∃ d bs,xs=d::bs
 ·obtain⟨⟨_,_,_,rfl⟩,_,_,rfl⟩:=k;exact Zjq h g
 unfold evE at h;split at h;all_goals try exact absurd ⟨⟨_,_,_,rfl⟩,_,_,rfl⟩ k
 all_goals try exact absurd ⟨rfl,_,rfl⟩ l
 all_goals try exact absurd ⟨⟨_,_,rfl⟩,_,_,_,_,rfl⟩ hl
 all_goals try exact absurd ⟨⟨_,_,rfl⟩,_,_,rfl⟩ i
 all_goals clear l hl i
 all_goals try simp only[evl]
 all_goals first
  |(simp only[Option.some.injEq,Prod.mk.injEq] at h;obtain⟨rfl,rfl⟩:=h;exact g)
  |(cases h;done)
  |(obtain⟨h1,rfl⟩:=Z4T h;exact Z3a h1 g)
  |(
   split at h
   ·rename_i hc;obtain⟨h1,rfl⟩:=Z4T h;exact⟨hc,Z3b h1 g⟩
   ·cases h)
  |(
   split at h
   ·rename_i r hr;refine⟨r,m _ _ _ hr,?_⟩;simp only[Option.some.injEq] at h;cases r<;>(simp only[Zce,Prod.mk.injEq] at h;obtain⟨rfl,rfl⟩:=h;exact g)
   ·cases h)
  |skip
 all_goals
  repeat' split at h
 all_goals first
  |(cases h;done)
  |skip
 all_goals try (simp only[Option.some.injEq,Prod.mk.injEq] at h;obtain⟨rfl,rfl⟩:=h)
 all_goals first
  |exact g
  |exact⟨by assumption,g⟩
  |(simp[*];done)
  |(rename_i hc;exact⟨hc.1,hc.2,g⟩)
  |(rename_i hc;exact⟨hc.1,hc.2.1,hc.2.2,g⟩)
  |(simp only[*];exact g)
  |(simp only[*];exact⟨by assumption,g⟩)
  |(rename_i hc;simp only[*];exact⟨hc.1,hc.2.1,hc.2.2,g⟩)
  |skip
 all_goals first
  |(rename_i cs heq agg o;rw[heq];exact⟨o,g⟩)
  |(rename_i sz e es heq hc;rw[heq];exact⟨hc.1,hc.2.1,hc.2.2,g⟩)
  |(rename_i hc;exact⟨hc.1,hc.2.1,hc.2.2.1,hc.2.2.2,g⟩)
  |(rename_i r heq;rw[heq];cases ‹Bool›<;>exact g)
  |(
   rename_i es ext j q a b heq hc;rw[j];simp only[heq];refine⟨?_,hc.2.1,hc.2.2.1,hc.2.2.2,g⟩
   have:=hc.1;simp only[List.all_eq_true,beq_iff_eq] at this;exact this)
end
def gudE {α:Type} (g:Option (Nat × Bool)) (s:St) (body skip:Option α):Option α :=
 match g with
 |none=>body
 |some (t,a)=>match lk s.tm t with
  |some (.bool b)=>if b=a then body else skip
  |some (.tuple [])=>skip
  |_=>none
theorem Qk {α:Type} {g:Option (Nat × Bool)} {s:St} {body skip:Option α} {x:α} (h:gudE g s body skip=some x) {p q:Prop} (hp:body=some x->p) (c:skip=some x->q):gud g s p q:=by
 cases g with
 |none=>exact hp h
 |some d =>
  obtain⟨t,w⟩:=d;simp only[gudE] at h;simp only[gud];split at h
  ·rename_i e heq;rw[heq];simp only;split at h
   ·rename_i a;rw[if_pos a];exact hp h
   ·rename_i a;rw[if_neg a];exact c h
  ·rename_i heq;rw[heq];exact c h
  ·cases h
def Z1u (s:St) (ds:List D):List Nat:=(Zi8 s.ob (D.collL ds [])).filter λi=>(lk s.ob i).isSome
def Z0s:List Nat->Bool
 |[]=>true
 |i::r=>!(r.contains i) && Z0s r
theorem Zx: ∀ {l:List Nat},Z0s l=true->l.Nodup
 |[],_=>List.nodup_nil
 |i::r,h=>by
  simp only[Z0s,Bool.and_eq_true,Bool.not_eq_true'] at h;refine List.nodup_cons.2 ⟨λhm=>?_,Zx h.2⟩;rw[List.contains_iff_mem.2 hm] at h;exact absurd h.1 (by simp)
theorem ZO {s:St} {ds:List D}: ∀ i∈Z1u s ds,(lk s.ob i).isSome:=λi hi=>by
 have:=(List.mem_filter.1 hi).2;simpa using this
abbrev Z3s:=D->List D->Obs->Option (D × Obs)
def hasE (cl:Z3s) (fn:FuncId->List D->Option D) (b:Nat) (o:SOp) (s:St):Option Eff :=
 match o with
 |.a dst g op xs=>gudE g s (match evE fn (b+dst.getD 0) op (xs.map s.get) (lk s.ob) with
   |some (d,none)=>some ⟨rdA (lk s.ob) op (xs.map s.get),dst.map (·,d),[],none⟩
   |some (d,some ob)=>if dst.isSome then some ⟨rdA (lk s.ob) op (xs.map s.get),dst.map (·,d),[(b+dst.getD 0,some ob)],none⟩ else none
   |none=>none) (some ⟨[],dst.map (·,.nov),[],none⟩)
 |.st g sz x y=>gudE g s (match stO (sz.at s) (s.get x) (s.get y) (lk s.ob) with
   |some (a,b,id,o)=>if a<b then some ⟨[id],none,[(id,some o)],none⟩ else none
   |none=>none) (some ⟨[],none,[],none⟩)
 |.app dst g fz sz c x y=>gudE g s (match Z3i (lk s.ob) (s.get y) with
   |some (ys,_)=>if (ys.all λq=>q.length == sz)=true then (match s.get x with
    |.nils=>if ys.length<=1073741824 then some ⟨vids [s.get y],some (dst,.vec (b+dst)),[(b+dst,some (.arr fz sz c ys))],none⟩ else none
    |.vec id=>match lk s.ob id with
     |some (.arr e f k es)=>if f=sz/\k=c/\es.length+ys.length<=1073741824 then some ⟨id::vids [s.get y],some (dst,.vec (b+dst)),[(b+dst,some (.arr e sz c (es++ys))),(id,none)],none⟩ else none
     |_=>none
    |_=>none) else none
   |none=>none) (some ⟨[],some (dst,.nov),[],none⟩)
 |.cd dst g x xs=>gudE g s
   (
    let h:=xs.map λy=>dva (s.get x) (lk s.ob) (s.get y);let nm:=Z1u s (s.get x::h)
    if Z0s nm=true then (match cl ((s.get x).ren (idx · nm)) (h.map (D.ren (idx · nm))) (Q4 s.ob (idx · nm) 0 nm) with
     |some (r,ob')=>if r.isPan=true then none else some ⟨nm++vids (xs.map s.get),dst.map (·,r.ren (bkN (s.base b) nm)),(renO (λj=>match nm[j]? with|some i=>i|none=>s.base b+j) (bkN (s.base b) nm) ob').map (λp=>(p.1,some p.2))++nm.map (·,none),some (s.base b)⟩
     |none=>none) else none)
   (some ⟨[],dst.map (·,.nov),[],none⟩)
theorem Z7R {P:Program} {cl:Z3s} {fn:FuncId->List D->Option D} (m: ∀ f k r,fn f k=some r->FnOK P f k r) (z: ∀ d k ob r ob',cl d k ob=some (r,ob')->CallL P d k ob λr0 ob0=>r0=r/\ob0=ob') {b:Nat} {o:SOp} {s:St} {e:Eff}
  (h:hasE cl fn b o s=some e):Has P b o s e/\(∀ q,e.cd=some q->s.top<=q):=by
 have u: ∀ q,e.cd=some q->s.top<=q:=by
  have key: ∀ {g:Option (Nat × Bool)} {body skip:Option Eff},gudE g s body skip=some e->(body=some e-> ∀ q,e.cd=some q->s.top<=q)->(skip=some e->e.cd=none)-> ∀ q,e.cd=some q->s.top<=q:=λ{g body skip} h h1 h2=>by
   have:=Qk h (p:=∀ q,e.cd=some q->s.top<=q) (q:=e.cd=none) h1 h2;cases g with
   |none=>exact this
   |some J =>
    obtain⟨t,w⟩:=J;simp only[gud] at this;split at this
    ·split at this
     ·exact this
     ·intro q i;rw[this] at i;cases i
    ·intro q i;rw[this] at i;cases i
    ·exact this.elim
  cases o with
  |a dst g op xs =>
   refine key h (λc q i=>?_) (λhs=>by cases hs;rfl);split at c
   ·cases c;cases i
   ·split at c
    ·cases c;cases i
    ·cases c
   ·cases c
  |st g sz x y =>
   refine key h (λc q i=>?_) (λhs=>by cases hs;rfl);split at c
   ·split at c
    ·cases c;cases i
    ·cases c
   ·cases c
  |app dst g fz sz H x y =>
   refine key h (λc q i=>?_) (λhs=>by cases hs;rfl);split at c
   ·split at c
    ·split at c
     ·split at c
      ·cases c;cases i
      ·cases c
     ·split at c
      ·split at c
       ·cases c;cases i
       ·cases c
      ·cases c
     ·cases c
    ·cases c
   ·cases c
  |cd dst g x xs =>
   refine key h (λc q i=>?_) (λhs=>by cases hs;rfl);simp only at c;split at c
   ·split at c
    ·split at c
     ·cases c
     ·cases c;cases i;exact Nat.le_max_right _ _
    ·cases c
   ·cases c
 refine⟨?_,u⟩;cases o with
 |a dst g op xs =>
  refine Qk h (λc=>?_) (λhs=>by cases hs;rfl);split at c
  ·rename_i d j;cases c;exact⟨rfl,rfl,Z0u m j ⟨rfl,rfl⟩⟩
  ·rename_i d ob j;split at c
   ·rename_i A;cases c;exact⟨rfl,rfl,Z0u m j ⟨rfl,A,rfl⟩⟩
   ·cases c
  ·cases c
 |st g sz x y =>
  refine Qk h (λc=>?_) (λhs=>by cases hs;rfl);simp only[HasB];split at c
  ·rename_i O R id ob G;split at c
   ·rename_i hc;cases c;simp only[G];exact⟨hc,trivial⟩
   ·cases c
  ·cases c
 |app dst g fz sz H x y =>
  refine Qk h (λc=>?_) (λhs=>by cases hs;rfl);simp only[HasB];split at c
  ·rename_i ys ext E;split at c
   ·rename_i l;simp only[E];refine⟨by simpa using l,?_⟩;split at c
    ·rename_i hx;split at c
     ·cases c;simp only[hx];exact⟨by assumption,trivial⟩
     ·cases c
    ·rename_i id hx;split at c
     ·rename_i I M S es hl;split at c
      ·rename_i hc;cases c;simp only[hx,hl];exact⟨hc.1,hc.2.1,hc.2.2,trivial⟩
      ·cases c
     ·cases c
    ·cases c
   ·cases c
  ·cases c
 |cd dst g x xs =>
  refine Qk h (λc=>?_) (λhs=>by cases hs;rfl);simp only at c;split at c
  ·rename_i B;split at c
   ·rename_i r ob' hc;split at c
    ·cases c
    ·rename_i C;cases c;exact⟨_,r,ob',_,Zx B,ZO,Nat.le_max_left _ _,z _ _ _ _ _ hc,by simpa using C,rfl⟩
   ·cases c
  ·cases c
def opE (cl:Z3s) (fn:FuncId->List D->Option D) (b:Nat) (o:SOp) (s:St):Option St :=
 match o with
 |.a dst g op xs=>gudE g s (match evE fn (b+dst.getD 0) op (xs.map s.get) (lk s.ob) with
   |some (d,none)=>some (s.put dst d)
   |some (d,some ob)=>match dst with
    |some t=>if s.clean (b+t)=true then some (s.put2 t (b+t) d ob) else none
    |none=>none
   |none=>none) (some (s.put dst .nov))
 |.st g sz x y=>gudE g s (match stO (sz.at s) (s.get x) (s.get y) (lk s.ob) with
   |some (a,b,id,o)=>if a<b then some {s with ob:=(id,o)::Za id s.ob} else none
   |none=>none) (some s)
 |.app dst g fz sz c x y=>gudE g s (match Z3i (lk s.ob) (s.get y) with
   |some (ys,_)=>if (ys.all λq=>q.length == sz)=true then (match s.get x with
    |.nils=>if ys.length<=1073741824/\s.clean (b+dst)=true then some (s.put2 dst (b+dst) (.vec (b+dst)) (.arr fz sz c ys)) else none
    |.vec id=>match lk s.ob id with
     |some (.arr e f i es)=>if f=sz/\i=c/\es.length+ys.length<=1073741824/\s.clean (b+dst)=true then some (St.put2 ⟨s.tm,Za id s.ob⟩ dst (b+dst) (.vec (b+dst)) (.arr e sz c (es++ys))) else none
     |_=>none
    |_=>none) else none
   |none=>none) (some (s.put (some dst) .nov))
 |.cd dst g x xs=>gudE g s
   (
    let h:=xs.map λy=>dva (s.get x) (lk s.ob) (s.get y);let nm:=Z1u s (s.get x::h)
    if Z0s nm=true then (match cl ((s.get x).ren (idx · nm)) (h.map (D.ren (idx · nm))) (Q4 s.ob (idx · nm) 0 nm) with
     |some (r,ob')=>if r.isPan=true then none else some ((s.back (s.base b) nm ob').put dst (r.ren (bkN (s.base b) nm)))
     |none=>none) else none)
   (some (s.put dst .nov))
theorem Z9h {P:Program} {cl:Z3s} {fn:FuncId->List D->Option D} (m: ∀ f j r,fn f j=some r->FnOK P f j r) (p: ∀ d j ob r ob',cl d j ob=some (r,ob')->CallL P d j ob λr0 ob0=>r0=r/\ob0=ob') {b:Nat} {o:SOp} {s s':St} {K:St->Prop}
  (h:opE cl fn b o s=some s') (e:K s'):stp P b o s K:=by
 cases o with
 |a dst g op xs =>
  refine Qk h (λc=>?_) (λhs=>by cases hs;exact e);split at c
  ·rename_i d i;cases c;exact Z0u m i e
  ·rename_i d ob i;split at c
   ·split at c
    ·rename_i l;cases c;exact Z0u m i ⟨l,e⟩
    ·cases c
   ·cases c
  ·cases c
 |st g sz x y =>
  refine Qk h (λc=>?_) (λhs=>by cases hs;exact e);split at c
  ·rename_i B C id ob w;split at c
   ·rename_i hc;cases c;simp only[w];exact⟨hc,e⟩
   ·cases c
  ·cases c
 |app dst g fz sz G x y =>
  refine Qk h (λc=>?_) (λhs=>by cases hs;exact e);split at c
  ·rename_i ys ext u;split at c
   ·rename_i k;simp only[u];refine⟨by simpa using k,?_⟩;split at c
    ·rename_i hx;split at c
     ·rename_i hc;cases c;simp only[hx];exact⟨hc.1,hc.2,e⟩
     ·cases c
    ·rename_i id hx;split at c
     ·rename_i z A E es hl;split at c
      ·rename_i hc;cases c;simp only[hx,hl];exact⟨hc.1,hc.2.1,hc.2.2.1,hc.2.2.2,e⟩
      ·cases c
     ·cases c
    ·cases c
   ·cases c
  ·cases c
 |cd dst g x xs =>
  refine Qk h (λc=>?_) (λhs=>by cases hs;exact e);simp only at c;split at c
  ·rename_i q;split at c
   ·rename_i r ob' hc;split at c
    ·cases c
    ·rename_i t;cases c;exact⟨_,_,_,Zx q,ZO,Nat.le_max_left _ _,Nat.le_max_right _ _,p _ _ _ _ _ hc,by rintro r0 ob0 ⟨rfl,rfl⟩;exact⟨by simpa using t,e⟩⟩
   ·cases c
  ·cases c
def opsE (cl:Z3s) (fn:FuncId->List D->Option D) (b:Nat):List SOp->St->Option St
 |[],s=>some s
 |o::r,s=>match opE cl fn b o s with
  |some s'=>opsE cl fn b r s'
  |none=>none
theorem Z0q {P:Program} {cl:Z3s} {fn:FuncId->List D->Option D} (e: ∀ f a r,fn f a=some r->FnOK P f a r) (c: ∀ d a ob r ob',cl d a ob=some (r,ob')->CallL P d a ob λr0 ob0=>r0=r/\ob0=ob') {b:Nat} :
  ∀ {ops:List SOp} {s s':St} {K:St->Prop},opsE cl fn b ops s=some s'->K s'->stps P b ops s K
 |[],s,s',K,h,g=>by cases h;exact g
 |o::r,s,s',K,h,g=>by
  simp only[opsE] at h;split at h
  ·rename_i s1 h1;exact Z9h e c h1 (Z0q e c h g)
  ·cases h
theorem Z1A {P:Program} {b:Nat} {o:SOp} {s:St} {K K':St->Prop} (h:stp P b o s K) (f: ∀ s,K s->K' s):stp P b o s K':=by
 cases o with
 |a dst g op xs =>
  refine Qj (λc=>Z4l c λd nb i=>?_) (f _) h;cases nb with
  |none=>exact f _ i
  |some ob=>cases dst with
   |none=>exact i
   |some t=>exact⟨i.1,f _ i.2⟩
 |st g sz x y =>
  refine Qj (λc=>?_) (f _) h;split at c
  ·exact⟨c.1,f _ c.2⟩
  ·exact c.elim
 |app dst g fz sz e x y =>
  refine Qj (λc=>?_) (f _) h;split at c
  ·rename_i ys ext p;refine⟨c.1,?_⟩;have h2:=c.2;split at h2
   ·exact⟨h2.1,h2.2.1,f _ h2.2.2⟩
   ·rename_i id hx;split at h2
    ·exact⟨h2.1,h2.2.1,h2.2.2.1,h2.2.2.2.1,f _ h2.2.2.2.2⟩
    ·exact h2.elim
   ·exact h2.elim
  ·exact c.elim
 |cd dst g x xs =>
  refine Qj (λc=>?_) (f _) h;obtain⟨nm,R,base,h1,h2,k,l,m,j⟩:=c;exact⟨nm,R,base,h1,h2,k,l,m,λr ob' hr=>⟨(j r ob' hr).1,f _ (j r ob' hr).2⟩⟩
theorem Z0U {P:Program} {b:Nat}: ∀ {ops:List SOp} {s:St} {K K':St->Prop},stps P b ops s K->(∀ s,K s->K' s)->stps P b ops s K'
 |[],_,_,_,h,a=>a _ h
 |o::r,_,_,_,h,a=>Z1A (o:=o) h λ_ hs=>Z0U (ops:=r) hs a
def canE (cl:Z3s) (fn:FuncId->List D->Option D) (b:Nat):List SOp->St->Option (List Eff × St)
 |[],s=>some ([],s)
 |o::r,s=>match hasE cl fn b o s with
  |some e=>match canE cl fn b r (s.app e) with
   |some (es,s')=>some (e::es,s')
   |none=>none
  |none=>none
theorem Z3P {P:Program} {cl:Z3s} {fn:FuncId->List D->Option D} (g: ∀ f a r,fn f a=some r->FnOK P f a r) (c: ∀ d a ob r ob',cl d a ob=some (r,ob')->CallL P d a ob λr0 ob0=>r0=r/\ob0=ob') {b:Nat} :
  ∀ {ops:List SOp} {s s':St} {es:List Eff},canE cl fn b ops s=some (es,s')->Z5a P b ops s es s'
 |[],s,s',es,h=>by simp only[canE,Option.some.injEq,Prod.mk.injEq] at h;obtain⟨rfl,rfl⟩:=h;rfl
 |o::r,s,s',es,h=>by
  simp only[canE] at h;split at h
  ·rename_i e j;split at h
   ·rename_i i k hc;simp only[Option.some.injEq,Prod.mk.injEq] at h;obtain⟨rfl,rfl⟩:=h;exact⟨(Z7R g c j).1,Z3P g c hc⟩
   ·cases h
  ·cases h
end Go.Sx
/- DEFERRED CALLS,RECOVERY. -/
namespace Go.Sx
open Go.RowKit
variable [Globs] [Codes]
section
variable {F:Fence} {n:Nat} {P:Program}
def recS (cs:List Frame):Value × List Frame:=match recoverD cs with
 |some x=>x
 |none=>(.nilIface,cs)
theorem ZbB {cs:List Frame}:(recS cs).2.length=cs.length:=by
 unfold recS;split
 ·rename_i x hx;exact recoverD_length (v:=x.1) (cs':=x.2) hx
 ·rfl
theorem Z3S (H:Fence.Open F) (l:F.round=none) {id t:Nat} {ops:Array Oper} {o:Oper} {rest:List Oper} (g:ops.toList=o::rest) {c:Call} (O:o.op=.call c) (hc:c.callee=.builtin .recover) (J:o.dst=some t) (E:o.guard=none)
  {Q:Exit->Act->List Frame->World->Prop} {a:Act} {cs:List Frame} {w:World}
  (h:wpListIn F n P ops (λe A w'=>Q e A (recS cs).2 w') rest (a.put (some t) (recS cs).1) w):(Code.region id ops false).wpSIn F n P Q a cs w:=by
 intro b k I y r d;have hsz:ops.size=rest.length+1:=by rw[<- Array.length_toList,g];rfl
 have u:ops[0]? = some o:=by rw[<- Array.getElem?_toList,g];rfl
 have i:List.range ops.size=0::List.range' 1 rest.length:=by
  rw[hsz,List.range_eq_range',List.range'_succ]
 have q:(execOp a.eval o).run P w=.ok .recover w:=by
  simp[execOp,O,hc,resolve,invoke,builtin]
 have S:Region.wanted o (yielded ops a.tmps)=true:=Z04 E _;have h0:(lone (b.atR a (.inRegion ops (0::List.range' 1 rest.length)::k)) cs w).fenced P F:=fenced_oper r d u (λf _=>H.fn f);have G:=stepGR_op (P:=P) (b:=b) (a:=a) (k:=k) (cs:=cs) (w:=w) (rest:=List.range' 1 rest.length) u S;rw[y,Oper.semAt_none] at G;have C: ∀ v,(b.atR a (.inRegion ops (0::List.range' 1 rest.length)::k)).finish v=b.atR (a.put o.dst v) (.inRegion ops (List.range' 1 rest.length)::k):=by
  intro v;rw[Frame.finish_atR,u];rfl
 have M:(b.atR a (.inRegion ops (0::List.range' 1 rest.length)::k)).kind=.deferred:=I;have z:=tryRecover_deferred M cs;have m:=ZbB (cs:=cs);have hl:wpOpsIn F n P ops (λe A w'=>Q e A (recS cs).2 w') (List.range' 1 rest.length) (a.put (some t) (recS cs).1) w:=by
  rw[wpOpsIn_eq_wpListIn rest 1 (λj=>by
   rw[<- Array.getElem?_toList,g,Nat.add_comm];rfl)]
  exact h
 obtain⟨e,A,w',R,B⟩:=wp_opsIn (F:=F) (n:=n) _ _ _ hl b k (recS cs).2 (y.trans l.symm) r (by rw[m];exact d);refine⟨e,A,(recS cs).2,w',m,R,.of_steps (.head (fenced_calm r d rfl) stepR_region ?_) B⟩;rw[i];refine .one h0 (step_lone_go ?_);rw[G,<- J,<- C];simp only[Frame.atR,y] at z ⊢;unfold recS;cases p:recoverD cs with
 |none=>simp[stepG.apply,q,z,p]
 |some x=>simp[stepG.apply,q,z,p]
def takes (P:Program):List Nat->World->World->Prop
 |[],w,w'=>w=w'
 |b::c,w,w'=>∃ a,(Instr.takeDeferred b).run P w=.ok [] a/\takes P c a w'
theorem Z1q: ∀ (a:List Nat) (w w':World) (fr:Frame) (cs:List Frame),fr.mode≠ .run->fr.defers=a.map mkd->F.fn fr.fn->F.room (cs.length+1+n)->takes P a w w' →
  StepsIn (Machine.fenced P F) P (lone fr cs w) (lone {fr with defers:=[]} cs w')
 |[],w,w',fr,cs,_,c,_,_,f=>by
  cases f;have:{fr with defers:=[]}=fr:=by rw[show ([]:List Deferred)=fr.defers from c.symm]
  rw[this];exact StepsIn.refl _
 |b::a,w,w',fr,cs,hm,c,d,hr,⟨i,h1,h2⟩=>by
  have s1:=step_collected (cs:=cs) hm c rfl h1;have h:(lone fr cs w).fenced P F:=fenced_out d hr hm c (λg e=>by simp[mkd,Target.leads] at e)
  have:=Z1q a i w' {fr with defers:=[]++a.map mkd} cs hm rfl d hr h2;exact .head h s1 this
def Z29 (P:Program) (fn:Func) (c:Frame) (cs:List Frame) (R:Ending->FrameMode->World->Prop):Exit->Act->List Frame->World->Prop:=λe a cs' w =>
 (e=.normal\/e=.ret)/\ ∃ f d,a.defers=f.map mkd/\takes P f w d/\ ∃ g,cs'={c with mode:=g}::cs/\ ∃ v,(results fn a.tmps).run P d=.ok v d/\R (.returned v) g d
theorem Z2s {f:FuncId} {fn:Func} {c:Code} {args:Array Value} {u:FrameMode} {w:World} {R:Ending->FrameMode->World->Prop}
  (hf:P.funcs[f]? = some fn) (z:fn.body=some c) (k:F.fn f)
  (h: ∀ (a:Frame) (cs:List Frame),a.mode=u →
   c.wpSIn F n P (Z29 P fn a cs R) {tmps:=args++Array.replicate (fn.ntmps-args.size) undef,defers:=[]} (a::cs) w) :
  CallsDIn F n P f args u w R:=by
 refine⟨k,λa cs C d=>?_⟩;let b:Frame:={(default:Frame) with fn:=f,kind:=.deferred,roundOf:=none};have j:Frame.enter P f args .deferred =
   b.atR {tmps:=args++Array.replicate (fn.ntmps-args.size) undef,defers:=[]} [.code c]:=by
  simp[Frame.enter,Frame.atR,hf,z,b]
 obtain⟨e,r,cs',w',hl,B,i⟩:=h a cs C b [] rfl rfl k d;rw[<- j] at i;obtain⟨A,y,q,l,m,p,rfl,v,hr,x⟩:=B;have g:F.room (({a with mode:=p}::cs:List Frame).length+1+n):=d;rcases A with rfl|rfl
 ·have t:=Z1q (P:=P) (F:=F) (n:=n) y w' q {b.atR r [] with mode:=.returning} ({a with mode:=p}::cs) (by simp) l k g m;exact⟨.returned v,p,q,_,x,(StepsIn.trans i (.one (fenced_calm (fr:=b.atR r []) k d rfl) (stepR_end rfl))).trans t,rfl,rfl,rfl,rfl,fn,hf,hr⟩
 ·obtain⟨o,hs⟩:=i.1 rfl;have t:=Z1q (P:=P) (F:=F) (n:=n) y w' q {b.atR r o with mode:=.returning} ({a with mode:=p}::cs) (by simp) l k g m;exact⟨.returned v,p,q,_,x,StepsIn.trans hs t,rfl,rfl,rfl,rfl,fn,hf,hr⟩
def recM:FrameMode->Value × FrameMode
 |.panicking (⟨v,false,false⟩::a)=>(v,.panicking ({v,recovered:=true}::a))
 |u=>(.nilIface,u)
theorem Zfp (a:Frame) (cs:List Frame):recS (a::cs)=((recM a.mode).1,{a with mode:=(recM a.mode).2}::cs):=by
 obtain⟨fn,tmps,d,defers,mode,kind,f⟩:=a;cases mode with
 |panicking e =>
  cases e with
  |nil=>rfl
  |cons p c =>
   obtain⟨v,r,g⟩:=p;cases r<;>cases g<;>rfl
 |run=>rfl
 |returning=>rfl
def CallD (P:Program) (u:FrameMode) (d:D) (ob:Obs) (R:FrameMode->Obs->Prop):Prop :=
 ∀ (F:Fence) (_:Fence.Open F) (_:F.round=none) (n:Nat) (φ:Mem) (h:Nat->Value) (w:World) (g:FuncId) (va vc:Array Value),Loc (λ_=>True) ob φ h w->RV φ h (.func (.func g) va vc) d →
  CallsDIn F n P g (va++vc) u w (λe a w'=>∃ v ob' φ' h',e=.returned v/\R a ob'/\After ob φ h w ob' φ' h' w')
theorem Z54 {N:Nat} {hi:Hints} {a b:Code} {g c:SC} (hc:ZK P N hi (.seq a b)=some (.seq g c)):ZK P N hi a=some g/\(ZK P N hi b=some c\/ ∃ ts e,c=.seq (.spec (.frg ts)) e/\ZK P N hi b=some e):=by
 simp only[ZK] at hc;split at hc
 ·rename_i h d ha f;split at hc
  ·cases hc;exact⟨ha,.inl f⟩
  ·rename_i ts _;cases hc;exact⟨ha,.inr ⟨ts,d,rfl,f⟩⟩
 ·cases hc
theorem Z3L {N:Nat} {hi:Hints} {c:Code} {f i:SC} (hc:ZK P N hi c=some (.seq f i)): ∃ a b,c=.seq a b:=by
 cases c with
 |seq a b=>exact⟨a,b,rfl⟩
 |region id ops e =>
  simp only[ZK] at hc;split at hc
  ·split at hc
   ·obtain⟨_,_,_,_,⟨_,_,h⟩|h⟩:=Z34 hc<;>cases h
   ·cases hc
  ·split at hc
   ·split at hc
    ·split at hc
     ·split at hc<;>cases hc
     ·cases hc
    ·cases hc
   ·cases hc
 |cond x a b=>simp only[ZK] at hc;split at hc<;>cases hc
 |block id c=>simp only[ZK] at hc;cases d:ZK P N hi c<;>rw[d] at hc<;>cases hc
 |loop c=>simp only[ZK] at hc;cases d:ZK P N hi c<;>rw[d] at hc<;>cases hc
 |rangeFunc g ps a b=>simp only[ZK] at hc;split at hc<;>cases hc
 |_=>cases hc
theorem Z3A [CodesOf P] (Z5:DrawSound P) (j:Fence.Open F) {hi:Hints} {c:Code} {f:SC} {cx:Cx} {ds:List Deferred} (hc:ZK P cx.N hi c=some f\/ ∃ ts a,f=.seq (.spec (.frg ts)) a/\ZK P cx.N hi c=some a) (d:GlobC cx.φ0 cx.w0 cx.Z) (e:InRound F cx)
  {Q:Exit->St->Prop} {s:St} {φ:Mem} {h:Nat->Value} {tmps:Array Value} {w:World} (hm:Mod cx s φ h tmps w) (hs:sw P cx.bs f Q s):c.wpIn F n P (PostM cx ds Q) ⟨tmps,ds⟩ w:=by
 rcases hc with hc|⟨ts,a,rfl,hc⟩
 ·exact Z1b (n:=n) Z5 j c f hc cx ds rfl rfl d e Q s φ h tmps w hm hs
 ·obtain⟨φ2,k,g⟩:=hm.canonM ts;have i:sw P cx.bs a Q (s.canon cx.bs ts):=hs;exact Z1b (n:=n) Z5 j c a hc cx ds rfl rfl d e Q _ φ2 k tmps w g i
theorem Z26 {N:Nat} {hi:Hints} {c:Code} {k:Sp} (hc:ZK P N hi c=some (.spec k)): ∃ id ops,c=.region id ops false/\Z0M P N hi ops=some k:=by
 cases c with
 |region id ops e =>
  simp only[ZK] at hc;split at hc
  ·rename_i j i;split at hc
   ·obtain⟨_,_,_,_,⟨_,_,h⟩|h⟩:=Z34 hc<;>cases h
   ·rename_i f;cases hc;exact⟨id,ops,by simp at f;rw[f],i⟩
  ·split at hc
   ·split at hc
    ·split at hc
     ·split at hc<;>cases hc
     ·cases hc
    ·cases hc
   ·cases hc
 |seq a b =>
  simp only[ZK] at hc;split at hc
  ·split at hc<;>cases hc
  ·cases hc
 |cond x a b=>simp only[ZK] at hc;split at hc<;>cases hc
 |block id c=>simp only[ZK] at hc;cases d:ZK P N hi c<;>rw[d] at hc<;>cases hc
 |loop c=>simp only[ZK] at hc;cases d:ZK P N hi c<;>rw[d] at hc<;>cases hc
 |rangeFunc g ps a b=>simp only[ZK] at hc;split at hc<;>cases hc
 |_=>cases hc
theorem Z80 {N:Nat} {hi:Hints} {ops:Array Oper} {t:Nat} {sops:List SOp} (hc:Z0M P N hi ops=some (.rcv t sops)): ∃ o rest c,ops.toList=o::rest/\o.op=.call c/\c.callee=.builtin .recover/\o.dst=some t/\o.guard=none ∧
  rest.mapM (λo=>Z01 P hi.bt (hi.fz (o.dst.getD 0)) ops o)=some sops/\QW N ops=true/\t<N:=by
 unfold Z0M at hc;split at hc
 ·split at hc
  ·split at hc<;>cases hc
  ·cases hc
 ·split at hc
  ·split at hc
   ·split at hc<;>cases hc
   ·cases hc
  ·split at hc
   ·split at hc
    ·split at hc<;>cases hc
    ·cases hc
   ·split at hc
    ·rename_i e rest hr;split at hc
     ·rename_i d hs;split at hc
      ·rename_i a;cases hc;simp only[Bool.and_eq_true,decide_eq_true_eq] at a;unfold Zi9 at hr;split at hr
       ·rename_i heq;cases hr;exact⟨_,_,_,heq,rfl,rfl,rfl,rfl,hs,a.1,a.2⟩
       ·cases hr
      ·cases hc
     ·cases hc
    ·split at hc
     ·split at hc
      ·split at hc<;>cases hc
      ·cases hc
     ·cases hc
theorem Z82 {N:Nat} {hi:Hints} {ops:Array Oper} {g:X} {sops:List SOp} (hc:Z0M P N hi ops=some (.dfr sops g)): ∃ init o c x,ops.toList=init++[o]/\o.op=.defer c/\c.callee=.value x/\c.args=#[]/\o.dst=none/\o.guard=none/\Qa x=some g ∧
  init.mapM (λo=>Z01 P hi.bt (hi.fz (o.dst.getD 0)) ops o)=some sops/\QW N ops=true:=by
 unfold Z0M at hc;split at hc
 ·split at hc
  ·split at hc<;>cases hc
  ·cases hc
 ·split at hc
  ·split at hc
   ·split at hc<;>cases hc
   ·cases hc
  ·split at hc
   ·rename_i x hx;split at hc
    ·rename_i i f e hs;split at hc
     ·rename_i h;cases hc;unfold Zjs at hx;split at hx
      ·rename_i heq;split at hx
       case isFalse=>cases hx
       rename_i d;cases hx;have d:=Array.eq_empty_of_size_eq_zero d;subst d;rcases List.eq_nil_or_concat ops.toList with h0|⟨l,a,h0⟩
       ·rw[h0] at heq;cases heq
       ·rw[List.concat_eq_append] at h0;rw[h0] at heq hs;simp at heq;subst heq;rw[List.dropLast_concat] at hs;exact⟨l,_,_,x,h0,rfl,rfl,rfl,rfl,rfl,e,hs,h⟩
      ·cases hx
     ·cases hc
    ·cases hc
   ·split at hc
    ·split at hc
     ·split at hc<;>cases hc
     ·cases hc
    ·split at hc
     ·split at hc
      ·split at hc<;>cases hc
      ·cases hc
     ·cases hc
end
end Go.Sx
namespace Go.Sx
open Go.RowKit
variable [Globs] [Codes]
section
variable {F:Fence} {n:Nat} {P:Program}
theorem Z4A {cx:Cx} {s:St} {φ:Mem} {h:Nat->Value} {tmps:Array Value}: ∀ (e:List Nat) (w:World),(e.Nodup/\ ∀ b∈e,cx.kp b=none/\cx.w0.heap.size<=b)->Mod (cx.more e) s φ h tmps w-> ∃ f,takes P e w f/\Mod cx s φ h tmps f
 |[],w,_,hm=>by rw[Cx.more_nil] at hm;exact⟨w,rfl,hm⟩
 |b::e,w,j,hm=>by
  obtain⟨a,d⟩:=j;rw[List.nodup_cons] at a;obtain⟨k,l,g⟩:=And.intro a.1 (d b (by simp));obtain⟨h1,i⟩:=hm.unmark k l g;obtain⟨f,m,o⟩:=Z4A e _ ⟨a.2,λc hc=>d c (List.mem_cons_of_mem _ hc)⟩ i;exact⟨f,⟨_,run_takeDeferred h1,m⟩,o⟩
theorem CallD.fn [CodesOf P] (Z5:DrawSound P) {g:FuncId} {N t:Nat} {ops:List SOp} {sb:SC} (hf:FnC P g N (.seq (.spec (.rcv t ops)) sb) []) {first caps:List D} {ob:Obs} (k:Nat) (hk:Obs.top ob<=k) (hlen:(first++caps).length<=N) {u:FrameMode} (B:(recM u).1.oneCell'=true) {R:FrameMode->Obs->Prop}
  (hst:stps P (St.nx ⟨(t,.raw (recM u).1)::Za t (Zu 0 (first++caps)),ob⟩ k) ops ⟨(t,.raw (recM u).1)::Za t (Zu 0 (first++caps)),ob⟩
   λs1=>sw P k sb (λe s=>(e=.normal\/e=.ret)/\RetL k (λ_ ob'=>R (recM u).2 ob') s (.tuple [])) s1) :
  CallD P u (.func (.func g) first caps) ob R:=by
 intro F H a n φ h w g' va vc hp hrv;obtain⟨va',vc',hve,ha,hc,I,M⟩:=func_inv hrv;cases hve;obtain⟨fn,c,hi,W,r,hN,m,C⟩:=hf.ex;obtain⟨ca,cb,rfl⟩:=Z3L m;obtain⟨O,S⟩:=Z54 m;obtain⟨id,ops0,rfl,hsp⟩:=Z26 O;obtain⟨o,rest,c,q,ho,hcal,y,X,A,T,ht⟩:=Z80 hsp;have p:RVL φ h (va++vc).toList (first++caps):=by
  rw[Array.toList_append];exact QD (ZB _ _ (by simpa using ha) λj d x=>by have:=I j d x;simpa [Array.getD_eq_getD_getElem?,List.getD] using this)
   (ZB _ _ (by simpa using hc) λj d x=>by have:=M j d x;simpa [Array.getD_eq_getD_getElem?,List.getD] using this)
 have hsz:(va++vc).size<=N:=by
  have:=p.length;simp only[Array.length_toList] at this;omega
 refine Z2s W r (H.fn g) λf cs hu=>?_;rw[hN];have hm0:=hp.enter (N:=N) (k:=k) (kp:=λ_=>none) (vs:=(va++vc)++Array.replicate (N-(va++vc).size) Go.undef) (by rw[Array.size_append,Array.size_replicate];omega) (λt d x=>Z30 p t d x) (ob1:=ob) (λ_ _ h=>h) (λ_ _ h=>by cases h);have hm1:=(hm0.setTmp ht (d:=.raw (recM u).1) (v:=(recM u).1) (.pure (.raw _ B))).weaken (s':=⟨(t,.raw (recM u).1)::Za t (Zu 0 (first++caps)),ob⟩) (λi d hi=>by simp only[ZN] at hi;exact hi) (λ_ _ h=>h);refine wpSIn_seq (Z3S H a q ho hcal y X ?_);rw[Zfp,hu];have hro:InRound F {N,w0:=w,φ0:=φ,Z:=ZOf ob h,bs:=k,h0:=h,kp:=λ_=>none}:=λl hl=>by rw[a] at hl;cases hl
 have key:=Z1r (n:=n) (F:=F) (ds:=[]) (cx:={N,w0:=w,φ0:=φ,Z:=ZOf ob h,bs:=k,h0:=h,kp:=λ_=>none}) (rest:=[]) (Nat.le_max_left k _) hp.glob H
  (Y:=λe a' w'=>Exit.thenS (cb.wpSIn F n P (Z29 P fn f cs λe u' w'=>∃ v ob' φ' h',e=.returned v/\R u' ob'/\After ob φ h w ob' φ' h' w')) (Z29 P fn f cs λe u' w'=>∃ v ob' φ' h',e=.returned v/\R u' ob'/\After ob φ h w ob' φ' h' w') e a' ({f with mode:=(recM u).2}::cs) w')
  (K:=λs1=>sw P k sb (λe s=>(e=.normal\/e=.ret)/\RetL k (λ_ ob'=>R (recM u).2 ob') s (.tuple [])) s1)
  (λs1 φ1 h1 tm w1 hm hk'=>?_) rest ops A (λo' ho'=>Q5 T o' (by rw[q];exact List.mem_cons_of_mem _ ho')) _ φ h _ w hm1 hst
 ·rw[List.append_nil] at key;exact key
 ·show cb.wpSIn F n P _ ⟨tm,[]⟩ _ w1;refine wpSIn_of_wpIn a (wpIn_mono (Z3A (n:=n) (ds:=[]) (cx:={N,w0:=w,φ0:=φ,Z:=ZOf ob h,bs:=k,h0:=h,kp:=λ_=>none}) Z5 H S hp.glob hro hm hk') ?_);rintro e ⟨tm2,df⟩ w2 ⟨ms,hnd,U,s2,φ2,h2,⟨he,hR⟩,hm2⟩;obtain⟨w3,htk,z⟩:=Z4A (P:=P) ms w2 hnd hm2;obtain⟨v,E,G⟩:=Z5C C (ds:=[]) rfl z;obtain⟨h3,_,J⟩:=z.leave rfl rfl rfl rfl rfl hp.glob hk G;exact⟨he,ms,w3,by simpa using U,htk,_,rfl,v,E,v,_,φ2,h3,rfl,hR,J⟩
theorem Mod.rebase {cx:Cx} {s:St} {φ:Mem} {h:Nat->Value} {tmps:Array Value} {w:World} (hm:Mod cx s φ h tmps w) (k2:Nat):Mod {cx with bs:=k2,h0:=h,φ0:=φ} s φ h tmps w :=
 ⟨hm.size,hm.tm,hm.mem,λ_ _ _ h=>h,(λb o v h1 h2=>by have a:φ b o=none:=h2;rw[h1] at a;cases a),hm.ob,hm.sep,hm.os,hm.tape,hm.output,hm.grow,hm.one,hm.frame,λ_ _=>rfl,hm.kept⟩
theorem Mod.unbase {cx:Cx} {k2:Nat} {h1:Nat->Value} {φ1:Mem} {s:St} {φ:Mem} {h:Nat->Value} {tmps:Array Value} {w:World} (hm:Mod {cx with bs:=k2,h0:=h1,φ0:=φ1} s φ h tmps w) (d:cx.bs<=k2) (hfix: ∀ i,i<cx.bs->h1 i=cx.h0 i)
  (a: ∀ b o v,cx.φ0 b o=some v->φ1 b o=some v) (c: ∀ b o v,φ1 b o=some v->cx.φ0 b o=none->cx.own b):Mod cx s φ h tmps w :=
 ⟨hm.size,hm.tm,hm.mem,λb o v h=>hm.ext b o v (a b o v h),(λb o v h1 h2=>by
  cases e:φ1 b o with
  |none=>exact hm.new b o v h1 e
  |some u=>exact c b o u e h2),hm.ob,hm.sep,hm.os,hm.tape,hm.output,hm.grow,hm.one,hm.frame,λi hi=>by rw[hm.hfix i (Nat.lt_of_lt_of_le hi d)];exact hfix i hi,hm.kept⟩
def swD (P:Program) (bs:Nat) (Q1:Exit->St->Prop) (KD:D->SC->St->Prop):SC->St->Prop
 |.seq a b,s=>match a with
  |.spec (.dfr ops x)=>stps P (s.nx bs) ops s λs1=>KD (s1.get x) b s1
  |.spec (.frg ts)=>swD P bs Q1 KD b (s.canon bs ts)
  |a=>sw P bs a (thenS (swD P bs Q1 KD b) Q1) s
 |_,_=>False
theorem Z81 {N:Nat} {hi:Hints} {ops:Array Oper} {ts:List Nat} (hc:Z0M P N hi ops=some (.frg ts)):False:=by
 unfold Z0M at hc;split at hc
 ·split at hc
  ·split at hc<;>cases hc
  ·cases hc
 ·split at hc
  ·split at hc
   ·split at hc<;>cases hc
   ·cases hc
  ·split at hc
   ·split at hc
    ·split at hc<;>cases hc
    ·cases hc
   ·split at hc
    ·split at hc
     ·split at hc<;>cases hc
     ·cases hc
    ·split at hc
     ·split at hc
      ·split at hc<;>cases hc
      ·cases hc
     ·cases hc
theorem Z8y [CodesOf P] (Z5:DrawSound P) (hF:Fence.Open F) (u:F.round=none) {hi:Hints} {N bs:Nat} {Q1:Exit->St->Prop} {KD:D->SC->St->Prop} {Y:Exit->Act->World->Prop} (c:Code): ∀ (sc:SC),ZK P N hi c=some sc-> ∀ (cx:Cx) (ds:List Deferred),cx.N=N->cx.bs=bs->GlobC cx.φ0 cx.w0 cx.Z->InRound F cx →
  ∀ (s:St) (φ:Mem) (h:Nat->Value) (tmps:Array Value) (w:World),Mod cx s φ h tmps w->swD P bs Q1 KD sc s →
  (∀ e a w',e≠ .normal->PostM cx ds Q1 e a w'->Y e a w') →
  (∀ (x:Operand) (x':X) (O:Code) (m:SC) (tm:Array Value) (df:List Deferred) (r:World),Qa x=some x'->(ZK P N hi O=some m\/ ∃ ts M,m=.seq (.spec (.frg ts)) M/\ZK P N hi O=some M)->PostM cx ds (λ_ s1=>KD (s1.get x') m s1) .normal ⟨tm,df⟩ r →
   ∃ d,(Deferred.ofValue (Act.eval ⟨tm,df⟩ x) #[]).run P r=.ok d r/\O.wpIn F n P Y ⟨tm,d::df⟩ r)->c.wpIn F n P Y ⟨tmps,ds⟩ w:=by
 induction c with
 |seq a b iha ihb =>
  intro sc hc cx ds hN p t H s φ h tmps w hm hs h1 h2;have hsc: ∃ J m,sc=.seq J m:=by
   simp only[ZK] at hc;split at hc
   ·split at hc
    ·cases hc;exact⟨_,_,rfl⟩
    ·cases hc;exact⟨_,_,rfl⟩
   ·cases hc
  obtain⟨J,m,rfl⟩:=hsc;obtain⟨G,S⟩:=Z54 hc;have g:sw P bs J (thenS (swD P bs Q1 KD m) Q1) s->(Code.seq a b).wpIn F n P Y ⟨tmps,ds⟩ w:=λhs=>by
   refine wpIn_seq (wpIn_mono (Z1b (n:=n) Z5 hF a J G cx ds hN p t H _ s φ h tmps w hm hs) ?_);rintro e ⟨tm,df⟩ w' ⟨q,l,U,s',φ',h',B,j⟩;simp only at U;subst U;have R: ∀ (z:SC),ZK P N hi b=some z-> ∀ (y:St) (φ'':Mem) (C:Nat->Value),Mod (cx.more q) y φ'' C tm w'->swD P bs Q1 KD z y->b.wpIn F n P Y ⟨tm,q.map mkd++ds⟩ w':=λz hb' y φ'' C hm'' hs'' =>
    ihb z hb' (cx.more q) (q.map mkd++ds) hN p t (H.more q) y φ'' C tm w' hm'' hs''
     (λe a w' he hp=>h1 e a w' he (hp.after l))
     (λx x' O m tm df r q1 q2 q3=>h2 x x' O m tm df r q1 q2 (q3.after l))
   cases e with
   |normal =>
    simp only[thenS] at B;simp only[Exit.then];rcases S with hb|⟨ts,M,rfl,hb⟩
    ·exact R m hb s' φ' h' j B
    ·obtain⟨φ2,hk,hmk⟩:=j.canonM ts;have hq':swD P bs Q1 KD M (s'.canon bs ts):=B;subst p;exact R M hb _ φ2 hk hmk hq'
   |ret=>exact h1 _ _ _ (by simp) ⟨q,l,rfl,s',φ',h',B,j⟩
   |exit i=>exact h1 _ _ _ (by simp) ⟨q,l,rfl,s',φ',h',B,j⟩
   |goto i=>exact h1 _ _ _ (by simp) ⟨q,l,rfl,s',φ',h',B,j⟩
   |panic i=>exact h1 _ _ _ (by simp) ⟨q,l,rfl,s',φ',h',B,j⟩
   |outgrown=>exact h1 _ _ _ (by simp) ⟨q,l,rfl,s',φ',h',B,j⟩
  cases J with
  |spec k =>
   cases k with
   |dfr ops x =>
    obtain⟨id,ops0,rfl,I⟩:=Z26 G;obtain⟨init,o,c0,x0,A,ho,hcal,E,W,hgd,hx,hmap,hdd⟩:=Z82 I;refine wpIn_seq (wpIn_region_list ?_);rw[A];have T:=Q5 hdd;subst hN;subst p;refine Z1r (n:=n) (F:=F) (cx:=cx) (ds:=ds) (Nat.le_max_left cx.bs _) t hF (K:=λs1=>KD (s1.get x) m s1) (rest:=[o]) (λs1 φ1 h1' tm r hm1 hk=>?_) init ops hmap (λo' ho'=>T o' (by rw[A];simp[ho'])) s φ h tmps w hm hs;obtain⟨d,hd,hw⟩:=h2 x0 x b m tm ds r hx S (PostM.of (Q:=λ_ s1=>KD (s1.get x) m s1) hk hm1);unfold wpListIn;rw[if_pos (Z04 hgd _)];refine⟨λf _=>hF.fn f,?_⟩;rw[u,Oper.semAt_none];have hrun:(execOp (Act.eval ⟨tm,ds⟩) o).run P r=.ok (.defer d) r:=by
     simp only[execOp,ho,resolve,hcal,E,Array.map_empty,Sem.run_bind,hd,Result.andThen_ok];rfl
    rw[hrun,Oper.uponIn_defer,W];exact hw
   |frg ts =>
    obtain⟨id,ops0,rfl,I⟩:=Z26 G;exact (Z81 I).elim
   |rng _ _ _=>exact g hs
   |nxt _ _ _=>exact g hs
   |rcv _ _=>exact g hs
   |pan _=>exact g hs
   |ord _ _=>exact g hs
  |_=>exact g hs
 |_ =>
  intro sc hc cx ds hN p t H s φ h tmps w hm hs;cases sc with
  |seq J m =>
   obtain⟨a,b,e⟩:=Z3L hc;cases e
  |_=>exact hs.elim
def DQ (P:Program) (k k2:Nat) (rs:List SR) (cl:D) (R:D->Obs->Prop) (u:FrameMode) (a:St):Prop:=∃ nm Rd base,nm.Nodup/\(∀ i∈nm,(lk a.ob i).isSome)/\k2<=base/\a.top<=base/\CallD P u (cl.ren (idx · nm)) (Q4 a.ob (idx · nm) 0 nm) Rd ∧
 ∀ c ob',Rd c ob'->settle c=.returning/\ ∃ ds,rs.mapM (resD (a.back base nm ob'))=some ds/\RetL k R (a.back base nm ob') (Z0C ds)
def DefQ (P:Program) (k k2:Nat) (rs:List SR) (cl:D) (R:D->Obs->Prop):Exit->St->Prop:=λe a=>match e with
 |.normal=>DQ P k k2 rs cl R .returning a
 |.ret=>DQ P k k2 rs cl R .returning a
 |.panic c=>DQ P k k2 rs cl R (.panicking c) a
 |_=>False
def KDef (P:Program) (k:Nat) (rs:List SR) (R:D->Obs->Prop):D->SC->St->Prop:=λcl c s1=>∃ g fa a k2,cl=.func (.func g) fa a/\QE P g=true/\s1.top<=k2/\k<=k2/\D.top cl<=k2/\sw P k2 c (DefQ P k k2 rs cl R) s1
theorem CallL.fnD [CodesOf P] (Z5:DrawSound P) {f:FuncId} {N:Nat} {sc:SC} {rs:List SR} (hf:FnC P f N sc rs) (hpf:QE P f=true) {first caps args:List D} {ob:Obs} {R:D->Obs->Prop} (k:Nat) (hk:Obs.top ob<=k)
  (hlen:(first++args++caps).length<=N)
  (hsw:swD P k (EndQ rs (RetL k R)) (KDef P k rs R) sc ⟨Zu 0 (first++args++caps),ob⟩):CallL P (.func (.func f) first caps) args ob R:=by
 intro F hF n φ h w v vs hp hv hvs;obtain⟨va,vc,rfl,ha,hc,ha',hc'⟩:=func_inv hv;rw[Q6 hpf];show CallsIn F n P f (va++vs++vc) w _;have S:RVL φ h (va++vs++vc).toList (first++args++caps):=by
  rw[Array.toList_append,Array.toList_append];exact QD (QD (ZB _ _ (by simpa using ha) λj d hd=>by have:=ha' j d hd;simpa [Array.getD_eq_getD_getElem?,List.getD] using this) hvs)
   (ZB _ _ (by simpa using hc) λj d hd=>by have:=hc' j d hd;simpa [Array.getD_eq_getD_getElem?,List.getD] using this)
 have hsz:(va++vs++vc).size<=N:=by
  have:=S.length;simp only[Array.length_toList] at this;omega
 refine hF.calls (callsIn_wide (n:=0).1 ?_) n;have hm':=hp.enter (N:=N) (k:=k) (kp:=λ_=>none) (vs:=(va++vs++vc)++Array.replicate (N-(va++vs++vc).size) Go.undef) (by rw[Array.size_append,Array.size_replicate];omega) (λt d hd=>Z30 S t d hd) (ob1:=ob) (λ_ _ h=>h) (λ_ _ h=>by cases h);obtain⟨fn,c,hi,hfn,W,hN,Y,hres⟩:=hf.ex;have hW:=Z2M;refine callsIn_of_wp_marks hfn W (hW.fn f) ?_ rfl;rw[hN];obtain⟨cx,z⟩: ∃ cx:Cx,cx={N,w0:=w,φ0:=φ,Z:=ZOf ob h,bs:=k,h0:=h,kp:=λ_=>none}:=⟨_,rfl⟩;rw[<- z] at hm';have U:GlobC cx.φ0 cx.w0 cx.Z:=by rw[z];exact hp.glob
 have hroc:InRound Fence.wide cx:=λl hl=>by cases hl
 have hbsc:cx.bs=k:=by rw[z]
 have hNc:cx.N=N:=by rw[z]
 have leave: ∀ {s':St} {φ':Mem} {h':Nat->Value} {tm:Array Value} {w':World},Mod cx s' φ' h' tm w'-> ∀ {v:Value} {r:D},RV φ' h' v r-> ∃ h2,RV φ' h2 v ((s'.fin k r).get (.t 0))/\After ob φ h w (s'.fin k r).ob φ' h2 w':=λhm v r hv=>by
  subst z;exact hm.leave rfl rfl rfl rfl rfl hp.glob hk hv
 have p: ∀ {s':St} {φ':Mem} {h':Nat->Value} {tm:Array Value} {ds:List D},rs.mapM (resD s')=some ds->RetL k R s' (Z0C ds)-> ∀ w',Mod cx s' φ' h' tm w'-> ∃ v,(results fn tm).run P w'= .ok v w'/\Post ob φ h w R (.returned v) w':=λ{s' φ' h' tm ds} B hR w' hm=>by
  obtain⟨v,hrun,hrv⟩:=Z5C hres B hm;obtain⟨h2,q1,q2⟩:=leave hm hrv;exact⟨v,hrun,.ret hR q1 q2⟩
 refine Z8y (n:=0) Z5 hW rfl c sc Y cx [] hNc hbsc U hroc _ φ h _ w hm' hsw ?_ ?_
 ·-- no deferred call
  rintro e ⟨tm,df⟩ w' hne ⟨a,J,A,s',φ',h',y,I⟩;simp only[List.append_nil] at A;subst A;cases e with
  |normal=>exact absurd rfl hne
  |ret=>obtain⟨ds,B,hK⟩:=y;exact Z0f (λw' hm=>p B hK w' hm) a w' J I
  |panic c =>
   obtain⟨v,rfl,hK⟩:=y
   have:=QZ (F:=Fence.wide) (n:=0) (P:=P) (fn:=fn) (tmps:=tm) (R:=Post ob φ h w R) (u:=.panicking [{v,recovered:=false}]) (dd:=[]) (by simp)
    (λw' hm=>by
     obtain⟨h2,q1,q2⟩:=leave hm (.undef Go.undef);exact⟨_,_,φ',h2,.inr ⟨v,rfl,rfl⟩,hK,q2⟩) a w' J I
   show LeavesInM Fence.wide 0 P fn tm _ (a.map mkd) _ w';rw[List.append_nil] at this;exact this
  |exit _=>exact y.elim
  |goto _=>exact y.elim
  |outgrown=>exact y.elim
 ·-- the deferred call is noted
  rintro x x' cb sb tm df w1 hx hcb ⟨a,J,A,s1,φ1,h1,⟨g,fa,fc,k2,X,hpg,ht1,hk2,ht2,hsb⟩,q⟩;simp only[List.append_nil] at A;subst A;have m:GlobC (cx.more a).φ0 (cx.more a).w0 (cx.more a).Z:=U;have M:=q.get m (ds:=a.map mkd) hx;rw[X] at M;obtain⟨wa,wc,hve,_,_,_,_⟩:=func_inv M;refine⟨{target:=.fn (.func g) wc,args:=wa++ #[]},by rw[hve];exact Sem.run_pure _ _ _,?_⟩;rw[hve] at M;have E:GlobC φ1 (cx.more a).w0 (cx.more a).Z:=⟨λg cs hg=>(m.ok g cs hg).mono q.ext,m.x,m.i⟩;have hmB:=q.rebase k2;rw[<- hNc] at hcb;refine wpIn_mono (Z3A (n:=0) (F:=Fence.wide) (ds:={target:=.fn (.func g) wc,args:=wa++ #[]}::a.map mkd) (cx:={cx.more a with bs:=k2,h0:=h1,φ0:=φ1}) Z5 hW hcb E (λl hl=>by cases hl) hmB hsb) ?_;rintro e ⟨O,df2⟩ w2 ⟨ms2,hnd2,T,s2,φ2,h2,y,I⟩;simp only at T;subst T
  -- the closure,as it is at the end
  have C: ∀ {u:FrameMode},u≠ .run->DQ P k k2 rs (s1.get x') R u s2->LeavesInM Fence.wide 0 P fn O (Post ob φ h w R) (ms2.map mkd++{target:=.fn (.func g) wc,args:=wa++ #[]}::a.map mkd) u w2:=λ{u} hu hD=>by
   obtain⟨nm,Rd,base,d1,d2,d3,d4,d5,d6⟩:=hD;refine QZ (F:=Fence.wide) (n:=0) (P:=P) (fn:=fn) (tmps:=O) (R:=Post ob φ h w R) hu (λw3 G=>?_) ms2 w2 hnd2 I;have hfx: ∀ i,i<k2->h2 i=h1 i:=λi hi=>G.hfix i hi;have hmono: ∀ b o v,φ1 b o=some v->φ2 b o=some v:=G.ext;have hv2:RV φ2 h2 (.func (.func g) wa wc) (s1.get x'):=by
    rw[X];exact (M.mono hmono).under (n:=k2) (by rw[<- X];exact ht2) hfx
   have H:=d5 Fence.wide hW rfl 0 φ2 (hcal h2 nm) w3 g wa wc (G.loc (G.glob E) d1) (Z1d hv2);refine⟨hu,.inr ⟨(λhd=>by cases hd),.func g,wc,g,wa++ #[]++wc,rfl,?_,λ_ _=>trivial,?_⟩⟩
   ·obtain⟨fn',hf',hb',hn'⟩:=Z1e hpg;simp only[invoke,Sem.run_bind,Sem.run_pure,Result.andThen_ok,callFunc,run_program,hf',hn',hb',Bool.false_eq_true,if_false]
   ·rw[Array.append_empty];refine CallsDIn.mono H ?_;rintro e u' w4 ⟨v,ob',φ',h',rfl,hRd,haft⟩;obtain⟨hset,ds,B,hR⟩:=d6 u' ob' hRd;obtain⟨q6,_⟩:=G.back (base:=base) d3 d4 d1 d2 haft;have hm5:Mod (cx.more a) (s2.back base nm ob') φ' (hbak h2 h' base) O w4:=q6.unbase (by show cx.bs<=k2;omega) (λi hi=>q.hfix i hi) q.ext q.new;show LeavesInM Fence.wide 0 P fn O _ (a.map mkd) (settle u') w4;rw[hset];exact Z0f (λw' hm=>p B hR w' hm) a w4 J hm5
  cases e with
  |normal=>exact C (by simp) y
  |ret=>exact C (by simp) y
  |panic c=>exact C (by simp) y
  |exit _=>exact y.elim
  |goto _=>exact y.elim
  |outgrown=>exact y.elim
end
end Go.Sx
