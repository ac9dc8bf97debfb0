/- Own work: a layer over the kit: plain data,a walk over it,its soundness. -/
import Derived.RangeFuncRecord
import Derived.Test.YtaclfbhhekhflaaGreatDoorSx2
set_option linter.all false
namespace Go.Sx
open Go.RowKit
variable [Globs] [Codes]
structure Fence.Open (F:Fence):Prop where
 fn: ∀ f,F.fn f
 depth:F.depth=none
 calls: ∀ {P f args w R},Calls P f args w R-> ∀ n,CallsIn F n P f args w R
theorem Z2l:Fence.Open Fence.wide:=⟨λ_=>trivial,rfl,λh _=>callsIn_wide.2 h⟩
theorem Fence.Open.inRound {F:Fence} (a:Fence.Open F) (l:Nat):Fence.Open (F.inRound l):=⟨a.fn,a.depth,λh n=>a.calls h n⟩
theorem Fence.Open.room {F:Fence} (a:Fence.Open F) (k:Nat):F.room k:=by
 unfold Fence.room;rw[a.depth];intro d h;cases h
theorem Fence.Open.lessCall {F:Fence} (a:Fence.Open F) {n m:Nat} {P:Program} {f:FuncId} {args:Array Value} {w:World} {R:Ending->World->Prop} (h:CallsIn F n P f args w R):CallsIn F m P f args w R :=
 ⟨h.1,λcs _=>h.2 cs (a.room _)⟩
theorem Fence.Open.lessRound {F:Fence} (d:Fence.Open F) {n m l:Nat} {P:Program} {f:FuncId} {tmps:Array Value} {a b:Code} {w:World} {R:Ending->World->Prop} (h:RoundIn F n P l f tmps a b w R):RoundIn F m P l f tmps a b w R :=
 ⟨h.1,λc cs _=>h.2 c cs (d.room _)⟩
def Z3b (v:Value) (vs:Array Value):Sem Next:=do
 let d ← Deferred.ofValue v vs
 invoke d.target d.args
def DynOut (F:Fence) (n:Nat) (P:Program) (R:Ending->World->Prop):Result Next->Prop
 |.ok (.enter f a) w=>CallsIn F n P f a w R
 |.ok (.round l f t a b) w=>RoundIn F n P l f t a b w R
 |_=>False
mutual
def D.top:D->Nat
 |.ptr j _=>j+1
 |.vec j=>j+1
 |.vptr j _ _ _=>j+1
 |.vwin j _ _=>j+1
 |.map j=>j+1
 |.yld j=>j+1
 |.agg cs=>D.topL cs
 |.tuple cs=>D.topL cs
 |.func _ f c=>max (D.topL f) (D.topL c)
 |_=>0
def D.topL:List D->Nat
 |[]=>0
 |d::r=>max (D.top d) (D.topL r)
end
mutual
theorem D.top_men (i:Nat): ∀ d:D,D.top d<=i->D.men i d=false
 |.ptr j _,h=>by simp only[D.top] at h;simp only[D.men,beq_eq_false_iff_ne];omega
 |.vec j,h=>by simp only[D.top] at h;simp only[D.men,beq_eq_false_iff_ne];omega
 |.vptr j _ _ _,h=>by simp only[D.top] at h;simp only[D.men,beq_eq_false_iff_ne];omega
 |.vwin j _ _,h=>by simp only[D.top] at h;simp only[D.men,beq_eq_false_iff_ne];omega
 |.map j,h=>by simp only[D.top] at h;simp only[D.men,beq_eq_false_iff_ne];omega
 |.yld j,h=>by simp only[D.top] at h;simp only[D.men,beq_eq_false_iff_ne];omega
 |.agg cs,h=>by simp only[D.top] at h;simp only[D.men];exact D.topL_men i cs h
 |.tuple cs,h=>by simp only[D.top] at h;simp only[D.men];exact D.topL_men i cs h
 |.func _ f c,h=>by
  simp only[D.top] at h;simp only[D.men,Bool.or_eq_false_iff];exact⟨D.topL_men i f (by omega),D.topL_men i c (by omega)⟩
 |.undef,_=>rfl
 |.bool _,_=>rfl
 |.int _ _,_=>rfl
 |.str _,_=>rfl
 |.slice _ _,_=>rfl
 |.nilp,_=>rfl
 |.nilf,_=>rfl
 |.fptr _,_=>rfl
 |.raw _,_=>rfl
 |.nils,_=>rfl
 |.own _ _ _,_=>rfl
 |.ifc,_=>rfl
 |.pan _,_=>rfl
theorem D.topL_men (i:Nat): ∀ l:List D,D.topL l<=i->D.menL i l=false
 |[],_=>rfl
 |d::r,h=>by
  simp only[D.topL] at h;simp only[D.menL,Bool.or_eq_false_iff];exact⟨D.top_men i d (by omega),D.topL_men i r (by omega)⟩
end
def Env.top:Env->Nat
 |[]=>0
 |(_,d)::r=>max (D.top d) (Env.top r)
def Obs.top:Obs->Nat
 |[]=>0
 |(i,o)::r=>max (max (i+1) (D.topL o.parts)) (Obs.top r)
theorem Obs.top_men {i:Nat}: ∀ {ob:Obs},Obs.top ob<=i-> ∀ {t o},lk ob t=some o->t<i/\Ob.men i o=false
 |[],_,t,d,hl=>by simp[lk] at hl
 |(j,a)::r,h,t,d,hl=>by
  simp only[Obs.top] at h;simp only[lk] at hl;split at hl
  ·rename_i e;cases hl;exact⟨by omega,D.topL_men i _ (by omega)⟩
  ·exact Obs.top_men (ob:=r) (by omega) hl
theorem RV.congr {φ:Mem} {h h':Nat->Value} {v:Value} {d:D} (r:RV φ h v d):(∀ i,D.men i d=true->h' i=h i)->RV φ h' v d:=by
 have e: ∀ {cs:List D} {j:Nat} {d:D} {i:Nat},cs[j]? = some d->D.men i d=true->D.menL i cs=true:=λ{cs j d i} g hm=>by
  cases q:D.menL i cs with
  |true=>rfl
  |false=>rw[Qk q j d g] at hm;cases hm
 induction r with
 |undef v=>exactλ_=>.undef v
 |pure hr=>exactλ_=>.pure hr
 |agg vs cs hs _ k=>exactλhm=>.agg vs cs hs λj d g=>k j d g λi hi=>hm i (by simpa only[D.men] using e g hi)
 |tuple vs cs hs _ k=>exactλhm=>.tuple vs cs hs λj d g=>k j d g λi hi=>hm i (by simpa only[D.men] using e g hi)
 |ptr id off b hh=>exactλhm=>.ptr id off b (by rw[hm id (by simp[D.men])];exact hh)
 |fptr b off cs vals hm hr=>exactλ_=>.fptr b off cs vals hm hr
 |vec id hl=>intro hm;have:=hm id (by simp[D.men]);rw[<- this] at hl ⊢;exact .vec id hl
 |vptr id a j sz b len cap hsz hh=>exactλhm=>.vptr id a j sz b len cap hsz (by rw[hm id (by simp[D.men])];exact hh)
 |vwin id a sz b len cap p c hsz hh hi hp=>exactλhm=>.vwin id a sz b len cap p c hsz (by rw[hm id (by simp[D.men])];exact hh) hi hp
 |map id hl=>intro hm;have:=hm id (by simp[D.men]);rw[<- this] at hl ⊢;exact .map id hl
 |yld id b hh=>exactλhm=>.yld id b (by rw[hm id (by simp[D.men])];exact hh)
 |func f vf vc df dc hf hc _ _ l m =>
  exactλhm=>.func f vf vc df dc hf hc (λj d g=>l j d g λi hi=>hm i (by simp only[D.men,Bool.or_eq_true];exact .inl (e g hi)))
   (λj d g=>m j d g λi hi=>hm i (by simp only[D.men,Bool.or_eq_true];exact .inr (e g hi)))
theorem RV.under {φ:Mem} {h h':Nat->Value} {v:Value} {d:D} {n:Nat} (r:RV φ h v d) (c:D.top d<=n) (a: ∀ i,i<n->h' i=h i):RV φ h' v d :=
 r.congr λi hi=>a i (Nat.lt_of_not_le λb=>by rw[D.top_men i d (by omega)] at hi;cases hi)
theorem Z3d {n:Nat}: ∀ {cs:List D},D.topL cs<=n-> ∀ {d:D},d∈cs->D.top d<=n
 |[],_,d,a=>by cases a
 |c::cs,h,d,a=>by
  simp only[D.topL] at h;rcases List.mem_cons.1 a with rfl|a
  ·omega
  ·exact Z3d (cs:=cs) (by omega) a
theorem Env.top_get {n:Nat}: ∀ {tm:Env},Env.top tm<=n-> ∀ {t d},lk tm t=some d->D.top d<=n
 |[],_,t,d,hl=>by simp[lk] at hl
 |(j,a)::r,h,t,d,hl=>by
  simp only[Env.top] at h;simp only[lk] at hl;split at hl
  ·cases hl;omega
  ·exact Env.top_get (tm:=r) (by omega) hl
theorem Obs.top_get {n:Nat}: ∀ {ob:Obs},Obs.top ob<=n-> ∀ {t o},lk ob t=some o->t<n/\D.topL o.parts<=n
 |[],_,t,d,hl=>by simp[lk] at hl
 |(j,a)::r,h,t,d,hl=>by
  simp only[Obs.top] at h;simp only[lk] at hl;split at hl
  ·grind
  ·exact Obs.top_get (ob:=r) (by omega) hl
theorem Z08 {α:Type} (a b:List (Nat × α)) (i:Nat):lk (a++b) i=(lk a i).or (lk b i):=by
 induction a with
 |nil=>simp[lk]
 |cons p a c =>
  obtain⟨j,x⟩:=p;simp only[List.cons_append,lk];split
  ·simp
  ·exact c
def ZOf (ob:Obs) (h:Nat->Value) (b:Nat):Prop:=∃ i,(lk ob i).isSome/\blk (h i)=some b
structure Loc (own:Nat->Prop) (ob:Obs) (φ:Mem) (h:Nat->Value) (w:World):Prop where
 one:HOne h
 glob:GlobC φ w (ZOf ob h)
 mem:Sub φ w
 obj: ∀ i o,lk ob i=some o->ObR own φ h w (h i) o
 sep: ∀ i j b,(lk ob i).isSome->(lk ob j).isSome->blk (h i)=some b->blk (h j)=some b->i=j
structure After (ob:Obs) (φ:Mem) (h:Nat->Value) (w:World) (ob':Obs) (φ':Mem) (h':Nat->Value) (w':World):Prop where
 loc:Loc (λb=>w.heap.size<=b\/ZOf ob h b) ob' φ' h' w'
 ext: ∀ b o v,φ b o=some v->φ' b o=some v
 new: ∀ b o v,φ' b o=some v->φ b o=none->w.heap.size<=b\/ZOf ob h b
 frame: ∀ b,b<w.heap.size-> ¬ ZOf ob h b->w'.heap[b]? = w.heap[b]?
 hfix: ∀ i,(lk ob i).isSome->h' i=h i
 os:w'.os=w.os
 tape:w'.tape=w.tape
 output:w'.output=w.output
 grow:w.heap.size<=w'.heap.size
def EndV (φ:Mem) (h:Nat->Value) (e:Ending) (r:D):Prop:=(∃ v,e=.returned v/\RV φ h v r)\/ ∃ v,e=.panicked [{v,recovered:=false}]/\r=.pan v
def Post (ob:Obs) (φ:Mem) (h:Nat->Value) (w:World) (R:D->Obs->Prop) (e:Ending) (w':World):Prop :=
 ∃ r ob' φ' h',EndV φ' h' e r/\R r ob'/\After ob φ h w ob' φ' h' w'
theorem RV.notPan {φ:Mem} {h:Nat->Value} {v a:Value} (r:RV φ h v (.pan a)):False:=by
 cases r with
 |pure r=>cases r
theorem Post.ret {ob:Obs} {φ:Mem} {h:Nat->Value} {w:World} {R:D->Obs->Prop} {w':World} {v:Value} {r:D} {ob':Obs} {φ':Mem} {h':Nat->Value} (a:R r ob') (hv:RV φ' h' v r) (ha:After ob φ h w ob' φ' h' w'):Post ob φ h w R (.returned v) w' :=
 ⟨r,ob',φ',h',.inl ⟨v,rfl,hv⟩,a,ha⟩
theorem Post.dest {ob:Obs} {φ:Mem} {h:Nat->Value} {w:World} {R:D->Obs->Prop} {e:Ending} {w':World} (hp:Post ob φ h w R e w') (c: ∀ r ob',R r ob'->r.isPan=false): ∃ v r ob' φ' h',e=.returned v/\R r ob'/\RV φ' h' v r/\After ob φ h w ob' φ' h' w':=by
 obtain⟨r,ob',φ',h',a,b,ha⟩:=hp;rcases a with⟨v,rfl,hv⟩|⟨v,rfl,rfl⟩
 ·grind
 ·grind [D.isPan]
def CallL (P:Program) (d:D) (args:List D) (ob:Obs) (R:D->Obs->Prop):Prop :=
 ∀ (F:Fence) (_:Fence.Open F) (n:Nat) (φ:Mem) (h:Nat->Value) (w:World) (v:Value) (vs:Array Value),
  Loc (λ_=>True) ob φ h w->RV φ h v d->RVL φ h vs.toList args->DynOut F n P (Post ob φ h w R) ((Z3b v vs).run P w)
theorem DynOut.mono {F:Fence} {n:Nat} {P:Program} {R R':Ending->World->Prop} {r:Result Next} (hr: ∀ e w,R e w->R' e w) (h:DynOut F n P R r):DynOut F n P R' r:=by
 unfold DynOut at h ⊢;split at h
 ·exact CallsIn.mono h hr
 ·exact RoundIn.mono h hr
 ·exact h.elim
theorem CallL.mono {P:Program} {d:D} {args:List D} {ob:Obs} {R R':D->Obs->Prop} (h:CallL P d args ob R) (hr: ∀ r ob',R r ob'->R' r ob'):CallL P d args ob R' :=
 λF c n φ h' w v vs hp hv b=>(h F c n φ h' w v vs hp hv b).mono λ_ _ ⟨r,ob',φ',a,f,e,h2⟩=>⟨r,ob',φ',a,f,hr r ob' e,h2⟩
/- NAMES: at a call the objects at hand get names of their own. -/
def idx (i:Nat):List Nat->Option Nat
 |[]=>none
 |j::r=>if i=j then some 0 else (idx i r).map (· + 1)
theorem Z2M {i:Nat}: ∀ {nm:List Nat} {k:Nat},idx i nm=some k->nm[k]? = some i
 |[],k,h=>by simp[idx] at h
 |j::r,k,h=>by
  simp only[idx] at h;split at h
  ·rename_i e;cases h;simp[e]
  ·cases a:idx i r with
   |none=>rw[a] at h;cases h
   |some q=>rw[a] at h;simp at h;subst h;simpa using Z2M a
/- Names are turned by 'f';what has no new name is no longer known. -/
mutual
def D.ren (f:Nat->Option Nat):D->D
 |.ptr j o=>match f j with|some k=>.ptr k o|none=>.undef
 |.vec j=>match f j with|some k=>.vec k|none=>.undef
 |.vptr j a b c=>match f j with|some k=>.vptr k a b c|none=>.undef
 |.vwin j a b=>match f j with|some k=>.vwin k a b|none=>.undef
 |.map j=>match f j with|some k=>.map k|none=>.undef
 |.yld j=>match f j with|some k=>.yld k|none=>.undef
 |.agg cs=>.agg (D.renL f cs)
 |.tuple cs=>.tuple (D.renL f cs)
 |.func g a c=>.func g (D.renL f a) (D.renL f c)
 |d=>d
def D.renL (f:Nat->Option Nat):List D->List D
 |[]=>[]
 |d::r=>D.ren f d::D.renL f r
end
theorem Qy (f:Nat->Option Nat): ∀ cs:List D,(D.renL f cs).length=cs.length:=by intro cs;induction cs<;>grind [D.renL]
theorem Z1s (f:Nat->Option Nat): ∀ (cs:List D) (j:Nat) (d:D),(D.renL f cs)[j]? = some d-> ∃ d0,cs[j]? = some d0/\d=D.ren f d0:=by intro cs;induction cs<;>grind [D.renL]
theorem RV.ren {φ:Mem} {h h':Nat->Value} {f:Nat->Option Nat} {v:Value} {d:D} (r:RV φ h v d):(∀ i k,f i=some k->D.men i d=true->h' k=h i)->RV φ h' v (D.ren f d):=by
 have e: ∀ {cs:List D} {j:Nat} {d:D} {i:Nat},cs[j]? = some d->D.men i d=true->D.menL i cs=true:=λ{cs j d i} l hm=>by
  cases u:D.menL i cs with
  |true=>rfl
  |false=>rw[Qk u j d l] at hm;cases hm
 induction r with
 |undef v=>exactλ_=>.undef v
 |pure hr=>exactλ_=>by cases hr<;>exact .pure (by constructor<;>assumption)
 |agg vs cs hs _ m =>
  intro hm;refine .agg vs _ (by rw[Qy];exact hs) λj d l=>?_;obtain⟨d0,h0,rfl⟩:=Z1s f cs j d l;exact m j d0 h0 λi k hk hi=>hm i k hk (by simpa only[D.men] using e h0 hi)
 |tuple vs cs hs _ m =>
  intro hm;refine .tuple vs _ (by rw[Qy];exact hs) λj d l=>?_;obtain⟨d0,h0,rfl⟩:=Z1s f cs j d l;exact m j d0 h0 λi k hk hi=>hm i k hk (by simpa only[D.men] using e h0 hi)
 |ptr id off b hh =>
  intro hm;simp only[D.ren];split
  ·rename_i k hk;exact .ptr k off b (by rw[hm id k hk (by simp[D.men])];exact hh)
  ·exact .undef _
 |fptr b off cs vals hm hr=>exactλ_=>.fptr b off cs vals hm hr
 |vec id hl =>
  intro hm;simp only[D.ren];split
  ·rename_i k hk
   have:=hm id k hk (by simp[D.men]);rw[<- this] at hl ⊢;exact .vec k hl
  ·exact .undef _
 |vptr id a j sz b len cap hsz hh =>
  intro hm;simp only[D.ren];split
  ·rename_i k hk;exact .vptr k a j sz b len cap hsz (by rw[hm id k hk (by simp[D.men])];exact hh)
  ·exact .undef _
 |vwin id a sz b len cap p c hsz hh hi hp =>
  intro hm;simp only[D.ren];split
  ·rename_i k hk;exact .vwin k a sz b len cap p c hsz (by rw[hm id k hk (by simp[D.men])];exact hh) hi hp
  ·exact .undef _
 |map id hl =>
  intro hm;simp only[D.ren];split
  ·rename_i k hk
   have:=hm id k hk (by simp[D.men]);rw[<- this] at hl ⊢;exact .map k hl
  ·exact .undef _
 |yld id b hh =>
  intro hm;simp only[D.ren];split
  ·rename_i k hk;exact .yld k b (by rw[hm id k hk (by simp[D.men])];exact hh)
  ·exact .undef _
 |func g vf vc df dc hf hc _ _ q t =>
  intro hm;refine .func g vf vc _ _ (by rw[Qy];exact hf) (by rw[Qy];exact hc) (λj d l=>?_) λj d l=>?_
  ·obtain⟨d0,h0,rfl⟩:=Z1s f df j d l;exact q j d0 h0 λi k hk hi=>hm i k hk (by simp only[D.men,Bool.or_eq_true];exact .inl (e h0 hi))
  ·obtain⟨d0,h0,rfl⟩:=Z1s f dc j d l;exact t j d0 h0 λi k hk hi=>hm i k hk (by simp only[D.men,Bool.or_eq_true];exact .inr (e h0 hi))
def Ob.ren (f:Nat->Option Nat):Ob->Ob
 |.cells cs=>.cells (D.renL f cs)
 |.gen g cs=>.gen g (D.renL f cs)
 |o=>o
theorem Z9v {i:Nat} {cs:List D} {j:Nat} {d:D} (a:cs[j]? = some d) (hm:D.men i d=true):D.menL i cs=true:=by grind [Qk,D.menL]
theorem ObR.ren {own c:Nat->Prop} {φ:Mem} {h h':Nat->Value} {w:World} {hv:Value} {o:Ob} {f:Nat->Option Nat} (l:ObR own φ h w hv o) (a: ∀ b,blk hv=some b->c b) (hm: ∀ i k,f i=some k->Ob.men i o=true->h' k=h i):ObR c φ h' w hv (o.ren f):=by
 cases o with
 |cells cs =>
  obtain⟨b,vals,e,rfl,u,hh,hs,hc,q⟩:=l;refine⟨b,vals,e,rfl,a b rfl,hh,by rw[Qy];exact hs,λj d p=>?_,q⟩;obtain⟨d0,h0,rfl⟩:=Z1s f cs j d p;exact (hc j d0 h0).ren λi k hk hi=>hm i k hk (Z9v h0 hi)
 |gen g cs =>
  obtain⟨b,vals,o,m,u,hh,t,hs,hc,q⟩:=l;refine⟨b,vals,o,m,a b m,hh,t,by rw[Qy];exact hs,λj d p=>?_,q⟩;obtain⟨d0,h0,rfl⟩:=Z1s f cs j d p;exact (hc j d0 h0).ren λi k hk hi=>hm i k hk (Z9v h0 hi)
 |arr fz sz e es =>
  obtain⟨v,x,xs,y,z,A⟩:=l;exact⟨v,x,xs,y,z,λb r=>⟨a b r,(A b r).2⟩⟩
def ZT (ob:Obs) (g:Nat->Option Nat):Nat->List Nat->Obs
 |_,[]=>[]
 |k,i::r=>match lk ob i with
  |some o=>(k,o.ren g)::ZT ob g (k+1) r
  |none=>ZT ob g (k+1) r
theorem Z1z {ob:Obs} {g:Nat->Option Nat}: ∀ (r:List Nat) (k:Nat) (j:Nat) (o:Ob),lk (ZT ob g k r) j=some o-> ∃ i o0,k<=j/\r[j-k]? = some i/\lk ob i=some o0/\o=o0.ren g
 |[],k,j,o,h=>by simp[ZT,lk] at h
 |i::r,k,j,o,h=>by
  have next:lk (ZT ob g (k+1) r) j=some o-> ∃ a o0,k<=j/\(i::r)[j-k]? = some a/\lk ob a=some o0/\o=o0.ren g:=λh=>by
   obtain⟨a,o0,h1,h2,c,d⟩:=Z1z r (k+1) j o h;refine⟨a,o0,by omega,?_,c,d⟩;rw[show j-k=(j-(k+1))+1 by omega];simpa using h2
  simp only[ZT] at h;split at h
  ·rename_i o0 b;simp only[lk] at h;split at h
   ·rename_i e;cases h;subst e;exact⟨i,o0,Nat.le_refl _,by simp,b,rfl⟩
   ·exact next h
  ·exact next h
theorem Z4Q {ob:Obs} {g:Nat->Option Nat}: ∀ (r:List Nat) (k:Nat) (j i:Nat),k<=j->r[j-k]? = some i->(lk ob i).isSome->(lk (ZT ob g k r) j).isSome
 |[],k,j,i,_,h,_=>by simp at h
 |x::r,k,j,i,hk,h,hi=>by
  have next:k<j->(lk (ZT ob g (k+1) r) j).isSome:=λa=>Z4Q r (k+1) j i (by omega) (by
   rw[show j-k=(j-(k+1))+1 by omega] at h;simpa using h) hi
  simp only[ZT];split
  ·simp only[lk];split
   ·rfl
   ·exact next (by omega)
  ·rename_i b;refine next ?_
   rcases Nat.lt_or_ge k j with h'|h'
   ·exact h'
   ·exfalso;have:j=k:=by omega
    subst this;simp at h;subst h;rw[b] at hi;cases hi
def bkN (base:Nat) (nm:List Nat) (j:Nat):Option Nat:=match nm[j]? with
 |some i=>some i
 |none=>some (base+j)
def Zba (nm:List Nat):Obs->Obs
 |[]=>[]
 |(j,o)::r=>if nm.contains j then Zba nm r else (j,o)::Zba nm r
theorem Z9X {nm:List Nat}: ∀ (ob:Obs) (i:Nat),lk (Zba nm ob) i=if i∈nm then none else lk ob i:=by intro ob;induction ob<;>grind [List.contains_iff_mem,Zba,lk]
def renO (f:Nat->Nat) (g:Nat->Option Nat):Obs->Obs
 |[]=>[]
 |(j,o)::r=>(f j,o.ren g)::renO f g r
theorem Z7K {f:Nat->Nat} {g:Nat->Option Nat}: ∀ {ob:Obs} {i:Nat} {o:Ob},lk (renO f g ob) i=some o->(∀ j k,f j=f k->j=k)-> ∃ j o0,f j=i/\lk ob j=some o0/\o=o0.ren g
 |[],i,o,h,_=>by simp[renO,lk] at h
 |(j,x)::r,i,o,h,hf=>by
  simp only[renO,lk] at h;split at h
  ·rename_i e;cases h;exact⟨j,x,e.symm,by simp[lk],rfl⟩
  ·rename_i e;obtain⟨c,o0,h1,h2,b⟩:=Z7K (ob:=r) h hf;refine⟨c,o0,h1,?_,b⟩;simp only[lk];rw[if_neg (λa=>e (by rw[<- h1,a]))];exact h2
def St.back (s:St) (base:Nat) (nm:List Nat) (ob':Obs):St :=
 ⟨s.tm,Zba nm s.ob++renO (λj=>match nm[j]? with|some i=>i|none=>base+j) (bkN base nm) ob'⟩
def St.top (s:St):Nat:=max (Env.top s.tm) (Obs.top s.ob)
/- The names that a state leads to. -/
mutual
def D.coll:D->List Nat->List Nat
 |.ptr j _,b=>if b.contains j then b else b++[j]
 |.vec j,b=>if b.contains j then b else b++[j]
 |.vptr j _ _ _,b=>if b.contains j then b else b++[j]
 |.vwin j _ _,b=>if b.contains j then b else b++[j]
 |.map j,b=>if b.contains j then b else b++[j]
 |.yld j,b=>if b.contains j then b else b++[j]
 |.agg cs,b=>D.collL cs b
 |.tuple cs,b=>D.collL cs b
 |.func _ a c,b=>D.collL c (D.collL a b)
 |_,b=>b
def D.collL:List D->List Nat->List Nat
 |[],a=>a
 |d::r,a=>D.collL r (D.coll d a)
end
def Z7M (ob:Obs):Nat->Nat->List Nat->List Nat
 |0,_,a=>a
 |f+1,k,a=>match a[k]? with
  |none=>a
  |some i=>match lk ob i with
   |some o=>Z7M ob f (k+1) (D.collL o.parts a)
   |none=>Z7M ob f (k+1) a
def ZpV (ob:Obs) (a:List Nat):List Nat:=Z7M ob 1000 0 a
def oldO (bs:Nat) (g:Nat->Option Nat):Obs->Obs
 |[]=>[]
 |(j,o)::r=>if j<bs then (j,o.ren g)::oldO bs g r else oldO bs g r
theorem ZcG {bs:Nat} {g:Nat->Option Nat}: ∀ (ob:Obs) (i:Nat) (o:Ob),lk (oldO bs g ob) i=some o->i<bs/\ ∃ o0,lk ob i=some o0/\o=o0.ren g:=by intro ob;induction ob<;>grind [oldO,lk]
def renE (g:Nat->Option Nat):Env->Env
 |[]=>[]
 |(t,d)::r=>(t,d.ren g)::renE g r
theorem Zcu {g:Nat->Option Nat}: ∀ {tm:Env} {t:Nat} {d:D},lk (renE g tm) t=some d-> ∃ d0,lk tm t=some d0/\d=d0.ren g
 |[],t,d,h=>by simp[renE,lk] at h
 |(j,x)::r,t,d,h=>by
  simp only[renE,lk] at h;split at h
  ·rename_i e;cases h;exact⟨x,by simp[lk,e],rfl⟩
  ·rename_i e;obtain⟨d0,h1,h2⟩:=Zcu (tm:=r) h;exact⟨d0,by simp only[lk];rw[if_neg e];exact h1,h2⟩
def Env.coll:Env->List Nat->List Nat
 |[],a=>a
 |(_,d)::r,a=>Env.coll r (d.coll a)
def Obs.olds (bs:Nat):Obs->List Nat
 |[]=>[]
 |(j,_)::r=>if j<bs then j::Obs.olds bs r else Obs.olds bs r
def kept {α:Type} (l:List (Nat × α)):List Nat->List (Nat × α)
 |[]=>[]
 |t::ts=>match lk l t with
  |some d=>(t,d)::kept l ts
  |none=>kept l ts
theorem Z82 {α:Type} {l:List (Nat × α)} {i:Nat} {d:α}: ∀ {ts:List Nat},lk (kept l ts) i=some d->lk l i=some d
 |[],h=>by simp[kept,lk] at h
 |t::ts,h=>by
  simp only[kept] at h;split at h
  ·rename_i x hx;simp only[lk] at h;split at h
   ·rename_i e;cases h;rw[e];exact hx
   ·exact Z82 h
  ·exact Z82 h
def newN (bs:Nat) (ob:Obs) (tm:Env):List Nat:=(ZpV ob (Env.coll tm (Obs.olds bs ob))).filter λi=>decide (bs<=i) && (lk ob i).isSome
def canG (bs:Nat) (nw:List Nat) (i:Nat):Option Nat:=if i<bs then some i else (idx i nw).map (bs + ·)
def newO (ob:Obs) (g:Nat->Option Nat):Nat->List Nat->Obs
 |_,[]=>[]
 |k,i::r=>match lk ob i,g i with
  |some o,some q=>if q=k then (k,o.ren g)::newO ob g (k+1) r else newO ob g (k+1) r
  |_,_=>newO ob g (k+1) r
theorem ZcR {ob:Obs} {g:Nat->Option Nat}: ∀ (r:List Nat) (k:Nat) (j:Nat) (o:Ob),lk (newO ob g k r) j=some o-> ∃ i o0,g i=some j/\lk ob i=some o0/\o=o0.ren g:=by intro r;induction r<;>grind [newO,lk]
def insO (i:Nat) (o:Ob):Obs->Obs
 |[]=>[(i,o)]
 |(j,p)::r=>if j<i then (j,p)::insO i o r else (i,o)::(j,p)::r
def Z29:Obs->Obs
 |[]=>[]
 |(i,o)::r=>insO i o (Z29 r)
theorem ZcY (i:Nat) (o:Ob) (k:Nat): ∀ l:Obs,lk (insO i o l) k=if k=i then some o else lk l k
 |[]=>rfl
 |(j,p)::r=>by
  simp only[insO];split
  ·rename_i h;simp only[lk];by_cases hk:k=j
   ·rw[if_pos hk,if_pos hk,if_neg (by omega)]
   ·rw[if_neg hk,if_neg hk];exact ZcY i o k r
  ·rfl
theorem Z5A (k:Nat): ∀ l:Obs,lk (Z29 l) k=lk l k:=by intro l;induction l<;>grind [ZcY,Z29,lk]
def canS (bs:Nat) (nw:List Nat) (tm:Env) (ob:Obs):St:=⟨renE (canG bs nw) tm,Z29 (oldO bs (canG bs nw) ob)++newO ob (canG bs nw) bs nw⟩
def frz1:Ob->Ob
 |.arr _ sz e es=>.arr true sz e es
 |o=>o
def frzO:Obs->Obs
 |[]=>[]
 |(i,o)::r=>(i,frz1 o)::frzO r
theorem Z17 (i:Nat): ∀ ob:Obs,lk (frzO ob) i=(lk ob i).map frz1:=by intro ob;induction ob<;>grind [frzO,lk]
def hasF (ts:List Nat):Bool:=ts.any λt=>t == 999999
def frzT (ts:List Nat) (ob:Obs):Obs:=match hasF ts with
 |true=>frzO ob
 |false=>ob
def hasS (ts:List Nat):Bool:=ts.any λt=>t == 999998
def slv (ob:Obs):D->D
 |.vec i=>match lk ob i with
  |some (.arr true _ _ es)=>.slice es []
  |_=>.vec i
 |d=>d
def thaw (ts:List Nat) (ob:Obs) (tm:Env):Env:=match hasS ts with
 |true=>tm.map λp=>(p.1,slv ob p.2)
 |false=>tm
def St.canon (s:St) (bs:Nat) (ts:List Nat):St:=canS bs (newN bs (frzT ts s.ob) (kept (thaw ts (frzT ts s.ob) s.tm) ts)) (kept (thaw ts (frzT ts s.ob) s.tm) ts) (frzT ts s.ob)
end Go.Sx
namespace Go.Sx
open Go.RowKit
variable [Globs] [Codes]
def hcal (h:Nat->Value) (nm:List Nat):Nat->Value:=λj=>match nm[j]? with|some i=>h i|none=>.pointer none
def hbak (h h':Nat->Value) (base:Nat):Nat->Value:=λi=>if base<=i then h' (i-base) else h i
section
variable {cx:Cx} {s:St} {φ φ':Mem} {h h':Nat->Value} {tmps:Array Value} {w w':World} {nm:List Nat}
theorem Z0h {k i:Nat} (hk:nm[k]? = some i):hcal h nm k=h i:=by simp[hcal,hk]
theorem Z1r {d:D} {v:Value} (r:RV φ h v d):RV φ (hcal h nm) v (d.ren (idx · nm)):=r.ren λi k hk _=>Z0h (Z2M hk)
theorem ObR.own_blk {own:Nat->Prop} {hv:Value} {o:Ob} {b:Nat} (c:ObR own φ h w hv o) (a:blk hv=some b):own b:=by grind [Option.some.injEq,blk,Ob,ObR]
theorem Mod.zof (hm:Mod cx s φ h tmps w) {b:Nat} (d:ZOf s.ob h b):cx.own b:=by
 obtain⟨i,hi,a⟩:=d;obtain⟨o,c⟩:=Option.isSome_iff_exists.1 hi;exact (hm.ob i o c).own_blk a
theorem Mod.loc (hm:Mod cx s φ h tmps w) (r:GlobC φ w cx.own) (f:nm.Nodup):Loc (λ_=>True) (ZT s.ob (idx · nm) 0 nm) φ (hcal h nm) w:=by
 refine⟨λi=>?_,r.sub λb ⟨j,e,q⟩=>?_,hm.mem,λj o g=>?_,λi j b hi e a c=>?_⟩
 ·simp only[hcal];split
  ·exact hm.one _
  ·rfl
 ·obtain⟨o,g⟩:=Option.isSome_iff_exists.1 e;obtain⟨i,o0,_,h1,h2,rfl⟩:=Z1z nm 0 j o g;rw[Nat.sub_zero] at h1;rw[Z0h h1] at q;exact (hm.ob i o0 h2).own_blk q
 ·obtain⟨i,o0,_,h1,h2,rfl⟩:=Z1z nm 0 j o g;rw[Nat.sub_zero] at h1;rw[Z0h h1];exact (hm.ob i o0 h2).ren (λ_ _=>trivial) λi k hk _=>Z0h (Z2M hk)
 ·obtain⟨v,l⟩:=Option.isSome_iff_exists.1 hi;obtain⟨x,m⟩:=Option.isSome_iff_exists.1 e;obtain⟨t,o1,_,d,y,_⟩:=Z1z nm 0 i v l;obtain⟨u,o2,_,p,z,_⟩:=Z1z nm 0 j x m;rw[Nat.sub_zero] at d p;rw[Z0h d] at a;rw[Z0h p] at c
  have:=hm.sep t u b (by rw[y];rfl) (by rw[z];rfl) a c;subst this;exact (List.getElem?_inj (i:=i) (j:=j) (List.getElem?_eq_some_iff.1 d).1 f).1 (d.trans p.symm)
theorem Mod.back (hm:Mod cx s φ h tmps w) {base:Nat} (hb1:cx.bs<=base) (E:s.top<=base) (hnd:nm.Nodup) (T: ∀ i∈nm,(lk s.ob i).isSome) {ob':Obs} (ha:After (ZT s.ob (idx · nm) 0 nm) φ (hcal h nm) w ob' φ' h' w') :
  Mod cx (s.back base nm ob') φ' (hbak h h' base) tmps w'/\ ∀ v r,RV φ' h' v r->RV φ' (hbak h h' base) v (r.ren (bkN base nm)):=by
 have htt:Env.top s.tm<=base:=Nat.le_trans (Nat.le_max_left _ _) E;have p:Obs.top s.ob<=base:=Nat.le_trans (Nat.le_max_right _ _) E;have M: ∀ i∈nm,i<base:=λi hi=>by
  obtain⟨o,f⟩:=Option.isSome_iff_exists.1 (T i hi);exact (Obs.top_get p f).1
 have g: ∀ i,i<base->hbak h h' base i=h i:=λi hi=>by simp only[hbak];rw[if_neg (by omega)]
 have hZ: ∀ b,ZOf (ZT s.ob (idx · nm) 0 nm) (hcal h nm) b-> ∃ i,i∈nm/\(lk s.ob i).isSome/\blk (h i)=some b:=λb ⟨j,x,c⟩=>by
  obtain⟨o,f⟩:=Option.isSome_iff_exists.1 x;obtain⟨i,o0,_,h1,h2,_⟩:=Z1z nm 0 j o f;rw[Nat.sub_zero] at h1;rw[Z0h h1] at c;exact⟨i,List.mem_of_getElem? h1,by rw[h2];rfl,c⟩
 have hown: ∀ i b,(lk s.ob i).isSome->blk (h i)=some b->cx.own b/\b<w.heap.size:=λi b hi a=>by
  obtain⟨o,f⟩:=Option.isSome_iff_exists.1 hi;exact⟨((hm.ob i o f).blk_lt a).2,((hm.ob i o f).blk_lt a).1⟩
 have A: ∀ b,ZOf (ZT s.ob (idx · nm) 0 nm) (hcal h nm) b->cx.own b/\b<w.heap.size:=λb I=>by
  grind
 have B: ∀ b,(w.heap.size<=b\/ZOf (ZT s.ob (idx · nm) 0 nm) (hcal h nm) b)->cx.own b:=λb a=>a.elim (λa=>.inl (Nat.le_trans hm.grow a)) λa=>(A b a).1;have J: ∀ b,b<w.heap.size-> ¬ ZOf (ZT s.ob (idx · nm) 0 nm) (hcal h nm) b-> ∀ off,φ' b off=φ b off:=λb a I off=>by
  cases C:φ b off with
  |some u=>exact ha.ext b off u C
  |none =>
   cases hq':φ' b off with
   |none=>rfl
   |some u=>exact ((ha.new b off u hq' C).elim (λh=>by omega) I).elim
 have S: ∀ i b,i ∉ nm->(lk s.ob i).isSome->blk (h i)=some b-> ¬ ZOf (ZT s.ob (idx · nm) 0 nm) (hcal h nm) b:=λi b hi f a I=>by
  obtain⟨j,h1,h2,Q⟩:=hZ b I;exact hi (hm.sep i j b f h2 a Q ▸ h1)
 -- the R
 have H: ∀ j k,(match nm[j]? with|some i=>i|none=>base+j)=(match nm[k]? with|some i=>i|none=>base+k)->j=k:=λj k e=>by
  cases x:nm[j]? with
  |none =>
   cases hk:nm[k]? with
   |none=>rw[x,hk] at e;simp only at e;omega
   |some i =>
    rw[x,hk] at e
    have:=M i (List.mem_of_getElem? hk);simp only at e;omega
  |some i =>
   cases hk:nm[k]? with
   |none =>
    rw[x,hk] at e
    have:=M i (List.mem_of_getElem? x);simp only at e;omega
   |some U =>
    rw[x,hk] at e;simp only at e;subst e;exact (List.getElem?_inj (List.getElem?_eq_some_iff.1 x).1 hnd).1 (x.trans hk.symm)
 have hh: ∀ j,hbak h h' base (match nm[j]? with|some i=>i|none=>base+j)=h' j:=λj=>by
  cases x:nm[j]? with
  |none=>simp only[hbak];rw[if_pos (by omega)];congr 1;omega
  |some i =>
   have hi:=List.mem_of_getElem? x;rw[g i (M i hi),ha.hfix j (Z4Q nm 0 j i (Nat.zero_le _) (by simpa using x) (T i hi)),Z0h x]
 have hg: ∀ i k,bkN base nm i=some k->hbak h h' base k=h' i:=λi k hk=>by
  have:k=(match nm[i]? with|some i=>i|none=>base+i):=by
   unfold bkN at hk;cases C:nm[i]? with
   |none=>rw[C] at hk;simpa using hk.symm
   |some q=>rw[C] at hk;simpa using hk.symm
  rw[this];exact hh i
 have l: ∀ i o,lk (s.back base nm ob').ob i=some o->(i ∉ nm/\lk s.ob i=some o)\/ ∃ j o0,(match nm[j]? with|some i=>i|none=>base+j)=i/\lk ob' j=some o0/\o=o0.ren (bkN base nm):=λi o f=>by
  simp only[St.back] at f;rw[Z08,Z9X] at f;by_cases hi:i∈nm
  ·rw[if_pos hi] at f;simp only[Option.none_or] at f;exact .inr (Z7K f H)
  ·rw[if_neg hi] at f;cases C:lk s.ob i with
   |some o'=>rw[C] at f;simp at f;subst f;exact .inl ⟨hi,rfl⟩
   |none=>rw[C] at f;simp only[Option.none_or] at f;exact .inr (Z7K f H)
 refine⟨⟨hm.size,λt d X=>((hm.tm t d X).mono ha.ext).under (Env.top_get htt X) g,ha.loc.mem,λb o v hv=>ha.ext b o v (hm.ext b o v hv),λb o v hv h0=>?_,λi o f=>?_,λi j b hi x m c=>?_,
  ha.os.trans hm.os,ha.tape.trans hm.tape,ha.output.trans hm.output,Nat.le_trans hm.grow ha.grow,λi=>?_,λb a I=>?_,λi hi=>?_,λb o hk=>?_⟩,λv r hr=>hr.ren λi k hk _=>hg i k hk⟩
 ·cases C:φ b o with
  |some u=>exact hm.new b o u C h0
  |none=>exact B b (ha.new b o v hv C)
 ·rcases l i o f with⟨h1,h2⟩|⟨j,o0,h1,h2,rfl⟩
  ·have y:=(Obs.top_get p h2).1;rw[g i y];have z:=hm.ob i o h2;refine z.keep (λ_ a=>a) (λb a=>ha.frame b (z.blk_lt a).1 (S i b h1 (by rw[h2];rfl) a)) ha.ext (λb a=>J b (z.blk_lt a).1 (S i b h1 (by rw[h2];rfl) a)) (λv d X r=>?_);exact (r.mono ha.ext).under (Z3d (Obs.top_get p h2).2 X) g
  ·have z:=ha.loc.obj j o0 h2;rw[<- h1,hh j];exact z.ren (λb a=>B b (z.blk_lt a).2) λi k hk _=>hg i k hk
 ·obtain⟨oi,O⟩:=Option.isSome_iff_exists.1 hi;obtain⟨W,hoj⟩:=Option.isSome_iff_exists.1 x;have V: ∀ i j W,i ∉ nm->(lk s.ob i).isSome->lk ob' j=some W->blk (h i)=some b->blk (h' j)=some b->False:=λi j W h1 h2 Q hb1 E=>by
   rcases ((ha.loc.obj j W Q).blk_lt E).2 with h4|h4
   ·grind
   ·grind
  rcases l i oi O with⟨h1,h2⟩|⟨U,o0,h1,h2,rfl⟩<;>rcases l j W hoj with⟨L,G⟩|⟨Y,o1,L,G,rfl⟩
  ·rw[g i (Obs.top_get p h2).1] at m;rw[g j (Obs.top_get p G).1] at c;exact hm.sep i j b (by rw[h2];rfl) (by rw[G];rfl) m c
  ·rw[g i (Obs.top_get p h2).1] at m;rw[<- L,hh Y] at c;exact (V i Y o1 h1 (by rw[h2];rfl) G m c).elim
  ·rw[g j (Obs.top_get p G).1] at c;rw[<- h1,hh U] at m;exact (V j U o0 L (by rw[G];rfl) h2 c m).elim
  ·rw[<- h1,hh U] at m;rw[<- L,hh Y] at c
   have:=ha.loc.sep U Y b (by rw[h2];rfl) (by rw[G];rfl) m c;rw[<- h1,<- L,this]
 ·simp only[hbak];split
  ·exact ha.loc.one _
  ·exact hm.one _
 ·have y:b<w.heap.size:=Nat.lt_of_lt_of_le a hm.grow;rw[ha.frame b y (λhzz=>(A b hzz).1.elim (λh=>by omega) I)];exact hm.frame b a I
 ·rw[g i (by omega)];exact hm.hfix i hi
 ·obtain⟨L,G,q3⟩:=hm.kept b o hk;have y:=(Array.getElem?_eq_some_iff.1 L).1;have N: ¬ ZOf (ZT s.ob (idx · nm) 0 nm) (hcal h nm) b:=λI=>by
   grind
  refine⟨by rw[ha.frame b y N];exact L,λoff=>by rw[J b y N];exact G off,λi hi a=>?_⟩;obtain⟨oi,O⟩:=Option.isSome_iff_exists.1 hi;rcases l i oi O with⟨h1,h2⟩|⟨j,o0,h1,h2,rfl⟩
  ·rw[g i (Obs.top_get p h2).1] at a;exact q3 i (by rw[h2];rfl) a
  ·rw[<- h1,hh j] at a;rcases ((ha.loc.obj j o0 h2).blk_lt a).2 with Q|Q
   ·omega
   ·exact N Q
theorem Mod.names (hm:Mod cx s φ h tmps w) {f:Nat->Nat} {g:Nat->Option Nat} {h2:Nat->Value} (A: ∀ j k,(g j).isSome->(g k).isSome->f j=f k->j=k) (H: ∀ j k,g j=some k->k=f j) (hh: ∀ j k,g j=some k->h2 k=h j) (m:HOne h2)
  (hfix: ∀ i,i<cx.bs->h2 i=h i) {tm:Env} {ob:Obs} (v: ∀ t d,lk tm t=some d-> ∃ d0,lk s.tm t=some d0/\d=d0.ren g) (a: ∀ i o,lk ob i=some o-> ∃ j o0,g j=some i/\lk s.ob j=some o0/\o=o0.ren g):Mod cx ⟨tm,ob⟩ φ h2 tmps w:=by
 refine⟨hm.size,λt d G=>?_,hm.mem,hm.ext,hm.new,λi o J=>?_,λi j b hi I e l=>?_,hm.os,hm.tape,hm.output,hm.grow,m,hm.frame,λi hi=>(hfix i hi).trans (hm.hfix i hi),λb o hk=>?_⟩
 ·obtain⟨d0,h0,rfl⟩:=v t d G;exact (hm.tm t d0 h0).ren λi k hk _=>hh i k hk
 ·obtain⟨j,o0,h1,E,rfl⟩:=a i o J;rw[hh j i h1]
  have:=hm.ob j o0 E;exact this.ren (λb q=>(this.blk_lt q).2) λi k hk _=>hh i k hk
 ·obtain⟨x,c⟩:=Option.isSome_iff_exists.1 hi;obtain⟨L,u⟩:=Option.isSome_iff_exists.1 I;obtain⟨B,o0,r,y,_⟩:=a i x c;obtain⟨C,o1,p,z,_⟩:=a j L u;rw[hh B i r] at e;rw[hh C j p] at l
  have:=hm.sep B C b (by rw[y];rfl) (by rw[z];rfl) e l;subst this;rw[r] at p;exact Option.some.inj p
 ·obtain⟨r,M,y⟩:=hm.kept b o hk;refine⟨r,M,λi hi q=>?_⟩;obtain⟨x,c⟩:=Option.isSome_iff_exists.1 hi;obtain⟨j,o0,p,z,_⟩:=a i x c;rw[hh j i p] at q;exact y j (by rw[z];rfl) q
theorem Mod.canS (hm:Mod cx s φ h tmps w) {tm:Env} (u: ∀ t d,lk tm t=some d->lk s.tm t=some d) {nw:List Nat}: ∃ h2,(∀ v d,RV φ h v d->RV φ h2 v (d.ren (canG cx.bs nw)))/\Mod cx (canS cx.bs nw tm s.ob) φ h2 tmps w:=by
 let f:Nat->Nat:=λi=>if i<cx.bs then i else cx.bs+(idx i nw).getD 0;let h2:Nat->Value:=λk=>if k<cx.bs then h k else match nw[k-cx.bs]? with|some i=>h i|none=>.pointer none
 have p: ∀ j k,canG cx.bs nw j=some k->k=f j:=λj k hk=>by
  simp only[canG] at hk;simp only[f];split at hk
  ·grind
  ·rename_i c;rw[if_neg c];cases b:idx j nw with
   |none=>rw[b] at hk;cases hk
   |some q=>rw[b] at hk;simp at hk;simp[hk]
 have l: ∀ j k,canG cx.bs nw j=some k->h2 k=h j:=λj k hk=>by
  simp only[canG] at hk;simp only[h2];split at hk
  ·grind
  ·rename_i c;cases b:idx j nw with
   |none=>rw[b] at hk;cases hk
   |some q =>
    rw[b] at hk;simp at hk;subst hk;rw[if_neg (by omega),Nat.add_sub_cancel_left,Z2M b]
 have m: ∀ j k,(canG cx.bs nw j).isSome->(canG cx.bs nw k).isSome->f j=f k->j=k:=λj k c hk e=>by
  simp only[f] at e;simp only[canG] at c hk;by_cases h1:j<cx.bs<;>by_cases h2:k<cx.bs
  ·grind
  ·grind
  ·grind
  ·rw[if_neg h1] at c;rw[if_neg h2] at hk;rw[if_neg h1,if_neg h2] at e;cases b:idx j nw with
   |none=>rw[b] at c;cases c
   |some q =>
    cases g:idx k nw with
    |none=>rw[g] at hk;cases hk
    |some E =>
     rw[b,g] at e;simp at e;have x:=Z2M b;have y:=Z2M g;rw[e] at x;exact Option.some.inj (x.symm.trans y)
 refine⟨h2,λv d r=>r.ren λi k hk _=>l i k hk,hm.names m p l (λi=>?_) (λi hi=>by simp only[h2];rw[if_pos hi]) (λt d B=>?_) (λi o C=>?_)⟩
 ·simp only[h2];split
  ·exact hm.one _
  ·split
   ·exact hm.one _
   ·rfl
 ·obtain⟨d0,h0,rfl⟩:=Zcu B;exact⟨d0,u t d0 h0,rfl⟩
 ·have a:lk (Z29 (oldO cx.bs (canG cx.bs nw) s.ob)++newO s.ob (canG cx.bs nw) cx.bs nw) i=some o:=C;rw[Z08,Z5A] at a;cases b:lk (oldO cx.bs (canG cx.bs nw) s.ob) i with
  |some o' =>
   rw[b] at a;simp at a;subst a;obtain⟨h1,o0,z,A⟩:=ZcG s.ob i o' b;exact⟨i,o0,by simp[canG,h1],z,A⟩
  |none =>
   rw[b] at a;simp only[Option.none_or] at a;exact ZcR nw cx.bs i o a
noncomputable def memZ (ob:Obs) (φ:Mem) (h:Nat->Value) (w:World):Mem:=λb o =>
 open Classical in if (∃ i sz e es,lk ob i=some (.arr false sz e es)/\blk (h i)=some b/\o<es.length*sz) then w.cell? ⟨b,o,none⟩ else φ b o
theorem Z1p {own:Nat->Prop} {φ:Mem} {h:Nat->Value} {w:World} {hv:Value} {fz:Bool} {sz:Nat} {e:TypeId} {es:List (List D)} (i:ObR own φ h w hv (.arr fz sz e es)) {b:Nat} (d:blk hv=some b) {xs:List Value} (a:w.ownsRow 0 e sz hv es.length xs) {o:Nat} (f:o<es.length*sz):w.cell? ⟨b,o,none⟩=xs[o]? :=by
 rcases a.2 with⟨rfl,_⟩|⟨g,cap,cur,rfl,_,hblk,_,_,_,c⟩
 ·cases d
 ·cases d;have h1:(cur.toList.take (es.length*sz))[o]? = xs[o]? :=by rw[c]
  rw[List.getElem?_take_of_lt f,Array.getElem?_toList] at h1;simp only[World.cell?,hblk];rw[<- h1];simp
theorem ZcK {own:Nat->Prop} {ob:Obs} {φ:Mem} {h:Nat->Value} {w:World} (hmem: ∀ b o v,φ b o=some v->w.cell? ⟨b,o,none⟩=some v) (p: ∀ i o,lk ob i=some o->ObR own φ h w (h i) o) (z: ∀ i j b,(lk ob i).isSome->(lk ob j).isSome->blk (h i)=some b->blk (h j)=some b->i=j) :
  (∀ b o v,φ b o=some v->memZ ob φ h w b o=some v)/\(∀ b o v,memZ ob φ h w b o=some v->φ b o=none->own b)/\(∀ b o v,memZ ob φ h w b o=some v->w.cell? ⟨b,o,none⟩=some v)/\(∀ i o,lk (frzO ob) i=some o->ObR own (memZ ob φ h w) h w (h i) o)/\(∀ i j b,(lk (frzO ob) i).isSome->(lk (frzO ob) j).isSome->blk (h i)=some b->blk (h j)=some b->i=j):=by
 have H: ∀ i sz e es b,lk ob i=some (.arr false sz e es)->blk (h i)=some b->own b/\ ∀ o,φ b o=none:=λi sz e es b hi l=>by
  obtain⟨_,_,xs,_,_,q⟩:=p i _ hi;obtain⟨L,M⟩:=q b l;exact⟨L,λo=>by rw[M o];simp⟩
 have a: ∀ b o v,φ b o=some v->memZ ob φ h w b o=some v:=λb o v hv=>by
  grind [Z17,Option.some.injEq,Z1p,lk,blk,memZ,frzO]
 have k: ∀ i,(lk (frzO ob) i).isSome->(lk ob i).isSome:=λi hi=>by
  grind [Z17,Option.some.injEq,Z1p,lk,blk,memZ,frzO]
 refine⟨a,λb o v hv N=>?_,λb o v hv=>?_,λi o m=>?_,λi j b hi I=>z i j b (k i hi) (k j I)⟩
 ·grind [Z17,Option.some.injEq,Z1p,lk,blk,memZ,frzO]
 ·unfold memZ at hv;split at hv
  ·exact hv
  ·grind
 ·rw[Z17] at m;cases E:lk ob i with
  |none=>rw[E] at m;cases m
  |some o0 =>
   rw[E] at m;simp only[Option.map_some,Option.some.injEq] at m;have c:=p i o0 E
   -- C of other B keep G memory
   have f:(∀ sz e es,o0≠ .arr false sz e es)-> ∀ b,blk (h i)=some b-> ∀ off,memZ ob φ h w b off=φ b off:=λJ b l off=>by
    grind [Z17,Option.some.injEq,Z1p,lk,blk,memZ,frzO]
   cases o0 with
   |cells cs =>
    subst m;exact c.keep (λ_ l=>l) (λ_ _=>rfl) a (f (by simp)) (λ_ _ _ r=>r.mono a)
   |gen g ds =>
    subst m;exact c.keep (λ_ l=>l) (λ_ _=>rfl) a (f (by simp)) (λ_ _ _ r=>r.mono a)
   |arr fz sz e es =>
    subst m;cases fz with
    |true=>exact c.keep (λ_ l=>l) (λ_ _=>rfl) a (f (by simp)) (λ_ _ _ r=>r.mono a)
    |false =>
     have A:=c;obtain⟨h0,hsz,xs,t,hrep,l⟩:=c;refine⟨h0,hsz,xs,t,λi x j d h1 h2=>(hrep i x j d h1 h2).mono a,λb u=>⟨(l b u).1,λo=>?_⟩⟩;by_cases y:o<es.length*sz
     ·rw[if_pos ⟨rfl,y⟩];unfold memZ;rw[if_pos ⟨i,sz,e,es,E,u,y⟩];exact Z1p A u t y
     ·grind [Z17,Option.some.injEq,Z1p,lk,blk,memZ,frzO]
theorem Mod.frzM (hm:Mod cx s φ h tmps w) (ts:List Nat): ∃ φ2,(∀ b o v,φ b o=some v->φ2 b o=some v)/\Mod cx ⟨s.tm,frzT ts s.ob⟩ φ2 h tmps w:=by
 unfold frzT;cases hasF ts with
 |false=>exact⟨φ,λ_ _ _ h=>h,hm⟩
 |true =>
  obtain⟨h1,h2,g,j,k⟩:=ZcK hm.mem hm.ob hm.sep;have hs: ∀ i,(lk (frzO s.ob) i).isSome->(lk s.ob i).isSome:=λi hi=>by
   rw[Z17] at hi;cases a:lk s.ob i with
   |none=>rw[a] at hi;cases hi
   |some o=>rfl
  refine⟨memZ s.ob φ h w,h1,hm.size,λt d m=>(hm.tm t d m).mono h1,g,λb o v hv=>h1 b o v (hm.ext b o v hv),λb o v hv p=>?_,j,k,hm.os,hm.tape,hm.output,hm.grow,hm.one,hm.frame,hm.hfix,λb o l=>?_⟩
  ·cases a:φ b o with
   |none=>exact h2 b o v hv a
   |some u=>exact hm.new b o u a p
  ·obtain⟨c,e,f⟩:=hm.kept b o l;refine⟨c,λoff=>?_,λi hi=>f i (hs i hi)⟩;unfold memZ;rw[if_neg]
   ·exact e off
   ·grind
theorem ZkS (f:D->D) (t:Nat): ∀ tm:Env,lk (tm.map λp=>(p.1,f p.2)) t=(lk tm t).map f:=by intro tm;induction tm<;>grind [lk]
theorem Mod.thawM (hm:Mod cx s φ h tmps w) (ts:List Nat):Mod cx ⟨thaw ts s.ob s.tm,s.ob⟩ φ h tmps w:=by
 unfold thaw;cases hasS ts with
 |false=>exact hm
 |true =>
  refine⟨hm.size,λt d a=>?_,hm.mem,hm.ext,hm.new,hm.ob,hm.sep,hm.os,hm.tape,hm.output,hm.grow,hm.one,hm.frame,hm.hfix,hm.kept⟩;simp only[ZkS] at a;cases c:lk s.tm t with
  |none=>rw[c] at a;cases a
  |some d0 =>
   rw[c] at a;simp only[Option.map_some,Option.some.injEq] at a;subst a;have hr:=hm.tm t d0 c;unfold slv;split
   ·rename_i i;split
    ·rename_i e es b;have h2:=Z0O (obs:=lk s.ob) (λi o hi _=>hm.ob i o hi) hr;simp only[dv,b] at h2;exact h2
    ·exact hr
   ·exact hr
theorem Mod.canonM (hm:Mod cx s φ h tmps w) (ts:List Nat): ∃ φ2 h2,Mod cx (s.canon cx.bs ts) φ2 h2 tmps w:=by
 obtain⟨φ2,_,a⟩:=hm.frzM ts;have b:=a.thawM ts;obtain⟨h2,_,c⟩:=b.canS (tm:=Go.Sx.kept (thaw ts (frzT ts s.ob) s.tm) ts) (λ_ _ h=>Z82 h) (nw:=newN cx.bs (frzT ts s.ob) (Go.Sx.kept (thaw ts (frzT ts s.ob) s.tm) ts));exact⟨φ2,h2,c⟩
end
end Go.Sx
namespace Go.Sx
open Go.RowKit
variable [Globs] [Codes]
def St.get (s:St):X->D
 |.t n=>(lk s.tm n).getD .undef
 |.c d=>d
def St.put (s:St) (dst:Option Nat) (d:D):St :=
 match dst with
 |some t=>{s with tm:=(t,d)::Z8 t s.tm}
 |none=>s
def St.put2 (s:St) (dst id:Nat) (d:D) (o:Ob):St:={tm:=(dst,d)::Z8 dst s.tm,ob:=(id,o)::Z8 id s.ob}
def SK.at (s:St):SK->SK
 |.c n=>.c n
 |.m key=>.m key
 |.k kd x=>if isKD kd (s.get x)=true then .m (s.get x) else .k kd x
 |.cp dst sz=>if (lk s.tm dst).isNone=true then .cp dst sz else .k none (.c .undef)
def gud (g:Option (Nat × Bool)) (s:St) (body skip:Prop):Prop :=
 match g with
 |none=>body
 |some (t,a)=>match lk s.tm t with
  |some (.bool b)=>if b=a then body else skip
  |some (.tuple [])=>skip
  |_=>False
def Zue:D->Bool
 |.func (.func f) _ _=>Globs.N f
 |_=>false
def dva (c:D) (obs:Nat->Option Ob):D->D
 |.vec id=>match obs id with
  |some (.arr true _ _ es)=>.slice es []
  |_=>.vec id
 |.nils=>match Zue c with
  |true=>.nils
  |false=>.slice [] []
 |d=>d
def St.base (s:St) (bs:Nat):Nat:=max (bs+4096) s.top
def stp (P:Program) (bs:Nat) (o:SOp) (s:St) (K:St->Prop):Prop :=
 match o with
 |.a dst g op xs=>gud g s
   (evl P (bs+dst.getD 0) op (xs.map s.get) (lk s.ob) λd nb=>match nb with
    |none=>K (s.put dst d)
    |some ob=>match dst with
     |some t=>s.clean (bs+t)=true/\K (s.put2 t (bs+t) d ob)
     |none=>False)
   (K (s.put dst .nov))
 |.st g sz x y=>gud g s
   (match stO (sz.at s) (s.get x) (s.get y) (lk s.ob) with
    |some (a,b,id,o)=>a<b/\K {s with ob:=(id,o)::Z8 id s.ob}
    |none=>False)
   (K s)
 |.app dst g fz sz e x y=>gud g s
   (match Z4u (lk s.ob) (s.get y) with
    |some (ys,_)=>(∀ q∈ys,q.length=sz)/\(match s.get x with
     |.nils=>ys.length<=1073741824/\s.clean (bs+dst)=true/\K (s.put2 dst (bs+dst) (.vec (bs+dst)) (.arr fz sz e ys))
     |.vec id=>match lk s.ob id with
      |some (.arr c f j es)=>f=sz/\j=e/\es.length+ys.length<=1073741824/\s.clean (bs+dst)=true ∧
        K (St.put2 ⟨s.tm,Z8 id s.ob⟩ dst (bs+dst) (.vec (bs+dst)) (.arr c sz e (es++ys)))
      |_=>False
     |_=>False)
    |none=>False)
   (K (s.put (some dst) .nov))
 |.cd dst g x xs=>gud g s
   (∃ nm R base,nm.Nodup/\(∀ i∈nm,(lk s.ob i).isSome)/\bs+4096<=base/\s.top<=base ∧
    CallL P ((s.get x).ren (idx · nm)) ((xs.map λy=>dva (s.get x) (lk s.ob) (s.get y)).map (D.ren (idx · nm))) (ZT s.ob (idx · nm) 0 nm) R ∧
    ∀ r ob',R r ob'->r.isPan=false/\K ((s.back base nm ob').put dst (r.ren (bkN base nm))))
   (K (s.put dst .nov))
def stps (P:Program) (bs:Nat):List SOp->St->(St->Prop)->Prop
 |[],s,K=>K s
 |o::r,s,K=>stp P bs o s λs'=>stps P bs r s' K
/- FROM THE PROGRAM's OPERATIONS. -/
def glx (g:Nat):D:=match Globs.G g with
 |some cs=>.fptr cs
 |none=>.undef
def Q3:Operand->Option X
 |.tmp t=>some (.t t)
 |.const v=>some (.c (Z4c v))
 |.func f=>some (.c (.func (.func f) [] []))
 |.global g=>some (.c (glx g))
def ZC (P:Program) (f:FuncId):Bool :=
 match P.funcs[f]? with
 |some fn =>!fn.body.isNone && !(fn.name == "runtime.NumGoroutine")
 |none=>false
def Z2s (P:Program) (c:Call):Option (AOp × List Operand) :=
 match c.callee with
 |.builtin .len=>match c.args.toList,c.argTypes.toList with
  |[x],[t]=>match P.underlying t with
   |some .string=>some (.len true,[x])
   |some (.slice _)=>some (.len false,[x])
   |some (.map _ _)=>some (.ext .lenm,[x])
   |_=>none
  |_,_=>none
 |.value (.func f)=>if ZC P f then some (.call f,c.args.toList) else none
 |.builtin .max=>some (.mm true,c.args.toList)
 |.builtin .min=>some (.mm false,c.args.toList)
 |_=>none
def ZdY (bt:Nat->Bool) (c:Call):Option (Operand × List Operand) :=
 match c.callee with
 |.value (.func f)=>if bt f then some (.func f,c.args.toList) else none
 |.value g=>some (g,c.args.toList)
 |_=>none
def nilT (P:Program) (o:Oper) (x:Operand):Option (Nat × TypeId) :=
 match x with
 |.const (.slice none 0 0)=>match P.underlying o.type with
  |some (.slice e)=>match szT P e with
   |some sz=>if 0<sz then some (sz,e) else none
   |none=>none
  |_=>none
 |_=>none
def Z6u:Operand->Operand->Nat
 |.tmp a,.tmp b=>if a=b then 1 else 0
 |.const (.int .i64 n),.const (.int .i64 m)=>if n=m then 1 else if n=0 then 2 else 0
 |.const (.int .i64 n),.tmp _=>if n=0 then 2 else 0
 |_,_=>0
theorem ZfH {l c:Operand} (h:Z6u l c=1):l=c:=by unfold Z6u at *;grind
theorem ZfG {l c:Operand} (h:Z6u l c=2):l=.const (.int .i64 0):=by unfold Z6u at *;grind
def Z4d (P:Program) (fz:Bool) (o:Oper):Option (AOp × List Operand) :=
 match o.op with
 |.move x=>match nilT P o x with
  |some (sz,e)=>some (.nilv fz sz e,[x])
  |none=>some (.mv,[x])
 |.assign x=>match nilT P o x with
  |some (sz,e)=>some (.nilv fz sz e,[x])
  |none=>some (.mv,[x])
 |.pick c a b=>some (.pick,[c,a,b])
 |.binOp .shl _ x y _=>some (.sh true,[x,y])
 |.binOp .shr _ x y _=>some (.sh false,[x,y])
 |.binOp op t x y _=>match P.underlying t with
  |some .bool=>some (.binb op,[x,y])
  |some (.int _)=>some (.bin op,[x,y])
  |some .string=>some (.bin op,[x,y])
  |some (.struct fs)=>match Z42 P fs.toList 0 with
   |some ks=>if P.stoodInHeld t=false/\P.eqGuardType P.depth t=false then (match op with
    |.eql=>some (.eqs false ks,[x,y])
    |.neq=>some (.eqs true ks,[x,y])
    |_=>none) else none
   |none=>none
  |_=>match kdOf P t with
   |some 3=>if cst x ||cst y then (match op with
    |.eql=>some (.ext (.eqs3 false),[x,y])
    |.neq=>some (.ext (.eqs3 true),[x,y])
    |_=>none) else none
   |some kd=>if cst x ||cst y then some (.eqn op kd,[x,y]) else none
   |none=>none
 |.unOp op _ x=>some (.un op,[x])
 |.convert s d x=>match P.underlying s,P.underlying d with
  |some _,some (.int k)=>some (.conv k,[x])
  |some (.slice e),some .string=>match P.underlying e with
   |some (.int .u8)=>some (.b2s,[x])
   |_=>none
  |_,_=>none
 |.makeSlice t l c=>match P.underlying t with
  |some (.slice e)=>match P.info? e,Z0r P e with
   |some i,some z=>if 0<i.size then (match Z6u l c with
    |1=>some (.mks fz i.size e (z.map unnil) i.bytes,[l])
    |2=>some (.mke fz i.size e i.bytes,[c])
    |_=>none) else none
   |_,_=>none
  |_=>none
 |.box _ x=>some (.box,[x])
 |.alloc e=>(Z0r P e).map λz=>(.alloc z,[])
 |.build t parts=>match Z0r P t,Z5s P t (parts.toList.map (·.1)) with
  |some z,some ps=>some (.build (zB fz z) ps,parts.toList.map (·.2))
  |_,_=>none
 |.buildSlice t n parts=>match P.underlying t with
  |some (.slice e)=>match Z0r P e,szT P e with
   |some z,some sz=>if 0<sz/\n*sz<=16777216 then some (.bslice fz sz n e ((List.replicate n (z.map unnil)).flatten) (parts.toList.map λx=>(x.1*sz,sz)),parts.toList.map (·.2)) else none
   |_,_=>none
  |_=>none
 |.load t x=>match aggB P t,szT P t with
  |some ag,some sz=>if (ag && !fz)=true then some (.ext (.ldn sz),[x]) else some (.load ag sz,[x])
  |_,_=>none
 |.fieldAddr s x f=>(Z0S P s f).map λr=>(.faddr r.1,[x])
 |.field s x f=>(Z0S P s f).map λr=>(.field r.1 r.2.1 r.2.2,[x])
 |.indexAddr t x y=>match P.underlying t with
  |some (.slice e)=>(szT P e).map λsz=>(.iaddr sz,[x,y])
  |some (.array len e)=>(szT P e).map λsz=>(.iaddrA len sz,[x,y])
  |_=>none
 |.index t x y=>match P.underlying t with
  |some .string=>some (.index,[x,y])
  |_=>none
 |.slice t x lo hi none=>match P.underlying t with
  |some .string=>some (.sliceS lo.isSome hi.isSome,[x]++lo.toList++hi.toList)
  |some (.slice e)=>(szT P e).map λsz=>(.slice sz lo.isSome hi.isSome,[x]++lo.toList++hi.toList)
  |_=>none
 |.extract x i=>some (.extract i,[x])
 |.call c=>match Z2s P c with
  |some r=>some r
  |none=>some (.bad,[])
 |.nilCheck x=>some (.nilck,[x])
 |.makeFunc f first caps=>some (.mkfn f first.size,first.toList++caps.toList)
 |.makeMap t none=>match P.underlying t with
  |some (.map _ g)=>match P.underlying g with
   |some (.func ..)=>some (.mkmap,[])
   |_=>some (.mkmapC,[])
  |_=>some (.mkmap,[])
 |.lookup t m k false=>match P.underlying t with
  |some (.map j g)=>match keyK P j,Zap P g with
   |some kd,some z=>some (.mlook kd z,[m,k])
   |_,_=>none
  |_=>none
 |.lookup t m k true=>match P.underlying t with
  |some (.map j g)=>match keyK P j,Zap P g with
   |some kd,some z=>some (.ext (.look2 kd z),[m,k])
   |_,_=>none
  |_=>none
 |.entry x=>some (.ext .entry,[x])
 |.makeInterface t x=>match P.underlying t with
  |some (.interface _)=>none
  |some _=>some (.ext (.mkif t),[x])
  |none=>none
 |.typeAssert x _ t true=>match P.underlying t,Zix P t with
  |some (.interface _),_=>none
  |some _,some z=>some (.ext (.tas t z),[x])
  |_,_=>none
 |.panic x=>some (.pnk,[x])
 |_=>some (.bad,[])
def Z0K (ops:Array Oper) (o:Oper):Option (Option (Nat × Bool)) :=
 match o.guard with
 |none=>some none
 |some (j,a)=>((ops[j]?).bind (·.dst)).map λt=>some (t,a)
def Zga (P:Program) (t:TypeId) (k:Operand):Option SK:=match mapK P t k with
 |some key=>some (.m key)
 |none=>match ZaW P t,Q3 k with
  |some kd,some x=>some (.k kd x)
  |_,_=>none
def QL (P:Program) (bt:Nat->Bool) (fz:Bool) (ops:Array Oper) (o:Oper):Option SOp :=
 match Z0K ops o with
 |none=>none
 |some g =>
  match o.op with
  |.store t x y=>match szT P t,Q3 x,Q3 y,o.dst with
   |some sz,some x,some y,none=>some (.st g (.c sz) x y)
   |_,_,_,_=>none
  |.insert t m k x=>match Zga P t k,Q3 m,Q3 x,o.dst with
   |some a,some m,some x,none=>some (.st g a m x)
   |_,_,_,_=>none
  |.mapUpdate t m k x=>match Zga P t k,Q3 m,Q3 x,o.dst with
   |some a,some m,some x,none=>some (.st g a m x)
   |_,_,_,_=>none
  |.call {callee:=.builtin .append,args,argTypes}=>match o.dst,args.toList,argTypes.toList with
   |some dst,[x,y],[t,u]=>match P.underlying t,Q3 x,Q3 y with
    |some (.slice e),some x,some y=>match P.info? e,Z0r P e with
     |some i,some _=>if t=u/\0<i.size/\i.bytes<=131072 then some (.app dst g fz i.size e x y) else none
     |_,_=>none
    |_,_,_=>none
   |_,_,_=>none
  |.call {callee:=.builtin .copy,args,argTypes}=>match o.dst,args.toList,argTypes.toList with
   |some dst,[x,y],[t,_]=>match P.underlying t,Q3 x,Q3 y with
    |some (.slice e),some x,some y=>match P.info? e,g with
     |some i,none=>some (.st none (.cp dst i.size) x y)
     |_,_=>none
    |_,_,_=>none
   |_,_,_=>none
  |.call c=>match ZdY bt c with
   |some (x,xs)=>match Q3 x,xs.mapM Q3 with
    |some x,some xs=>some (.cd o.dst g x xs)
    |_,_=>none
   |none=>match Z4d P fz o with
    |some (op,xs)=>(xs.mapM Q3).map λxs=>.a o.dst g op xs
    |none=>none
  |_=>match Z4d P fz o with
   |some (op,xs)=>(xs.mapM Q3).map λxs=>.a o.dst g op xs
   |none=>none
end Go.Sx
namespace Go.Sx
open Go.RowKit
variable [Globs] [Codes]
section
variable {P:Program} {o:Oper} {ρ:Operand->Value} {w:World} {φ:Mem} {h:Nat->Value} {dst:Nat} {K:D->Option Ob->Prop} {obs:Nat->Option Ob} {own:Nat->Prop}
theorem Z1t {f : FuncId} (hp : ZC P f = true) : ∃ fn,P.funcs[f]? = some fn /\ fn.body.isNone = false /\ (fn.name == "runtime.NumGoroutine") = false :=by grind [ZC]
theorem Z8o {fz:Bool} {op:AOp} {xs:List Operand} (hc:Z4d P fz o=some (op,xs)) (W: ∀ f,ρ (.func f)=.func (.func f) #[] #[]) (N: ∀ v,ρ (.const v)=v) (hh:HOne h) (Q:GlobC φ w (λ_=>False)) (j:Sub φ w)
  (q: ∀ i ob,obs i=some ob->live (h i)=true->ObR own φ h w (h i) ob) {ds:List D} (hr:RVL φ h (xs.map ρ) ds) (hm: ∀ d ob,K d (some ob)->D.menL dst ds=false) (g:evl P dst op ds obs K):OpOut P o ρ w (APost φ h w dst K):=by
 unfold Z4d at hc;split at hc
 case h_1 x p =>
  split at hc
  ·cases hc;exact Zhv (.inl p) j hr g
  ·cases hc;exact s_mv (.inl p) j hr g
 case h_2 x p =>
  split at hc
  ·cases hc;exact Zhv (.inr p) j hr g
  ·cases hc;exact s_mv (.inr p) j hr g
 case h_3 c a b p=>cases hc;exact ZoY p j hr g
 case h_4 _ x y _ p=>cases hc;exact s_sh (left:=true) p j hr g
 case h_5 _ x y _ p=>cases hc;exact s_sh (left:=false) p j hr g
 case h_6 op t x y yt _ _ p =>
  split at hc
  ·rename_i T;cases hc;exact Zp5 p T j hr g
  ·cases hc;exact Zp6 p j hr g
  ·cases hc;exact Zp6 p j hr g
  ·rename_i fs A;split at hc
   ·rename_i ks M;split at hc
    ·rename_i J;split at hc
     ·cases hc;exact Zp2 (neg:=false) (by rw[p];rfl) A M J.1 J.2 j hr g
     ·cases hc;exact Zp2 (neg:=true) (by rw[p];rfl) A M J.1 J.2 j hr g
     ·cases hc
    ·cases hc
   ·cases hc
  ·split at hc
   ·rename_i C;split at hc
    ·rename_i I;split at hc
     ·cases hc;exact Z6v j (λd B=>Z9T (neg:=false) rfl p C I (λi ob h1 h2=>⟨_,q i ob h1 h2⟩) hr B) g
     ·cases hc;exact Z6v j (λd B=>Z9T (neg:=true) rfl p C I (λi ob h1 h2=>⟨_,q i ob h1 h2⟩) hr B) g
     ·cases hc
    ·cases hc
   ·rename_i kd C;split at hc
    ·rename_i I;cases hc;exact ZtW p C I j hr g
    ·cases hc
   ·cases hc
 case h_7 op t x p=>cases hc;exact s_un p j hr g
 case h_8 s d x p =>
  split at hc
  ·rename_i u k hs B;cases hc;exact Zp3 p (by rw[hs];rfl) B j hr g
  ·rename_i e hs B;split at hc
   ·rename_i he;cases hc;exact ZtY p hs he B j (λi ob h1 h2=>⟨_,q i ob h1 h2⟩) hr g
   ·cases hc
  ·cases hc
 case h_9 t l c p =>
  split at hc
  ·rename_i e A;split at hc
   ·rename_i i z hi E;split at hc
    ·rename_i hsz;split at hc
     ·rename_i R;cases hc;obtain rfl:=ZfH R;exact ZtU p A E hi rfl hsz j hr g
     ·rename_i S;cases hc;obtain rfl:=ZfG S;exact ZtV p (N _) A E hi rfl hsz j hr g
     ·cases hc
    ·cases hc
   ·cases hc
  ·cases hc
 case h_10 e x p=>cases hc;exact ZtX p hh j hr hm g
 case h_11 e p =>
  cases E:Z0r P e with
  |none=>rw[E] at hc;cases hc
  |some z =>
   rw[E] at hc;cases hc
   match ds,hr,g with
   |[],_,g=>exact ZjJ p E j g
 case h_12 t parts p =>
  split at hc
  ·rename_i z ps E hp;cases hc;exact ZjI p E hp hh j q (by rw[List.map_map] at hr;exact hr) g
  ·cases hc
 case h_13 t n parts p =>
  split at hc
  ·rename_i e A;split at hc
   ·rename_i z sz E hs;split at hc
    ·rename_i G;cases hc;exact ZfK p A E hs G.1 G.2 hh j q (by rw[List.map_map] at hr;exact hr) g
    ·cases hc
   ·cases hc
  ·cases hc
 case h_14 t x p =>
  split at hc
  ·rename_i ag sz ha hs;split at hc
   ·rename_i hq;simp only[Bool.and_eq_true] at hq;rw[hq.1] at ha;cases hc;exact Z6v j (λd B=>Zlo p ha hs q hr B) g
   ·cases hc;exact Zp0 p ha hs j q hr g
  ·cases hc
 case h_15 s x f p =>
  cases hf:Z0S P s f with
  |none=>rw[hf] at hc;cases hc
  |some r=>rw[hf] at hc;cases hc;exact ZjH (ag:=r.2.1) (n:=r.2.2) p hf j hr g
 case h_16 s x f p =>
  cases hf:Z0S P s f with
  |none=>rw[hf] at hc;cases hc
  |some r=>rw[hf] at hc;cases hc;exact ZjG p hf j hr g
 case h_17 t x y p =>
  split at hc
  ·rename_i e A;cases hs:szT P e with
   |none=>rw[hs] at hc;cases hc
   |some sz=>rw[hs] at hc;cases hc;exact ZjF p A hs j q hr g
  ·rename_i len e A;cases hs:szT P e with
   |none=>rw[hs] at hc;cases hc
   |some sz=>rw[hs] at hc;cases hc;exact ZfJ p A hs j hr g
  ·cases hc
 case h_18 t x y p =>
  split at hc
  ·rename_i A;cases hc;exact ZjE p A j hr g
  ·cases hc
 case h_19 t x lo hi p =>
  split at hc
  ·rename_i A;cases hc;exact Z7F p A j hr g
  ·rename_i e A;cases hs:szT P e with
   |none=>rw[hs] at hc;cases hc
   |some sz=>rw[hs] at hc;cases hc;exact ZjB p A hs j q hr g
  ·cases hc
 case h_20 x i p=>cases hc;exact Zc8 p j hr g
 case h_21 c p =>
  obtain⟨O,args,ts⟩:=c;cases H:Z2s P {callee:=O,args:=args,argTypes:=ts} with
  |none=>rw[H] at hc;cases hc;exact g.elim
  |some r =>
  rw[H] at hc;obtain rfl:=Option.some.inj hc;clear hc;have hc:=H;clear H;simp only[Z2s] at hc;split at hc
  ·split at hc
   ·rename_i x t hx T;have V:args=#[x]:=Array.ext' hx;have U:ts=#[t]:=Array.ext' T;subst V;subst U;split at hc
    ·rename_i A;cases hc;exact Zp1 (str:=true) p A j q hr g
    ·rename_i e A;cases hc;exact Zp1 (str:=false) p ⟨e,A⟩ j q hr g
    ·rename_i kt Y A;cases hc;exact Z6v j (λd B=>Zgw p A (λi ob h1 h2=>⟨_,q i ob h1 h2⟩) hr B) g
    ·cases hc
   ·cases hc
  ·rename_i f;split at hc
   ·rename_i hp;cases hc;obtain⟨fn,hf,hb,hn⟩:=Z1t hp;exact Zp4 p hf hb hn (W f) hh Q j q hr g
   ·cases hc
  ·cases hc;exact s_mm (big:=true) p j hr g
  ·cases hc;exact s_mm (big:=false) p j hr g
  ·cases hc
 case h_22 x p=>cases hc;exact ZjC p j hr g
 case h_23 f first caps p=>cases hc;exact ZoZ p j hr g
 case h_24 t p =>
  split at hc
  ·split at hc
   ·cases hc
    match ds,hr,g with
    |[],_,g=>exact Zc7 p j g
   ·cases hc
    match ds,hr,g with
    |[],_,g=>exact ZfI p j g
  ·cases hc
   match ds,hr,g with
   |[],_,g=>exact Zc7 p j g
 case h_25 t m k p =>
  split at hc
  ·rename_i kt Y A;split at hc
   ·rename_i kd z C E;cases hc;exact ZjD p A C E j (λi ob h1 h2=>⟨_,q i ob h1 h2⟩) hr g
   ·cases hc
  ·cases hc
 case h_26 t m k p =>
  split at hc
  ·rename_i kt Y A;split at hc
   ·rename_i kd z C E;cases hc;exact Z6v j (λd B=>Zdv p A C E (λi ob h1 h2=>⟨_,q i ob h1 h2⟩) hr B) g
   ·cases hc
  ·cases hc
 case h_27 x p=>cases hc;exact Z6v j (λd B=>Zdw p (λi ob h1 h2=>⟨_,q i ob h1 h2⟩) hr B) g
 case h_28 t x p =>
  split at hc
  ·cases hc
  ·rename_i u L A;cases hc;exact Z6v j (λd B=>Zgv p ⟨u,A,λX e=>L X e⟩ hr B) g
  ·cases hc
 case h_29 x xt t p =>
  split at hc
  ·cases hc
  ·rename_i u z L A E;cases hc;exact Z6v j (λd B=>Zln p ⟨u,A,λX e=>L X e⟩ E hr B) g
  ·cases hc
 case h_30 x p =>
  cases hc
  match ds,hr,g with
  |[],_,g=>exact g.elim
  |_::_,_,g=>exact g.elim
 case h_31=>cases hc;exact g.elim
end
theorem OpOut.wpIn {F:Fence} (i:Fence.Open F) {n:Nat} {P:Program} {o:Oper} {a:Act} {w:World} {next:Act->World->Prop} {Q:Exit->Act->World->Prop} (k: ∀ c,o.op≠ .defer c)
  {R:Value->World->Prop} (g:OpOut P o a.eval w R) (b: ∀ v w',R v w'->next (a.put o.dst v) w'):o.wpIn F n P a w next Q:=by
 refine⟨λf _=>i.fn f,?_⟩;rw[Oper.semAt_eq _ _ _ k];rcases g with⟨v,w',j,hr⟩|⟨f,vs,j,d⟩
 ·rw[j];exact b v w' hr
 ·rw[j,Oper.uponIn_enter];refine⟨(λh=>by rw[i.depth] at h;cases h),(i.calls d _).mono ?_⟩;rintro e w' ⟨v,rfl,hr⟩;exact b v w' hr
theorem Z0V {F:Fence} (e:Fence.Open F) {n:Nat} {P:Program} {o:Oper} {a:Act} {w w':World} {next:Act->World->Prop} {Q:Exit->Act->World->Prop} (d: ∀ c,o.op≠ .defer c)
  (g:(execOp a.eval o).run P w=.ok .skip w') (b:next (a.put o.dst Go.undef) w'):o.wpIn F n P a w next Q:=by
 refine⟨λf _=>e.fn f,?_⟩;rw[Oper.semAt_eq _ _ _ d,g];exact b
end Go.Sx
namespace Go.Sx
open Go.RowKit
variable [Globs] [Codes]
section
variable {cx:Cx} {s s':St} {φ φ':Mem} {h:Nat->Value} {tmps:Array Value} {w w':World}
theorem Mod.grown (hm:Mod cx s φ h tmps w) (c:Below w.heap.size w w') (a: ∀ b o u,φ b o=some u->φ' b o=some u) (k:Sub φ' w') (f: ∀ b o u,φ' b o=some u->φ b o=none->w.heap.size<=b) :
  Mod cx s φ' h tmps w':=by
 refine⟨hm.size,λt d p=>(hm.tm t d p).mono a,k,λb o v c=>a b o v (hm.ext b o v c),λb o u x h0=>?_,λi o q=>?_,hm.sep,c.os.trans hm.os,c.tape.trans hm.tape,c.output.trans hm.output,
  Nat.le_trans hm.grow c.size,hm.one,λb h1 h2=>?_,hm.hfix,λb o e=>?_⟩
 ·cases l:φ b o with
  |some y=>exact hm.new b o y l h0
  |none=>exact .inl (Nat.le_trans hm.grow (f b o u x l))
 ·have g:=hm.ob i o q;exact g.keep (λ_ c=>c) (λb e=>c.block b (g.blk_lt e).1) a (λb e off=>Z5t a f (g.blk_lt e).1 off) (λv d _ r=>r.mono a)
 ·rw[c.block b (Nat.lt_of_lt_of_le h1 hm.grow)];exact hm.frame b h1 h2
 ·obtain⟨h1,h2,m⟩:=hm.kept b o e;have j:=(Array.getElem?_eq_some_iff.1 h1).1;exact⟨by rw[c.block b j];exact h1,λoff=>by rw[Z5t a f j off];exact h2 off,m⟩
theorem Mod.drew (hm:Mod cx s φ h tmps w):Mod cx s φ h tmps w.drew :=
 hm.grown ((Below.refl _ w).drew) (λ_ _ _ h=>h) hm.mem (λ_ _ _ h h'=>by rw[h] at h';cases h')
theorem Mod.glob (hm:Mod cx s φ h tmps w) (b:GlobC cx.φ0 cx.w0 cx.Z):GlobC φ w cx.own:=by
 refine⟨λg cs c=>(b.ok g cs c).mono hm.ext,λg arr hx=>?_,λg hx=>?_⟩
 rotate_left
 ·obtain⟨⟨arr,ty,fr,m,h1,e⟩,h2⟩:=b.i g hx;have a:=(Array.getElem?_eq_some_iff.1 h1).1;exact⟨⟨arr,ty,fr,m,by rw[hm.frame g a h2];exact h1,e⟩,λd=>d.elim (λh=>by omega) h2⟩
 obtain⟨⟨ty,fr,h1⟩,h2⟩:=b.x g arr hx;have a:=(Array.getElem?_eq_some_iff.1 h1).1;exact⟨⟨ty,fr,by rw[hm.frame g a h2];exact h1⟩,λd=>d.elim (λh=>by omega) h2⟩
theorem Zgq {v:Value} {cs:List D} (r:RV φ noH v (.fptr cs)):RV φ h v (.fptr cs):=by
 obtain⟨b,o,vals,rfl,h1,h2⟩:=r.fptr_inv;exact .fptr b o cs vals h1 h2
theorem Mod.get (hm:Mod cx s φ h tmps w) (a:GlobC cx.φ0 cx.w0 cx.Z) {ds:List Deferred} {x:Operand} {y:X} (hx:Q3 x=some y):RV φ h (Act.eval ⟨tmps,ds⟩ x) (s.get y):=by
 cases x with
 |tmp t =>
  cases hx;simp only[Act.eval,St.get];cases hl:lk s.tm t with
  |none=>exact .undef _
  |some d=>exact hm.tm t d hl
 |const v=>cases hx;exact Zce φ h v
 |func f=>cases hx;exact .func _ _ _ _ _ rfl rfl (by simp) (by simp)
 |global g =>
  cases hx;simp only[St.get,glx];cases b:Globs.G g with
  |none=>exact .undef _
  |some cs=>exact Zgq ((hm.glob a).ok g cs b)
theorem Mod.gets (hm:Mod cx s φ h tmps w) (a:GlobC cx.φ0 cx.w0 cx.Z) {ds:List Deferred}: ∀ {xs:List Operand} {ys:List X},xs.mapM Q3=some ys->RVL φ h (xs.map (Act.eval ⟨tmps,ds⟩)) (ys.map s.get)
 |[],ys,hx=>by simp at hx;subst hx;trivial
 |x::xs,ys,hx=>by
  simp only[List.mapM_cons,Option.bind_eq_bind,Option.bind_eq_some_iff,Option.pure_def,Option.some.injEq] at hx;obtain⟨y,h1,b,h2,rfl⟩:=hx;exact⟨hm.get a h1,hm.gets a h2⟩
theorem ZkN {t:Nat} (a:s.clean t=true) {x:Operand} {y:X} (hx:Q3 x=some y):D.men t (s.get y)=false:=by
 cases x with
 |tmp n =>
  cases hx;simp only[St.get];cases hl:lk s.tm n with
  |none=>rfl
  |some d=>exact St.clean_tm a hl
 |const v=>cases hx;exact Zbc t v
 |func f=>cases hx;rfl
 |global g =>
  cases hx;simp only[St.get,glx];cases b:Globs.G g<;>rfl
theorem Z9u {t:Nat} (a:s.clean t=true): ∀ {xs:List Operand} {ys:List X},xs.mapM Q3=some ys->D.menL t (ys.map s.get)=false
 |[],ys,hx=>by simp at hx;subst hx;rfl
 |x::xs,ys,hx=>by
  simp only[List.mapM_cons,Option.bind_eq_bind,Option.bind_eq_some_iff,Option.pure_def,Option.some.injEq] at hx;obtain⟨y,h1,b,h2,rfl⟩:=hx;simp only[List.map_cons,D.menL,ZkN a h1,Z9u a h2,Bool.or_self]
theorem ZE {α:Type} (t:Nat) (d:α) (l:List (Nat × α)) (i:Nat):lk ((t,d)::Z8 t l) i=lk ((t,d)::l) i:=by grind [Zy,lk]
theorem Zlg {own:Nat->Prop} {hv:Value} {g:Gen} {ds:List D} (c:ObR own φ h w hv (.gen g ds)):hv.oneCell'=true:=by
 obtain⟨b,vals,o,_,_,_,a,_⟩:=c;cases g with
 |loop=>obtain⟨⟨b,rfl⟩,_⟩:=a;rfl
 |map=>obtain⟨⟨b,rfl⟩,_⟩:=a;rfl
 |mapC=>obtain⟨_,_,⟨b,rfl⟩,_⟩:=a;rfl
 |mapB=>obtain⟨_,_,⟨b,rfl⟩,_⟩:=a;rfl
 |mapS=>obtain⟨_,_,_,_,⟨b,rfl⟩,_⟩:=a;rfl
 |iter=>obtain⟨⟨b,rfl⟩,_⟩:=a;rfl
theorem ZdN {own:Nat->Prop} {obs:Nat->Option Ob} (a: ∀ i ob,obs i=some ob->ObR own φ h w (h i) ob) {c:D} {v:Value} {d:D} (r:RV φ h v d):RV φ h v (dva c obs d):=by
 unfold dva;split
 ·split
  ·rename_i b;rw[r.vec_inv];exact .pure (Z9o (a _ _ b))
  ·exact r
 ·split
  ·exact r
  ·rw[r.nils_inv];exact .pure .nil
 ·exact r
theorem Z8D {own:Nat->Prop} (a: ∀ i ob,lk s.ob i=some ob->ObR own φ h w (h i) ob): ∀ {c:D} {vs:List Value} {xs:List X},RVL φ h vs (xs.map s.get)->RVL φ h vs (xs.map λy=>dva c (lk s.ob) (s.get y))
 |_,[],[],_=>trivial
 |_,v::vs,x::xs,hr=>⟨ZdN a hr.1,Z8D a hr.2⟩
 |_,[],_::_,hr=>hr.elim
 |_,_::_,[],hr=>hr.elim
theorem Mod.setTmp (hm:Mod cx s φ h tmps w) {dst:Nat} {d:D} {v:Value} (a:dst<cx.N) (hr:RV φ h v d):Mod cx {s with tm:=(dst,d)::s.tm} φ h (tmps.setIfInBounds dst v) w:=by
 have:=hm.astep (dst:=dst) (id:=cx.bs) (d:=d) (nb:=none) (v:=v) (hv:=Go.undef) ⟨Below.refl _ _,λ_ _ _ h=>h,hm.mem,(λ_ _ _ h h'=>by rw[h] at h';cases h'),hr,(λ_ h=>by cases h)⟩ a (Nat.le_refl _)
  (λh=>absurd rfl h) (λh=>absurd rfl h) (λh=>absurd rfl h)
 exact this
def Z0B (cx:Cx) (ds:List Deferred) (K:St->Prop) (a:Act) (w':World):Prop:=a.defers=ds/\ ∃ s' φ' h',K s'/\Mod cx s' φ' h' a.tmps w'
theorem Z8r {i id:Nat} {s:St} (h:s.clean i=true):St.clean i ⟨s.tm,Z8 id s.ob⟩=true:=by
 simp only[St.clean,Bool.and_eq_true] at h ⊢;refine⟨h.1,?_⟩;have h2:=h.2;clear h;generalize s.ob=l at *
 induction l with
 |nil=>rfl
 |cons p l a =>
  obtain⟨j,o⟩:=p;simp only[List.all_cons,Bool.and_eq_true] at h2;simp only[Z8];split
  ·exact a h2.2
  ·simp only[List.all_cons,Bool.and_eq_true];exact⟨h2.1,a h2.2⟩
theorem Z8C {nm:List Nat}: ∀ {vs:List Value} {xs:List D},RVL φ h vs xs->RVL φ (hcal h nm) vs (xs.map (D.ren (idx · nm)))
 |[],[],_=>trivial
 |_::_,_::_,hr=>⟨Z1r hr.1,Z8C hr.2⟩
 |[],_::_,hr=>hr.elim
 |_::_,[],hr=>hr.elim
theorem Z94 (hm:Mod cx s φ h tmps w) (j:GlobC cx.φ0 cx.w0 cx.Z) {P:Program} {o:Oper} {ds:List Deferred} {t:TypeId} {x k y:Operand} {e:SK} (hk:Zga P t k=some e) (g:o.op=.insert t x k y\/o.op=.mapUpdate t x k y)
  {f i:D} {obs:Nat->Option Ob} {r:Nat × Nat × Nat × Ob} (a:stO (e.at s) f i obs=some r):StOp P o (Act.eval ⟨tmps,ds⟩) φ h (e.at s) x y:=by
 unfold Zga at hk;split at hk
 ·rename_i key c;cases hk;obtain⟨v,kd,rfl,rfl,h1,h2⟩:=ZkO c;exact .inr ⟨t,_,kd,_,rfl,g,h1,h2,Z2g φ h v⟩
 ·split at hk
  ·rename_i kd l d hx;cases hk;by_cases b:isKD kd (s.get l)=true
   ·simp only[SK.at,b,if_true] at a ⊢;exact .inr ⟨t,_,kd,_,rfl,g,d,b,hm.get j hx⟩
   ·exfalso;simp only[SK.at,b] at a;unfold stO at a;cases f<;>cases a
  ·cases hk
theorem Q9 {F:Fence} (N:Fence.Open F) {n:Nat} {P:Program} {fz:Bool} {ops:Array Oper} {o:Oper} {so:SOp} {K:St->Prop} {Q:Exit->Act->World->Prop} {ds:List Deferred} {bt:Nat->Bool} {bs:Nat} (hbs:cx.bs<=bs) (A:GlobC cx.φ0 cx.w0 cx.Z) (hc:QL P bt fz ops o=some so)
  (hd: ∀ d,o.dst=some d->d<cx.N) (hm:Mod cx s φ h tmps w) (Y:stp P bs so s K) :
  if Region.wanted o (yielded ops tmps) then o.wpIn F n P ⟨tmps,ds⟩ w (Z0B cx ds K) Q
  else (∀ f,o.about P w (Act.eval ⟨tmps,ds⟩)=some f->F.fn f)/\Z0B cx ds K (Act.put ⟨tmps,ds⟩ o.dst Go.undef) w:=by
 have M: ∀ dst:Option Nat,(∀ d,dst=some d->d<cx.N)->Mod cx (s.put dst .nov) φ h (Act.put ⟨tmps,ds⟩ dst Go.undef).tmps w:=λdst hdd=>by
  cases dst with
  |none=>exact hm
  |some t =>
   have:=hm.astep (dst:=t) (id:=cx.bs) (d:=.nov) (nb:=none) (v:=Go.undef) (hv:=Go.undef) ⟨Below.refl _ _,λ_ _ _ h=>h,hm.mem,(λ_ _ _ h h'=>by rw[h] at h';cases h'),.tuple #[] [] rfl (by simp),(λ_ h=>by cases h)⟩ (hdd t rfl) (Nat.le_refl _)
    (λh=>absurd rfl h) (λh=>absurd rfl h) (λh=>absurd rfl h)
   exact this.weaken (λi d hi=>by simp only[St.put,ZE] at hi;exact hi) (λi o hi=>hi)
 unfold QL at hc;cases X:Z0K ops o with
 |none=>rw[X] at hc;cases hc
 |some g =>
 rw[X] at hc
 -- the guard
 have C: ∀ {body skip:Prop},gud g s body skip->(Region.wanted o (yielded ops tmps)=true/\body)\/(Region.wanted o (yielded ops tmps)=false/\skip):=λ{body skip} S=>by
  unfold Z0K at X;cases U:o.guard with
  |none =>
   rw[U] at X;cases X;exact .inl ⟨by simp[Region.wanted,U],S⟩
  |some jw =>
   obtain⟨j,want⟩:=jw;rw[U] at X;simp only[] at X;cases V:(ops[j]?).bind (·.dst) with
   |none=>rw[V] at X;cases X
   |some t =>
    rw[V] at X;cases X;simp only[gud] at S;split at S
    ·rename_i b q;have hv:tmps.getD t Go.undef=.bool b:=(hm.tm t _ q).bool_inv;have ht:tmps[t]? = some (.bool b):=by
      cases hq:tmps[t]? with
      |none=>simp[Array.getD_eq_getD_getElem?,hq,Go.undef] at hv
      |some v=>simp[Array.getD_eq_getD_getElem?,hq] at hv;rw[hv]
     have hy:yielded ops tmps j=some b:=by simp[yielded,V,ht]
     split at S
     ·rename_i hbw;exact .inl ⟨by simp[Region.wanted,U,hy,hbw],S⟩
     ·rename_i hbw;exact .inr ⟨by simp[Region.wanted,U,hy,hbw],S⟩
    ·rename_i q;obtain⟨vs,hv,hvs,_⟩:=(hm.tm t _ q).tuple_inv;have hv0:tmps.getD t Go.undef=.tuple #[]:=by
      rw[hv];congr 1;exact Array.eq_empty_of_size_eq_zero (by simpa using hvs)
     have hy:yielded ops tmps j=none:=by
      cases hq:tmps[t]? with
      |none=>simp[yielded,V,hq]
      |some v =>
       have:v=.tuple #[]:=by simpa [Array.getD_eq_getD_getElem?,hq] using hv0
       simp[yielded,V,hq,this]
     exact .inr ⟨by simp[Region.wanted,U,hy],S⟩
    ·exact S.elim
 have other:(match Z4d P fz o with
   |some (op,xs)=>(xs.mapM Q3).map λxs=>SOp.a o.dst g op xs
   |none=>none)=some so->if Region.wanted o (yielded ops tmps) then o.wpIn F n P ⟨tmps,ds⟩ w (Z0B cx ds K) Q
  else (∀ f,o.about P w (Act.eval ⟨tmps,ds⟩)=some f->F.fn f)/\Z0B cx ds K (Act.put ⟨tmps,ds⟩ o.dst Go.undef) w:=by
  intro hc;split at hc
  ·rename_i op xs hca;cases hxs:xs.mapM Q3 with
   |none=>rw[hxs] at hc;cases hc
   |some ys =>
    rw[hxs] at hc;cases hc;rcases C Y with⟨I,q⟩|⟨I,hk⟩
    ·rw[if_pos I];have hnd: ∀ c,o.op≠ .defer c:=λc hdf=>by
      unfold Z4d at hca;rw[hdf] at hca;cases hca;exact False.elim q
     refine OpOut.wpIn N hnd (Z8o (own:=cx.own) (obs:=lk s.ob) hca (λf=>rfl) (λv=>rfl) hm.one ((hm.glob A).sub λ_ h=>h.elim) hm.mem (λi ob hi _=>hm.ob i ob hi) (hm.gets A hxs) ?_ q) ?_
     ·intro d ob hk;cases m:o.dst with
      |none=>rw[m] at hk;exact hk.elim
      |some t=>rw[m] at hk;exact Z9u hk.1 hxs
     ·rintro v w' ⟨d,nb,φ',hv,hk,B⟩;cases m:o.dst with
      |none =>
       rw[m] at hk;cases nb with
       |none=>exact⟨rfl,s,φ',h,hk,hm.grown B.below B.mono B.mem B.new⟩
       |some ob=>exact hk.elim
      |some t =>
       rw[m] at hk B;cases nb with
       |none =>
        have:=hm.astep B (hd t m) (Nat.le_trans hbs (Nat.le_add_right _ _)) (λh=>absurd rfl h) (λh=>absurd rfl h) (λh=>absurd rfl h);exact⟨rfl,_,φ',h,hk,this.weaken (λi d hi=>by simp only[St.put,ZE] at hi;exact hi) (λi o hi=>hi)⟩
       |some ob =>
        have hone:hv.oneCell'=true:=by
         have G:=B.ob ob rfl;cases ob with
         |cells cs=>obtain⟨b,vals,e,rfl,_⟩:=G;rfl
         |arr fz sz e es =>
          obtain⟨a,c,rfl⟩:=Z1v G;rfl
         |gen gg gds=>exact Zlg G
        have:=hm.astep B (hd t m) (Nat.le_trans hbs (Nat.le_add_right _ _)) (λ_ _ _ h=>St.clean_tm hk.1 h) (λ_ _ _ h=>St.clean_ob hk.1 h) (λ_=>hone);exact⟨rfl,_,φ',_,hk.2,this.weaken (λi d hi=>by simp only[St.put2,ZE] at hi;exact hi) (λi o hi=>by simp only[St.put2,ZE] at hi;exact hi)⟩
    ·rw[if_neg (by rw[I];simp)];exact⟨λf _=>N.fn f,by cases o.dst<;>rfl,_,φ,h,hk,M o.dst hd⟩
  ·cases hc
 simp only[] at hc;split at hc
 ·-- a store
  rename_i t x y T;split at hc
  ·rename_i sz x' y' hs hx hy m;cases hc;rcases C Y with⟨I,q⟩|⟨I,hk⟩
   ·rw[if_pos I];split at q
    ·rename_i a b id ob p;obtain⟨W,hk⟩:=q;obtain⟨w',he,L⟩:=Z3A (o:=o) (ρ:=Act.eval ⟨tmps,ds⟩) (.inl ⟨_,_,rfl,T,hs⟩) hm (hm.get A (ds:=ds) hx) (hm.get A hy) p W;refine Z0V N (by rw[T];intro c h;cases h) he ⟨by rw[m];rfl,_,φ,h,hk,?_⟩;rw[m];exact L.weaken (λ_ _ h=>h) (λi o' hi=>by simp only[ZE] at hi;exact hi)
    ·exact q.elim
   ·rw[if_neg (by rw[I];simp)];exact⟨λf _=>N.fn f,by rw[m];rfl,s,φ,h,hk,by rw[m];exact hm⟩
  ·cases hc
 ·-- an insert
  rename_i t x k y T;split at hc
  ·rename_i sk x' y' hkey hx hy m;cases hc;rcases C Y with⟨I,q⟩|⟨I,hk⟩
   ·rw[if_pos I];split at q
    ·rename_i a b id ob p;obtain⟨W,hk⟩:=q;have H:StOp P o (Act.eval ⟨tmps,ds⟩) φ h (sk.at s) x y:=Z94 hm A hkey (.inl T) p;obtain⟨w',he,L⟩:=Z3A (o:=o) (ρ:=Act.eval ⟨tmps,ds⟩) H hm (hm.get A (ds:=ds) hx) (hm.get A hy) p W;refine Z0V N (by rw[T];intro c h;cases h) he ⟨by rw[m];rfl,_,φ,h,hk,?_⟩;rw[m];exact L.weaken (λ_ _ h=>h) (λi o' hi=>by simp only[ZE] at hi;exact hi)
    ·exact q.elim
   ·rw[if_neg (by rw[I];simp)];exact⟨λf _=>N.fn f,by rw[m];rfl,s,φ,h,hk,by rw[m];exact hm⟩
  ·cases hc
 ·-- an insert
  rename_i t x k y T;split at hc
  ·rename_i sk x' y' hkey hx hy m;cases hc;rcases C Y with⟨I,q⟩|⟨I,hk⟩
   ·rw[if_pos I];split at q
    ·rename_i a b id ob p;obtain⟨W,hk⟩:=q;have H:StOp P o (Act.eval ⟨tmps,ds⟩) φ h (sk.at s) x y:=Z94 hm A hkey (.inr T) p;obtain⟨w',he,L⟩:=Z3A (o:=o) (ρ:=Act.eval ⟨tmps,ds⟩) H hm (hm.get A (ds:=ds) hx) (hm.get A hy) p W;refine Z0V N (by rw[T];intro c h;cases h) he ⟨by rw[m];rfl,_,φ,h,hk,?_⟩;rw[m];exact L.weaken (λ_ _ h=>h) (λi o' hi=>by simp only[ZE] at hi;exact hi)
    ·exact q.elim
   ·rw[if_neg (by rw[I];simp)];exact⟨λf _=>N.fn f,by rw[m];rfl,s,φ,h,hk,by rw[m];exact hm⟩
  ·cases hc
 ·-- an append
  rename_i args ts T;split at hc
  ·rename_i dst x y t u m E hts;split at hc
   ·rename_i e x' y' hu hx hy;split at hc
    ·rename_i i z hi hz;split at hc
     ·rename_i hcond;obtain⟨rfl,hsz,hby⟩:=hcond;cases hc;have hargs':args=#[x,y]:=Array.ext' E;have hts':ts=#[t,t]:=Array.ext' hts;subst hargs';subst hts';obtain⟨i',zv,hi',hzv,hzs,_⟩:=Qw hz;rw[hi] at hi';cases hi';rcases C Y with⟨I,q⟩|⟨I,hk⟩
      ·rw[if_pos I];split at q
       ·rename_i ys ext H;obtain⟨hyl,q⟩:=q;have hyv: ∃ news:List Value,((Act.eval ⟨tmps,ds⟩ y=.slice none 0 0/\ys.length=0)\/ ∃ a c,Act.eval ⟨tmps,ds⟩ y=.slice (some a) ys.length c/\ ∀ j u,news[j]? = some u->w.cell? (a.add j)=some u)/\news.length=ys.length*i.size ∧
          (∀ u∈news,u.oneCell'=true)/\ ∀ k x j d,ys[k]? = some x->x[j]? = some d->Rep φ (news.getD (k*i.size+j) Go.undef) d:=by
         have hyr:=hm.get A (ds:=ds) hy;generalize s.get y'=dy at *
         cases dy<;>simp only[Z4u,Z03] at H<;>try (cases H;done)
         case slice=>cases H;exact Z4E hm.mem hyr.slice_inv hsz hyl
         case vec id =>
          split at H
          ·rename_i fz' sz' e' es' G;cases H;have hv:=hyr.vec_inv;rw[hv];exact ZgZ (hm.ob id _ G) hsz hyl
          ·cases H
         case nils=>cases H;rw[hyr.nils_inv];exact Z4E hm.mem .nil hsz hyl
        have hbts: ∀ k:Nat,k<=1073741824->k<=maxLen/\k*i.bytes<=140737488355328:=λk hk=>by
         refine⟨by unfold maxLen;omega,?_⟩
         calc k*i.bytes<=1073741824*131072:=Nat.mul_le_mul hk hby
          _=140737488355328:=rfl
        have finish: ∀ {s1:St} {fz':Bool} {es:List (List D)},Mod cx s1 φ h tmps w->s1.clean (bs+dst)=true->ObR cx.own φ h w (Act.eval ⟨tmps,ds⟩ x) (.arr fz' i.size e es) →
          (∀ j b,(lk s1.ob j).isSome->blk (h j)=some b->blk (Act.eval ⟨tmps,ds⟩ x)≠some b)->(∀ b,blk (Act.eval ⟨tmps,ds⟩ x)=some b-> ¬ (cx.kp b).isSome)->es.length+ys.length<=1073741824->K (s1.put2 dst (bs+dst) (.vec (bs+dst)) (.arr fz' i.size e (es++ys))) →
          o.wpIn F n P ⟨tmps,ds⟩ w (Z0B cx ds K) Q:=λ{s1 fz' es} hm1 hcl G hfree hnk hlen hk=>by
         obtain⟨v',w',φ',hrun,L⟩:=Z8A (P:=P) (ty:=o.type) (dst:=dst) (id:=bs+dst) hu hi hzv rfl rfl hzs hsz hm1 (hd dst m) (Nat.le_trans hbs (Nat.le_add_right _ _)) hcl G hfree hnk hyv hyl (hbts _ hlen).1 (hbts _ hlen).2;have hex:(execOp (Act.eval ⟨tmps,ds⟩) o).run P w=.ok (.value v') w':=by
          refine Qp T ?_;simp[builtin,hrun]
         refine OpOut.wpIn N (by rw[T];intro c h;cases h) (R:=λv w2=>v=v'/\w2=w') (.inl ⟨v',w',hex,rfl,rfl⟩) ?_;rintro v2 w2 ⟨e1,e2⟩;rw[e1,e2];refine⟨by rw[m];rfl,_,φ',updH h (bs+dst) v',hk,?_⟩;rw[m];exact L.weaken (λj d V=>by simp only[St.put2,ZE] at V;exact V) (λj d V=>by simp only[St.put2,ZE] at V;exact V)
        split at q
        ·rename_i hxd;obtain⟨h1,h2,hk⟩:=q;have hxv:=hm.get A (ds:=ds) hx;rw[hxd] at hxv;have hx0:=hxv.nils_inv;refine finish (s1:=s) (es:=[]) hm h2 ?_ ?_ (by rw[hx0];intro b q;cases q) (by simpa using h1) (by simpa using hk)
         ·rw[hx0];exact⟨hsz,by simp,[],World.ownsRow_nil w 0 e i.size,by simp,λb q=>by cases q⟩
         ·intro j b _ _ q;rw[hx0] at q;cases q
        ·rename_i id hxd;have hxv:=hm.get A (ds:=ds) hx;rw[hxd] at hxv;have hx0:=hxv.vec_inv;split at q
         ·rename_i fz' sz' e' es G;obtain⟨rfl,rfl,h1,h2,hk⟩:=q;refine finish (s1:=⟨s.tm,Z8 id s.ob⟩) (hm.weaken (λ_ _ h=>h) λi o hi=>?_) (Z8r h2) ?_ ?_ ?_ h1 hk
          ·rw[Zy] at hi;split at hi
           ·cases hi
           ·exact hi
          ·rw[hx0];exact hm.ob id _ G
          ·intro j b V hbj hbx;rw[hx0] at hbx;rw[Zy] at V;split at V
           ·cases V
           ·rename_i hne;exact hne (hm.sep j id b V (by simp[G]) hbj hbx)
          ·intro b q hkb;rw[hx0] at q;obtain⟨ko,hko⟩:=Option.isSome_iff_exists.1 hkb;exact (hm.kept b ko hko).2.2 id (by simp[G]) q
         ·exact q.elim
        ·exact q.elim
       ·exact q.elim
      ·rw[if_neg (by rw[I];simp)];exact⟨λf _=>N.fn f,by rw[m];rfl,_,φ,h,hk,by rw[m];exact M (some dst) (λd hd'=>by cases hd';exact hd dst m)⟩
     ·cases hc
    ·cases hc
   ·cases hc
  ·cases hc
 ·-- a copy
  rename_i args ts T;split at hc
  ·rename_i dst x y t u m E hts;split at hc
   ·rename_i e x' y' hu hx hy;split at hc
    ·rename_i i hin;cases hc;have U:o.guard=none:=by
      unfold Z0K at X;cases hq:o.guard with
      |none=>rfl
      |some jw =>
       rw[hq] at X;simp only[Option.map_eq_some_iff] at X;obtain⟨_,_,h2⟩:=X;cases h2
     rw[if_pos (by simp[Region.wanted,U])];have hst1:(match stO ((SK.cp dst i.size).at s) (s.get x') (s.get y') (lk s.ob) with
      |some (a,b,id,o)=>a<b/\K {s with ob:=(id,o)::Z8 id s.ob}
      |none=>False):=Y
     split at hst1
     ·rename_i a b id ob p;obtain⟨W,hk⟩:=hst1;have hdead:lk s.tm dst=none:=by
       cases hq:lk s.tm dst with
       |none=>rfl
       |some d =>
        exfalso;simp only[SK.at,hq,Option.isNone_some,Bool.false_eq_true,if_false] at p;unfold stO at p;cases hxx:s.get x'<;>rw[hxx] at p<;>cases p
      simp only[SK.at,hdead,Option.isNone_none,if_true] at p;have ho':o.op=.call {callee:=.builtin .copy,args:=#[x,y],argTypes:=#[t,u]}:=by
       rw[T];have h1:args=#[x,y]:=by rw[<- Array.toArray_toList (xs:=args),E]
       have h2:ts=#[t,u]:=by rw[<- Array.toArray_toList (xs:=ts),hts]
       rw[h1,h2]
      obtain⟨v,w',he,L⟩:=ZdV (ρ:=Act.eval ⟨tmps,ds⟩) ho' hu hin hm (hm.get A (ds:=ds) hx) (hm.get A hy) p W;refine⟨λf _=>N.fn f,?_⟩;rw[Oper.semAt_eq _ _ _ (by rw[T];intro c h;cases h),he,Oper.uponIn_value];refine⟨by cases o.dst<;>rfl,_,φ,h,hk,?_⟩;rw[m];refine (L.setTmp (hd dst m) (.undef v)).weaken (λt' d hi=>?_) (λi o' hi=>by simp only[ZE] at hi;exact hi);simp only[lk];split
      ·rename_i et;subst et;have hi':lk s.tm t'=some d:=hi;rw[hdead] at hi';cases hi'
      ·exact hi
     ·exact hst1.elim
    ·cases hc
   ·cases hc
  ·cases hc
 ·-- a call
  rename_i c _ _ T;split at hc
  ·rename_i cx' cxs O;split at hc
   ·rename_i x' xs' hx hxs;cases hc
    -- the value called and the arguments
    have hcall: ∃ g',c.callee=.value g'/\cx'=g'/\cxs=c.args.toList:=by
     obtain⟨cal,args,ts⟩:=c;unfold ZdY at O;cases cal with
     |value g' =>
      cases g'<;>simp only[] at O<;>first|(split at O;all_goals first|(cases O;exact⟨_,rfl,rfl,rfl⟩)|cases O)|(cases O;exact⟨_,rfl,rfl,rfl⟩)
     |builtin b=>cases O
     |invoke _ _=>cases O
    obtain⟨g',hg',rfl,rfl⟩:=hcall;rcases C Y with⟨I,q⟩|⟨I,hk⟩
    ·rw[if_pos I];obtain⟨nm,R,base,hnd,hin,hb1,hb2,hcd2,hK⟩:=q;have hrun:(execOp (Act.eval ⟨tmps,ds⟩) o).run P w=(Z3b (Act.eval ⟨tmps,ds⟩ cx') (c.args.map (Act.eval ⟨tmps,ds⟩))).run P w:=by
      simp only[execOp,T,resolve,hg',Z3b]
     have E: ∀ cd:D,RVL φ h (c.args.map (Act.eval ⟨tmps,ds⟩)).toList (xs'.map λy=>dva cd (lk s.ob) (s.get y)):=by
      intro cd
      have:=hm.gets A (ds:=ds) hxs;rw[Array.toList_map];exact Z8D (own:=cx.own) (λi ob hi=>hm.ob i ob hi) this
     have J:=hcd2 F N n φ (hcal h nm) w _ _ (hm.loc (hm.glob A) hnd) (Z1r (hm.get A (ds:=ds) hx)) (Z8C (E _));rw[<- hrun] at J;refine⟨λf _=>N.fn f,?_⟩;rw[Oper.semAt_eq _ _ _ (by rw[T];intro c h;cases h)];have fin: ∀ e w',Post (ZT s.ob (idx · nm) 0 nm) φ (hcal h nm) w R e w'-> ∃ v,e=.returned v/\Z0B cx ds K (Act.put ⟨tmps,ds⟩ o.dst v) w':=by
      rintro e w' hpost;obtain⟨v,r,ob',φ',h',rfl,hR,hrv,ha⟩:=hpost.dest λr ob' hR=>(hK r ob' hR).1;obtain⟨q6,q5⟩:=hm.back (base:=base) (by omega) hb2 hnd hin ha;refine⟨v,rfl,by cases o.dst<;>rfl,_,φ',hbak h h' base,(hK r ob' hR).2,?_⟩;cases m:o.dst with
      |none=>exact q6
      |some t=>exact (q6.setTmp (hd t m) (q5 v r hrv)).weaken (λi d hi=>by simp only[St.put,ZE] at hi;exact hi) (λi o hi=>hi)
     unfold DynOut at J;split at J
     ·rename_i f a w1 hrr;rw[hrr,Oper.uponIn_enter];refine⟨(λh=>by rw[N.depth] at h;cases h),CallsIn.mono (N.lessCall J) ?_⟩;intro e w' hp;obtain⟨v,rfl,hn⟩:=fin e w' hp;exact hn
     ·rename_i l f a asg body w1 hrr;rw[hrr,Oper.uponIn_round];refine⟨(λh=>by rw[N.depth] at h;cases h),RoundIn.mono (N.lessRound J) ?_⟩;intro e w' hp;obtain⟨v,rfl,hn⟩:=fin e w' hp;exact hn
     ·exact J.elim
    ·rw[if_neg (by rw[I];simp)];exact⟨λf _=>N.fn f,by cases o.dst<;>rfl,_,φ,h,hk,M o.dst hd⟩
   ·cases hc
  ·exact other hc
 ·exact other hc
end
end Go.Sx
namespace Go.Sx
open Go.RowKit
variable [Globs] [Codes]
def thenS (K:St->Prop) (Q:Exit->St->Prop):Exit->St->Prop
 |.normal,s=>K s
 |e,s=>Q e s
def QB (id:Nat) (Q:Exit->St->Prop):Exit->St->Prop
 |.exit i,s=>if i=id then Q .normal s else Q (.exit i) s
 |e,s=>Q e s
def QJ (N:Nat) (ops:Array Oper):Bool:=ops.toList.all λo=>match o.dst with
 |some d=>decide (d<N)
 |none=>true
def Z6e:Option (Nat × Bool)->List Nat
 |some (t,_)=>[t]
 |none=>[]
def Z0U:List X->List Nat
 |[]=>[]
 |.t t::r=>t::Z0U r
 |.c _::r=>Z0U r
def Q4 (pre:List Nat) (i j:Nat):Bool:=(pre.getD j 0).testBit i
def Z6B (pre:List Nat):List Edge->Nat->Nat
 |[],m=>m
 |e::r,m=>Z6B pre r (if Region.binds .any e then (m |||2 ^ e.on) |||pre.getD e.on 0 else m)
def Z2r (pre:List Nat) (ops:Array Oper):Bool :=
 (pre.length == ops.size) &&
 (List.range ops.size).all λi=>match ops[i]? with
  |some o=>(o.after.toList.all λe=>!Region.binds .any e ||decide (e.on<i)) && (pre.getD i 0 &&& Z6B pre o.after.toList 0) == pre.getD i 0
  |none=>false
structure Eff where
 rd:List Nat
 tm:Option (Nat × D)
 ob:List (Nat × Option Ob)
 cd:Option Nat
def setO:List (Nat × Option Ob)->Obs->Obs
 |[],ob=>ob
 |(i,none)::r,ob=>Z8 i (setO r ob)
 |(i,some o)::r,ob=>(i,o)::Z8 i (setO r ob)
def St.app (s:St) (e:Eff):St:=⟨match e.tm with|some (t,d)=>(t,d)::Z8 t s.tm|none=>s.tm,setO e.ob s.ob⟩
def vids:List D->List Nat
 |[]=>[]
 |.vec i::r=>i::vids r
 |_::r=>vids r
def pids:List D->List Nat
 |[]=>[]
 |.ptr i _::r=>i::pids r
 |_::r=>pids r
def rdA (obs:Nat->Option Ob):AOp->List D->List Nat
 |.load true sz,[.ptr id off]=>id::(match obs id with|some (.cells cs)=>vids ((cs.drop off).take sz)|_=>[])
 |.load ..,[.vptr id ..]=>[id]
 |.load ..,xs=>pids xs
 |.b2s,xs=>vids xs
 |.mlook ..,[.map id,_]=>[id]
 |.ext k,xs=>Z8i obs k xs
 |.len _,xs=>vids xs
 |.iaddr _,xs=>vids xs
 |.slice ..,xs=>vids xs
 |.build ..,xs=>vids xs
 |.bslice ..,xs=>vids xs
 |.call _,xs=>vids xs
 |_,_=>[]
def SK.tmps:SK->List Nat
 |.k _ x=>Z0U [x]
 |.cp dst _=>[dst]
 |_=>[]
def SOp.tmps:SOp->List Nat
 |.a _ g _ xs=>Z0U xs++Z6e g
 |.st g b x y=>Z0U [x,y]++Z6e g++b.tmps
 |.app _ g _ _ _ x y=>Z0U [x,y]++Z6e g
 |.cd _ g x xs=>Z0U (x::xs)++Z6e g
def SOp.gd:SOp->Option (Nat × Bool)
 |.a _ g _ _=>g
 |.st g _ _ _=>g
 |.app _ g _ _ _ _ _=>g
 |.cd _ g _ _=>g
def SOp.dst:SOp->Option Nat
 |.a d _ _ _=>d
 |.st _ _ _ _=>none
 |.app d _ _ _ _ _ _=>some d
 |.cd d _ _ _=>d
def HasB (P:Program) (b:Nat) (o:SOp) (s:St) (e:Eff):Prop :=
 match o with
 |.a dst _ op xs=>e.rd=rdA (lk s.ob) op (xs.map s.get)/\e.cd=none/\evl P (b+dst.getD 0) op (xs.map s.get) (lk s.ob) λd nb=>e.tm=dst.map (·,d)/\match nb with
   |none=>e.ob=[]
   |some o=>dst.isSome=true/\e.ob=[(b+dst.getD 0,some o)]
 |.st _ sz x y=>match stO (sz.at s) (s.get x) (s.get y) (lk s.ob) with
  |some (a,b,id,o)=>a<b/\e=⟨[id],none,[(id,some o)],none⟩
  |none=>False
 |.app dst _ fz sz c x y=>match Z4u (lk s.ob) (s.get y) with
  |some (ys,_)=>(∀ q∈ys,q.length=sz)/\(match s.get x with
   |.nils=>ys.length<=1073741824/\e=⟨vids [s.get y],some (dst,.vec (b+dst)),[(b+dst,some (.arr fz sz c ys))],none⟩
   |.vec id=>match lk s.ob id with
    |some (.arr f g k es)=>g=sz/\k=c/\es.length+ys.length<=1073741824/\e=⟨id::vids [s.get y],some (dst,.vec (b+dst)),[(b+dst,some (.arr f sz c (es++ys))),(id,none)],none⟩
    |_=>False
   |_=>False)
  |none=>False
 |.cd dst _ x xs=>∃ nm r ob' base,nm.Nodup/\(∀ i∈nm,(lk s.ob i).isSome)/\b+4096<=base ∧
   CallL P ((s.get x).ren (idx · nm)) ((xs.map λy=>dva (s.get x) (lk s.ob) (s.get y)).map (D.ren (idx · nm))) (ZT s.ob (idx · nm) 0 nm) (λr0 ob0=>r0=r/\ob0=ob')/\r.isPan=false ∧
   e=⟨nm++vids (xs.map s.get),dst.map (·,r.ren (bkN base nm)),(renO (λj=>match nm[j]? with|some i=>i|none=>base+j) (bkN base nm) ob').map (λp=>(p.1,some p.2))++nm.map (·,none),some base⟩
def Has (P:Program) (b:Nat) (o:SOp) (s:St) (e:Eff):Prop:=gud o.gd s (HasB P b o s e) (e=⟨[],o.dst.map (·,.nov),[],none⟩)
def Z7m (P:Program) (b:Nat):List SOp->St->List Eff->St->Prop
 |[],s,[],s'=>s'=s
 |o::r,s,e::es,s'=>Has P b o s e/\Z7m P b r (s.app e) es s'
 |_,_,_,_=>False
def Eff.men (i:Nat) (e:Eff):Bool:=(match e.tm with|some (_,d)=>D.men i d|none=>false) ||e.ob.any λp=>match p.2 with|some o=>Ob.men i o|none=>false
def otop:List (Nat × Option Ob)->Nat
 |[]=>0
 |(_,none)::r=>otop r
 |(i,some o)::r=>max (max (i+1) (D.topL o.parts)) (otop r)
def Eff.top (e:Eff):Nat:=max (match e.tm with|some (_,d)=>D.top d|none=>0) (otop e.ob)
def Z1l (o1 o2:SOp):Bool :=
 (match o1.dst with|some t=>!(o2.tmps.contains t) && (o2.dst != some t)|none=>true) && (match o2.dst with|some t=>!(o1.tmps.contains t)|none=>true)
def Z9x (a b:Eff):Bool :=
 match a.ob,b.ob with
 |[],[]=>true
 |d,c=>(d.all λp=>!(b.rd.contains p.1) && !(c.any λq=>q.1 == p.1)) && (c.all λp=>!(a.rd.contains p.1))
def Zc0 (pre:List Nat) (j:Nat) (o2:SOp):Nat->List SOp->Bool
 |i,o1::r=>(Q4 pre i j ||Z1l o1 o2) && Zc0 pre j o2 (i+1) r
 |_,[]=>true
def Z96 (pre:List Nat) (a:List SOp):Nat->List SOp->Bool
 |j,o2::r=>Zc0 pre j o2 0 (a.take j) && Z96 pre a (j+1) r
 |_,[]=>true
def Z7U:Nat->List Eff->List (Nat × Eff)
 |_,[]=>[]
 |i,e::r=>match e.ob,e.rd with
  |[],[]=>Z7U (i+1) r
  |_,_=>(i,e)::Z7U (i+1) r
def allI (p:Nat->Eff->Bool):Nat->List Eff->Bool
 |i,e::r=>p i e && allI p (i+1) r
 |_,[]=>true
def Z5v (b:Nat) (pre:List Nat) (a:List Eff):Nat->List SOp->List Eff->Bool
 |j,o::r,e::es=>(match e.ob with
   |[]=>true
   |_=>match o.dst with
    |some t=>allI (λi x=>i == j ||Q4 pre j i || !(x.men (b+t))) 0 a
    |none=>true) && (match e.cd with
   |none=>true
   |some q=>allI (λi x=>i == j ||Q4 pre j i ||decide (x.top<=q)) 0 a) && Z5v b pre a (j+1) r es
 |_,_,_=>true
def dchk (b:Nat) (pre:List Nat) (ops:List SOp) (es:List Eff) (s:St):Bool :=
 Z96 pre ops 0 ops && ((Z7U 0 es).all λx=>(Z7U 0 es).all λy=>decide (x.1<=y.1) ||Q4 pre y.1 x.1 ||Z9x y.2 x.2) && Z5v b pre es 0 ops es &&
 (es.all λe=>match e.cd with|some q=>decide (s.top<=q)|none=>true)
def HasPn (P:Program) (b:Nat) (o:SOp) (s:St) (v:Value) (e:Eff):Prop:=match o with
 |.cd _ none x xs=>∃ nm base,nm.Nodup/\(∀ i∈nm,(lk s.ob i).isSome)/\b+4096<=base ∧
   CallL P ((s.get x).ren (idx · nm)) ((xs.map λy=>dva (s.get x) (lk s.ob) (s.get y)).map (D.ren (idx · nm))) (ZT s.ob (idx · nm) 0 nm) (λr _=>r=.pan v) ∧
   e=⟨nm++vids (xs.map s.get),none,[],some base⟩
 |_=>False
def HasC (P:Program) (b:Nat) (o:SOp) (s:St) (q:Eff × Option (Nat × Nat × D)):Prop:=match q.2 with
 |none=>Has P b o s q.1
 |some (id,off,m)=>match o with
  |.a (some t) none (.load false 1) [x]=>s.get x=.ptr id off/\q.1=⟨[],some (t,m),[],none⟩
  |_=>False
def HasO (P:Program) (b:Nat) (pre:List Nat) (pan:Option (Nat × Value)) (k:Nat) (o:SOp) (s:St) (q:Eff × Option (Nat × Nat × D)):Prop:=match pan with
 |none=>HasC P b o s q
 |some (c,v)=>if k=c then HasPn P b o s v q.1 else if Q4 pre c k=true then q.1=⟨[],none,[],none⟩ else HasC P b o s q
def Z4t (P:Program) (b:Nat) (pre:List Nat) (pan:Option (Nat × Value)):Nat->List SOp->St->List (Eff × Option (Nat × Nat × D))->St->Prop
 |_,[],s,[],s'=>s'=s
 |k,o::r,s,q::qs,s'=>HasO P b pre pan k o s q/\Z4t P b pre pan (k+1) r (s.app q.1) qs s'
 |_,_,_,_,_=>False
def Z9F (d:D):Option D->Bool
 |some x=>match d,x with
  |.vec m,.vec n=>n == m
  |.int k m,.int a n=>decide (a=k) && decide (n=m)
  |_,_=>false
 |none=>false
def Z0m (d:D) (off:Nat):Option Ob->Bool
 |some (.cells cs)=>Z9F d cs[off]?
 |_=>false
def numD:D->Bool
 |.int _ _=>true
 |_=>false
def ZU (w:Bool) (pre:List Nat) (s:St) (es:List Eff):Nat->List (Eff × Option (Nat × Nat × D))->Bool
 |k,(_,some (id,off,m))::r=>match numD m == w with
  |true=>Z0m m off (lk s.ob id) && allI (λj e=>j == k ||Q4 pre k j ||(match lk e.ob id with|none=>true|some x=>Z0m m off x)) 0 es && ZU w pre s es (k+1) r
  |false=>ZU w pre s es (k+1) r
 |k,(_,none)::r=>ZU w pre s es (k+1) r
 |_,[]=>true
def ZaQ:List (Eff × Option (Nat × Nat × D))->Bool
 |(_,some (_,_,m))::r=>numD m ||ZaQ r
 |(_,none)::r=>ZaQ r
 |[]=>false
theorem QX {pre:List Nat} {s:St} {es:List Eff}: ∀ {qs:List (Eff × Option (Nat × Nat × D))} {k:Nat},ZaQ qs=false->ZU true pre s es k qs=true
 |[],_,_=>rfl
 |(_,none)::r,k,h=>by simp only[ZU];exact QX (qs:=r) h
 |(_,some (_,_,m))::r,k,h=>by
  simp only[ZaQ,Bool.or_eq_false_iff] at h;simp only[ZU,h.1];exact QX (qs:=r) h.2
structure Hints where
 bt:Nat->Bool
 fz:Nat->Bool
 nd:Nat->List Nat
 lv:Nat->List Nat
 fg:Nat->Option (List Nat):=λ_=>none
 pn:Nat->Bool:=λ_=>false
 pd:Bool:=false
def Z0b:Code->Nat
 |.region id _ _=>id+1
 |.seq a b=>match Z0b a with|0=>Z0b b|k=>k
 |.cond _ a b=>match Z0b a with|0=>Z0b b|k=>k
 |.block _ c=>Z0b c
 |.loop c=>Z0b c
 |.rangeFunc _ _ a b=>match Z0b a with|0=>Z0b b|k=>k
 |.scope c=>Z0b c
 |_=>0
def isPn (hi:Hints) (o:Oper):Bool:=match o.op with
 |.panic _=>true
 |.call {callee:=.value (.func f),..}=>hi.pn f
 |.call {callee:=.value (.tmp _),..}=>hi.pd
 |_=>false
def ZpW (ops:Array Oper):Option (Nat × List Oper):=match ops.toList with
 |⟨some t,.call {callee:=.builtin .recover,..},_,_,_,none⟩::rest=>some (t,rest)
 |_=>none
def ZrJ (ops:Array Oper):Option Operand:=match ops.toList.getLast? with
 |some ⟨none,.defer {callee:=.value x,args,..},_,_,_,none⟩=>if args.size=0 then some x else none
 |_=>none
def Z0T (P:Program) (N:Nat) (hi:Hints) (ops:Array Oper):Option Sp :=
 match ops.toList.getLast? with
 |some ⟨some dst,.range t x,_,_,_,none⟩=>match P.underlying t,Q3 x,ops.toList.dropLast.mapM (λo=>QL P hi.bt (hi.fz (o.dst.getD 0)) ops o) with
  |some (.map _ _),some c,some a=>if QJ N ops then some (.rng a dst c) else none
  |_,_,_=>none
 |_=>match ops.toList with
  |[⟨some t1,.next it false,_,_,_,none⟩,⟨some t2,.extract (.tmp t3) 0,_,_,_,none⟩]=>match Q3 it with
   |some b=>if t3=t1/\t1≠t2/\t1<N/\t2<N then some (.nxt b t1 t2) else none
   |none=>none
  |_=>match ZrJ ops with
   |some x=>match Q3 x,ops.toList.dropLast.mapM (λo=>QL P hi.bt (hi.fz (o.dst.getD 0)) ops o) with
    |some c,some a=>if QJ N ops then some (.dfr a c) else none
    |_,_=>none
   |none=>match ZpW ops with
    |some (t,rest)=>match rest.mapM (λo=>QL P hi.bt (hi.fz (o.dst.getD 0)) ops o) with
     |some a=>if QJ N ops && decide (t<N) then some (.rcv t a) else none
     |none=>none
    |none=>if ops.toList.any (isPn hi) then (match ops.toList.mapM (λo=>QL P hi.bt (hi.fz (o.dst.getD 0)) ops o) with
     |some a=>if QJ N ops then some (.pan a) else none
     |none=>none) else none
def ZfZ (p:Nat) (pre:List Nat) (n:Nat):Bool:=decide (p<n) && (List.range n).all λi=>decide (i<p) ||pre.getD i 0 == 2 ^ i-1
def dpan (N:Nat) (hi:Hints) (id:Nat) (ops:Array Oper):Sp->Option SC
 |.pan a=>if (Z2r (hi.nd id) ops && decide (N<=4096) && ZfZ (ops.toList.findIdx (isPn hi)) (hi.nd id) ops.size)=true then
   some (.block 0 (.seq (.drw (hi.nd id) (a.take (ops.toList.findIdx (isPn hi)))) (.spec (.pan (a.drop (ops.toList.findIdx (isPn hi)))))))
  else if (Z2r (hi.nd id) ops && decide (N<=4096))=true then some (.block 0 (.spec (.ord (hi.nd id) a))) else none
 |_=>none
theorem Z1b {N:Nat} {hi:Hints} {id:Nat} {ops:Array Oper} {k:Sp} {sc:SC} (h:dpan N hi id ops k=some sc): ∃ a,k=.pan a/\Z2r (hi.nd id) ops=true/\N<=4096 ∧
  ((∃ p,ZfZ p (hi.nd id) ops.size=true/\sc=.block 0 (.seq (.drw (hi.nd id) (a.take p)) (.spec (.pan (a.drop p)))))\/sc=.block 0 (.spec (.ord (hi.nd id) a))):=by unfold dpan at *;grind
def Zt (P:Program) (N:Nat) (hi:Hints):Code->Option SC
 |.skip=>some .skip
 |.ret=>some .ret
 |.exit id=>some (.exit id)
 |.region id ops d=>match Z0T P N hi ops with
  |some k=>if d then dpan N hi id ops k else some (.spec k)
  |none=>match ops.toList.mapM (λo=>QL P hi.bt (hi.fz (o.dst.getD 0)) ops o) with
  |some e=>if QJ N ops then (if d then (if Z2r (hi.nd id) ops && decide (N<=4096) then some (.drw (hi.nd id) e) else none) else some (.reg e)) else none
  |none=>none
 |.seq a b=>match Zt P N hi a,Zt P N hi b with
  |some f,some i=>match hi.fg (Z0b b) with
   |none=>some (.seq f i)
   |some ts=>some (.seq f (.seq (.spec (.frg ts)) i))
  |_,_=>none
 |.cond x a b=>match Q3 x,Zt P N hi a,Zt P N hi b with
  |some x,some a,some b=>some (.cond x a b)
  |_,_,_=>none
 |.block id c=>(Zt P N hi c).map (.block id)
 |.loop c=>(Zt P N hi c).map (.loop (hi.lv (Z0b c)))
 |.rangeFunc g ps a b=>match Q3 g,Zt P N hi a,Zt P N hi b with
  |some g,some a,some b=>some (.rangeF N g ps a b)
  |_,_,_=>none
 |_=>none
def Ziq (P:Program) (N:Nat) (sc:SC) (c:Code):Prop:=∃ hi,Zt P N hi c=some sc
class CodesOf (P:Program):Prop where
 ci: ∀ N sc c,Codes.CI N sc c ↔ Ziq P N sc c
def recd (P:Program) (st:LoopState) (pend:Option Code) (N:Nat) (ps:Array Tmp) (a b:SC) (tm:Env):Ob :=
 .gen (.loop st pend ps a b N (tm.map (·.1))) (tm.map λp=>(lk tm p.1).getD .undef)
def St.nx (s:St) (bs:Nat):Nat:=max bs s.top
abbrev pnc (v:Value):Exit:=.panic [{v,recovered:=false}]
def stpX (P:Program) (bs:Nat) (o:SOp) (s:St) (Kn:St->Prop) (Kp:Value->St->Prop):Prop:=match o with
 |.cd dst g x xs=>gud g s
   (∃ nm R base,nm.Nodup/\(∀ i∈nm,(lk s.ob i).isSome)/\bs+4096<=base/\s.top<=base ∧
    CallL P ((s.get x).ren (idx · nm)) ((xs.map λy=>dva (s.get x) (lk s.ob) (s.get y)).map (D.ren (idx · nm))) (ZT s.ob (idx · nm) 0 nm) R ∧
    ∀ r ob',R r ob'->(r.isPan=false/\Kn ((s.back base nm ob').put dst (r.ren (bkN base nm))))\/ ∃ v,r=.pan v/\Kp v (s.back base nm ob'))
   (Kn (s.put dst .nov))
 |.a none g .pnk [x]=>gud g s (∃ t u,s.get x=.raw (.iface t u)/\Kp (.iface t u) s) (Kn s)
 |o=>stp P bs o s Kn
def Z2E (P:Program) (bs:Nat):List SOp->St->(St->Prop)->(Value->St->Prop)->Prop
 |[],s,Kn,_=>Kn s
 |o::r,s,Kn,Kp=>stpX P bs o s (λs'=>Z2E P bs r s' Kn Kp) Kp
def spS (P:Program) (bs:Nat) (k:Sp) (Q:Exit->St->Prop) (s:St):Prop:=match k with
 |.rng ops dst x=>stps P (s.nx bs) ops s λs'=>∃ a ks ds,s'.get x=.map a/\lk s'.ob a=some (.gen (.mapC ks ds) [])/\s'.clean (s.nx bs+dst)=true/\a≠s.nx bs+dst/\ ∀ (l:List Nat) (cl:Nat),l.length=ks.length->l.Nodup->(∀ x∈l,x<cl) →
   Q .normal (St.put2 ⟨s'.tm,(a,.gen (.mapB ks ds l cl) [])::Z8 a s'.ob⟩ dst (s.nx bs+dst) (.ptr (s.nx bs+dst) 0) (.gen (.iter l [] cl) [.map a]))
 |.nxt it t1 t2=>∃ id l ix cl a ks ds,s.get it=.ptr id 0/\lk s.ob id=some (.gen (.iter l ix cl) [.map a])/\lk s.ob a=some (.gen (.mapB ks ds l cl) [])/\id≠a ∧
   ((∀ i,i<l.length->i∈ix)->Q .normal ((St.put ⟨s.tm,(a,.gen (.mapC ks ds) [])::Z8 a s.ob⟩ (some t1) .undef).put (some t2) (.bool false))) ∧
   ∀ i,i<l.length->i ∉ ix->Q .normal ((St.put ⟨s.tm,(id,.gen (.iter l (ix++[i]) cl) [.map a])::Z8 id s.ob⟩ (some t1) .undef).put (some t2) (.bool true))
 |.frg ts=>Q .normal (s.canon bs ts)
 |.dfr _ _=>False
 |.rcv _ _=>False
 |.pan ops=>Z2E P (s.nx bs) ops s (Q .normal) (λv s'=>Q (pnc v) s')
 |.ord pre ops=>∃ pan qs s',Z4t P (s.nx bs) pre pan 0 ops s qs s'/\dchk (s.nx bs) pre ops (qs.map (·.1)) s=true/\(ZU false pre s (qs.map (·.1)) 0 qs=true/\ZU true pre s (qs.map (·.1)) 0 qs=true)/\(match pan with
   |none=>Q .normal s'
   |some (c,v)=>c<ops.length/\Q (pnc v) ⟨[],[]⟩)
def sw (P:Program) (bs:Nat):SC->(Exit->St->Prop)->St->Prop
 |.skip,Q,s=>Q .normal s
 |.ret,Q,s=>Q .ret s
 |.exit id,Q,s=>Q (.exit id) s
 |.reg ops,Q,s=>stps P (s.nx bs) ops s (Q .normal)
 |.drw pre ops,Q,s=>∃ es s',Z7m P (s.nx bs) ops s es s'/\dchk (s.nx bs) pre ops es s=true/\Q .normal s'
 |.seq a b,Q,s=>sw P bs a (thenS (sw P bs b Q) Q) s
 |.cond x a b,Q,s=>match s.get x with
  |.bool t=>if t then sw P bs a Q s else sw P bs b Q s
  |_=>False
 |.block id c,Q,s=>sw P bs c (QB id Q) s
 |.spec k,Q,s=>spS P bs k Q s
 |.loop _ c,Q,s=>∃ (ts:List Nat) (Inv:Nat->St->Prop),(∃ k,Inv k (s.canon bs ts))/\ ∀ k s',Inv k s'->sw P bs c (thenS (λe=>∃ j,j<k/\Inv j (e.canon bs ts)) Q) s'
 |.rangeF N g ps a b,Q,s=>∃ nm R,nm.Nodup/\(∀ i∈nm,(lk ((s.nx bs,recd P .ready none N ps a b s.tm)::s.ob) i).isSome)/\(∃ f a c,s.get g=.func (.func f) a c/\ZC P f=true) ∧
   CallL P ((s.get g).ren (idx · nm)) [(D.yld (s.nx bs)).ren (idx · nm)] (ZT ((s.nx bs,recd P .ready none N ps a b s.tm)::s.ob) (idx · nm) 0 nm) R ∧
   ∀ r ob',R r ob'->(∃ v,r=.pan v/\Q (pnc v) ⟨s.tm,Z8 (s.nx bs) (St.back ⟨s.tm,(s.nx bs,recd P .ready none N ps a b s.tm)::s.ob⟩ (s.nx bs+1) nm ob').ob⟩)\/r.isPan=false/\ ∃ st pend d asg body N' keys ds,lk (St.back ⟨s.tm,(s.nx bs,recd P .ready none N ps a b s.tm)::s.ob⟩ (s.nx bs+1) nm ob').ob (s.nx bs)=some (.gen (.loop st pend d asg body N' keys) ds)/\st≠ .busy/\(match pend with
     |none=>Q .normal ⟨s.tm,Z8 (s.nx bs) (St.back ⟨s.tm,(s.nx bs,recd P .ready none N ps a b s.tm)::s.ob⟩ (s.nx bs+1) nm ob').ob⟩
     |some .ret=>Q .ret ⟨s.tm,Z8 (s.nx bs) (St.back ⟨s.tm,(s.nx bs,recd P .ready none N ps a b s.tm)::s.ob⟩ (s.nx bs+1) nm ob').ob⟩
     |some (.exit i)=>Q (.exit i) ⟨s.tm,Z8 (s.nx bs) (St.back ⟨s.tm,(s.nx bs,recd P .ready none N ps a b s.tm)::s.ob⟩ (s.nx bs+1) nm ob').ob⟩
     |_=>False)
def mkd (b:Nat):Deferred:={target:=.collected b,args:=#[]}
def Cx.more (cx:Cx) (a:List Nat):Cx:={cx with kp:=λb=>(cx.kp b).or (if b∈a then some (.deferred (some [])) else none)}
theorem Cx.more_nil (cx:Cx):cx.more []=cx:=by
 cases cx;simp[Cx.more]
theorem Cx.more_more (cx:Cx) (a b:List Nat):(cx.more a).more b=cx.more (b++a):=by
 cases cx;simp only[Cx.more,Cx.mk.injEq,true_and];funext i;rename_i kp;cases kp i<;>by_cases h1:i∈b<;>by_cases h2:i∈a<;>simp[h1,h2]
def PostM (cx:Cx) (ds:List Deferred) (Q:Exit->St->Prop):Exit->Act->World->Prop :=
 λe a w'=>∃ c:List Nat,(c.Nodup/\ ∀ b∈c,cx.kp b=none/\cx.w0.heap.size<=b)/\a.defers=c.map mkd++ds/\ ∃ s' φ' h',Q e s'/\Mod (cx.more c) s' φ' h' a.tmps w'
theorem PostM.of {cx:Cx} {ds:List Deferred} {Q:Exit->St->Prop} {e:Exit} {s:St} {φ:Mem} {h:Nat->Value} {tmps:Array Value} {w:World} (a:Q e s) (hm:Mod cx s φ h tmps w):PostM cx ds Q e ⟨tmps,ds⟩ w :=
 ⟨[],⟨List.nodup_nil,by simp⟩,rfl,s,φ,h,a,by rw[Cx.more_nil];exact hm⟩
theorem PostM.after {cx:Cx} {ds:List Deferred} {d:List Nat} (g:d.Nodup/\ ∀ b∈d,cx.kp b=none/\cx.w0.heap.size<=b) {Q:Exit->St->Prop} {e:Exit} {a:Act} {w:World} (h:PostM (cx.more d) (d.map mkd++ds) Q e a w):PostM cx ds Q e a w:=by
 obtain⟨i,c,k,s',φ',h',j,hm⟩:=h;have hk: ∀ b∈i,cx.kp b=none/\b ∉ d:=λb f=>by
  have:=(c.2 b f).1;simp only[Cx.more] at this;cases j:cx.kp b with
  |some o=>rw[j] at this;cases this
  |none =>
   refine⟨rfl,λhmem=>?_⟩;rw[j,if_pos hmem] at this;cases this
 refine⟨i++d,⟨List.nodup_append.2 ⟨c.1,g.1,λa ha b f e=>(hk a ha).2 (e ▸ f)⟩,λb f=>(List.mem_append.1 f).elim (λh=>⟨(hk b h).1,(c.2 b h).2⟩) (g.2 b)⟩,by rw[k,List.map_append,List.append_assoc],s',φ',h',j,?_⟩;rw[Cx.more_more] at hm;exact hm
section
variable {P:Program} {F:Fence} {n:Nat}
theorem Z7B {cx:Cx} {ds:List Deferred} {bs:Nat} (g:cx.bs<=bs) (j:GlobC cx.φ0 cx.w0 cx.Z) (q:Fence.Open F) {bt fz:Nat->Bool} {ops:Array Oper} {Q:Exit->St->Prop} (l:List Oper): ∀ (b:List SOp),l.mapM (λo=>QL P bt (fz (o.dst.getD 0)) ops o)=some b →
  (∀ o∈l,∀ d,o.dst=some d->d<cx.N)-> ∀ (s:St) (φ:Mem) (h:Nat->Value) (tmps:Array Value) (w:World),Mod cx s φ h tmps w->stps P bs b s (Q .normal)->wpListIn F n P ops (PostM cx ds Q) l ⟨tmps,ds⟩ w:=by
 induction l with
 |nil =>
  intro b hc _ s φ h tmps w hm f;simp at hc;subst hc;exact PostM.of f hm
 |cons o l t =>
  intro b hc p s φ h tmps w hm f;simp only[List.mapM_cons,Option.bind_eq_bind,Option.bind_eq_some_iff,Option.pure_def,Option.some.injEq] at hc;obtain⟨so,h1,e,h2,rfl⟩:=hc;have hs:=Q9 (ds:=ds) (n:=n) (Q:=PostM cx ds Q) q g j h1 (p o (by simp)) hm f;have c: ∀ a w',Z0B cx ds (λs'=>stps P bs e s' (Q .normal)) a w'->wpListIn F n P ops (PostM cx ds Q) l a w':=by
   rintro⟨tm,df⟩ w' ⟨i,s',φ',h',hk,k⟩;cases i;exact t e h2 (λo r=>p o (List.mem_cons_of_mem _ r)) s' φ' h' tm w' k hk
  unfold wpListIn;split at hs
  ·rename_i m;rw[if_pos m];exact Oper.wpIn_mono c hs
  ·rename_i m;rw[if_neg m];exact⟨hs.1,c _ _ hs.2⟩
theorem ZO {N:Nat} {ops:Array Oper} (a:QJ N ops=true): ∀ o∈ops.toList,∀ d,o.dst=some d->d<N:=by grind [QJ]
def Zt5 (P:Program):Prop:=∀ {cx:Cx} {F:Fence} {n:Nat} {ds:List Deferred} (_:Fence.Open F) {bt fz:Nat->Bool} {ops:Array Oper} {Q:Exit->St->Prop} {a:List SOp} {pre:List Nat} {id bs:Nat} (_:cx.bs<=bs) (_:GlobC cx.φ0 cx.w0 cx.Z)
 (_:ops.toList.mapM (λo=>QL P bt (fz (o.dst.getD 0)) ops o)=some a) (_:QJ cx.N ops=true) (_:cx.N<=4096) (_:Z2r pre ops=true) (s:St) (φ:Mem) (h:Nat->Value) (tmps:Array Value) (w:World) (_:s.top<=bs),
  Mod cx s φ h tmps w-> ∀ (es:List Eff) (s':St),Z7m P bs a s es s'->dchk bs pre a es s=true->Q .normal s'->(Code.region id ops true).wpIn F n P (PostM cx ds Q) ⟨tmps,ds⟩ w
def Zt6 (P:Program):Prop:=∀ {cx:Cx} {F:Fence} {n:Nat} {ds:List Deferred} (_:Fence.Open F) {bt fz:Nat->Bool} {ops:Array Oper} {Q:Exit->St->Prop} {a:List SOp} {pre:List Nat} {id bs p:Nat} (_:cx.bs<=bs) (_:GlobC cx.φ0 cx.w0 cx.Z)
 (_:ops.toList.mapM (λo=>QL P bt (fz (o.dst.getD 0)) ops o)=some a) (_:QJ cx.N ops=true) (_:cx.N<=4096) (_:Z2r pre ops=true) (_:ZfZ p pre ops.size=true) (s:St) (φ:Mem) (h:Nat->Value) (tmps:Array Value) (w:World) (_:s.top<=bs),
  Mod cx s φ h tmps w-> ∀ (es:List Eff) (s':St) (b:Nat),Z7m P bs (a.take p) s es s'->dchk bs pre (a.take p) es s=true->cx.bs<=b->Z2E P b (a.drop p) s' (Q .normal) (λv s1=>Q (pnc v) s1)->(Code.region id ops true).wpIn F n P (PostM cx ds Q) ⟨tmps,ds⟩ w
def Zt7 (P:Program):Prop:=∀ {cx:Cx} {F:Fence} {n:Nat} {ds:List Deferred} (_:Fence.Open F) {bt fz:Nat->Bool} {ops:Array Oper} {Q:Exit->St->Prop} {a:List SOp} {pre:List Nat} {id bs:Nat} (_:cx.bs<=bs) (_:GlobC cx.φ0 cx.w0 cx.Z)
 (_:ops.toList.mapM (λo=>QL P bt (fz (o.dst.getD 0)) ops o)=some a) (_:QJ cx.N ops=true) (_:cx.N<=4096) (_:Z2r pre ops=true) (s:St) (φ:Mem) (h:Nat->Value) (tmps:Array Value) (w:World) (_:s.top<=bs),
  Mod cx s φ h tmps w-> ∀ (pan:Option (Nat × Value)) (qs:List (Eff × Option (Nat × Nat × D))) (s':St),Z4t P bs pre pan 0 a s qs s'->dchk bs pre a (qs.map (·.1)) s=true->(ZU false pre s (qs.map (·.1)) 0 qs=true/\ZU true pre s (qs.map (·.1)) 0 qs=true) →
   (match pan with|none=>Q .normal s'|some (c,v)=>c<a.length/\Q (pnc v) ⟨[],[]⟩)->(Code.region id ops true).wpIn F n P (PostM cx ds Q) ⟨tmps,ds⟩ w
structure DrawSound (P:Program):Prop where
 s:Zt5 P
 p:Zt6 P
 o:Zt7 P
def InRound (F:Fence) (cx:Cx):Prop:=∀ l,F.round=some l-> ∃ r,cx.kp l=some (.loop r)
theorem InRound.more {cx:Cx} (h:InRound F cx) (a:List Nat):InRound F (cx.more a):=λl hl=>by
 obtain⟨r,hr⟩:=h l hl;exact⟨r,by simp only[Cx.more,hr];rfl⟩
end
end Go.Sx
namespace Go.Sx
open Go.RowKit
variable [Globs] [Codes]
theorem get?_lk_top {n:Nat} {tm:Env} (h:Env.top tm<=n) (t:Nat):D.top ((lk tm t).getD .undef)<=n:=by
 cases hl:lk tm t with
 |none=>exact Nat.zero_le _
 |some d=>exact Env.top_get h hl
theorem ZbH {n:Nat}: ∀ {cs:List D},(∀ d∈cs,D.top d<=n)->D.topL cs<=n
 |[],_=>Nat.zero_le _
 |c::cs,h=>by
  simp only[D.topL];have h1:=h c (by simp);have h2:=ZbH (cs:=cs) λd a=>h d (List.mem_cons_of_mem _ a);omega
theorem ZfR {P:Program} {st:LoopState} {pend:Option Code} {N:Nat} {ps:Array Tmp} {a b:SC} {tm:Env} {n:Nat} (h:Env.top tm<=n):D.topL (recd P st pend N ps a b tm).parts<=n:=by
 refine ZbH λd c=>?_;simp only[recd,Ob.parts,List.mem_map] at c;obtain⟨p,_,rfl⟩:=c;exact get?_lk_top h p.1
theorem ZdI {n:Nat}: ∀ {tm:Env},Env.top tm<=n-> ∀ {p},p∈tm->D.top p.2<=n
 |[],_,p,hp=>by cases hp
 |(j,a)::r,h,p,hp=>by
  simp only[Env.top] at h;rcases List.mem_cons.1 hp with rfl|hp
  ·show D.top a<=n;omega
  ·exact ZdI (tm:=r) (by omega) hp
theorem Z4Y (v:Value) (n:Nat):D.top (Qd v)<=n:=by
 unfold Qd;split<;>exact Nat.zero_le _
theorem Zbb (v:Value) (n:Nat):D.top (Z4c v)<=n:=by
 unfold Z4c;split
 ·rename_i vs;simp only[D.top];generalize vs.toList=l;induction l with
  |nil=>exact Nat.zero_le _
  |cons a r b =>
   simp only[List.map_cons,D.topL];refine Nat.max_le.2 ⟨?_,b⟩;unfold Zbj;split
   ·exact Nat.zero_le _
   ·exact Z4Y a n
 ·exact Z4Y v n
section
variable {P:Program} {F:Fence} {n:Nat} {cx:Cx} {s:St} {φ φ':Mem} {h:Nat->Value} {tmps:Array Value} {w w':World}
theorem ZqA {b:Nat} {id:Nat} (hm:Mod cx s φ h tmps w) (hi:(lk s.ob id).isSome) (a:blk (h id)=some b): ¬ (cx.kp b).isSome:=λhk=>by
 obtain⟨o,c⟩:=Option.isSome_iff_exists.1 hk;exact (hm.kept b o c).2.2 id hi a
theorem Mod.newOb (hm:Mod cx s φ h tmps w) {id:Nat} {o:Ob} {hv:Value} (hid:cx.bs<=id) (C: ∀ t d,lk s.tm t=some d->D.men id d=false) (B: ∀ t o,lk s.ob t=some o->Ob.men id o=false) (y:hv.oneCell'=true) (m:Below w.heap.size w w')
  (x:ObR (w.heap.size<= ·) φ (updH h id hv) w' hv o):Mod cx ⟨s.tm,(id,o)::s.ob⟩ φ (updH h id hv) tmps w':=by
 have a:Mod cx s φ h tmps w':=hm.grown m (λ_ _ _ h=>h) (λb o v hv=>by rw[m.cell (p:=⟨b,o,none⟩) (Sub.lt hm.mem hv)];exact hm.mem b o v hv) (λ_ _ _ h h'=>by rw[h] at h';cases h');have k: ∀ b,blk hv=some b->w.heap.size<=b:=λb A=>(x.blk_lt A).2;have q: ∀ i b,(lk s.ob i).isSome->blk (h i)=some b->b<w.heap.size:=λi b hi e=>by
  obtain⟨o,J⟩:=Option.isSome_iff_exists.1 hi;exact ((hm.ob i o J).blk_lt e).1
 have c: ∀ i,i≠id->(lk ((id,o)::s.ob) i).isSome->(lk s.ob i).isSome:=λi g hi=>by simpa only[lk,if_neg g] using hi
 refine⟨a.size,λt d G=>(a.tm t d G).upd id hv (C _ _ G),a.mem,a.ext,a.new,λi o' l=>?_,λi j b hi z e f=>?_,a.os,a.tape,a.output,a.grow,λi=>?_,a.frame,λi hi=>?_,λb o' hk=>?_⟩
 ·simp only[lk] at l;split at l
  ·rename_i hi;cases l;subst hi;rw[Zr];exact x.keep (λb m=>Or.inl (Nat.le_trans hm.grow m)) (λ_ _=>rfl) (λ_ _ _ h=>h) (λ_ _ _=>rfl) (λ_ _ _ r=>r)
  ·rename_i hi;rw[Zd h hv hi];refine (a.ob i o' l).keep (λ_ m=>m) (λ_ _=>rfl) (λ_ _ _ h=>h) (λ_ _ _=>rfl) (λv d E r=>?_);have u:=B _ _ l;obtain⟨j,z⟩:=List.mem_iff_getElem?.1 E;exact r.upd id hv (Qk u j d z)
 ·by_cases h1:i=id<;>by_cases h2:j=id
  ·rw[h1,h2]
  ·subst h1;rw[Zr] at e;rw[Zd h hv h2] at f;exact absurd (q j b (c j h2 z) f) (by have:=k b e;omega)
  ·subst h2;rw[Zr] at f;rw[Zd h hv h1] at e;exact absurd (q i b (c i h1 hi) e) (by have:=k b f;omega)
  ·rw[Zd h hv h1] at e;rw[Zd h hv h2] at f;exact hm.sep i j b (c i h1 hi) (c j h2 z) e f
 ·simp only[updH];split
  ·exact y
  ·exact a.one i
 ·rw[Zd h hv (by omega)];exact a.hfix i hi
 ·obtain⟨h1,h2,H⟩:=a.kept b o' hk;refine⟨h1,h2,λi hi=>?_⟩;by_cases g:i=id
  ·subst g;rw[Zr];intro I
   have:=k b I
   have:=(Array.getElem?_eq_some_iff.1 (hm.kept b o' hk).1).1;omega
  ·rw[Zd h hv g];exact H i (c i g hi)
theorem Mod.mark (hm:Mod cx s φ h tmps w):Mod (cx.more [w.heap.size]) s φ h tmps (w.alloc (.deferred (some []))):=by
 have e:Below w.heap.size w (w.alloc (.deferred (some []))):=(Below.refl _ w).alloc (Nat.le_refl _) _;have a:Mod cx s φ h tmps (w.alloc (.deferred (some []))):=hm.grown e (λ_ _ _ h=>h) (λb o v hv=>by rw[e.cell (p:=⟨b,o,none⟩) (Sub.lt hm.mem hv)];exact hm.mem b o v hv) (λ_ _ _ h h'=>by rw[h] at h';cases h');refine⟨a.size,a.tm,a.mem,a.ext,a.new,a.ob,a.sep,a.os,a.tape,a.output,a.grow,a.one,a.frame,a.hfix,λb o hk=>?_⟩;simp only[Cx.more] at hk;cases c:cx.kp b with
 |some o'=>rw[c] at hk;cases hk;exact a.kept b o c
 |none =>
  rw[c] at hk;simp only[List.mem_singleton,Option.none_or] at hk;split at hk
  ·rename_i d;cases hk;subst d;refine⟨World.alloc_heap_new w _,λoff=>?_,λi hi f=>?_⟩
   ·cases c:φ w.heap.size off with
    |none=>rfl
    |some v=>exact absurd (Sub.lt hm.mem c) (by omega)
   ·obtain⟨o,g⟩:=Option.isSome_iff_exists.1 hi
    have:=((hm.ob i o g).blk_lt f).1;omega
  ·cases hk
end
end Go.Sx
