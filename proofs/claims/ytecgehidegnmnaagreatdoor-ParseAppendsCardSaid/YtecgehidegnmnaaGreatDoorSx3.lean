/- Own work: a layer over the kit: plain data,a walk over it,its soundness. -/
import Derived.RangeFuncRecord
import Derived.Test.YtecgehidegnmnaaGreatDoorSx2
set_option linter.unusedSectionVars false
set_option linter.unusedVariables false
set_option linter.unusedSimpArgs false
set_option linter.deprecated false
namespace Go.Sx
open Go.RowKit
variable [Globs] [Codes]
structure Fence.Open (F:Fence):Prop where
 fn: ∀ f,F.fn f
 depth:F.depth=none
 calls: ∀ {P f args w R},Calls P f args w R-> ∀ n,CallsIn F n P f args w R
theorem Z2N:Fence.Open Fence.wide:=⟨fun _=>trivial,rfl,fun h _=>callsIn_wide.2 h⟩
theorem Fence.Open.inRound {F:Fence} (hF:Fence.Open F) (l:Nat):Fence.Open (F.inRound l):=⟨hF.fn,hF.depth,fun h n=>hF.calls h n⟩
theorem Fence.Open.room {F:Fence} (hF:Fence.Open F) (k:Nat):F.room k:=by
 unfold Fence.room
 rw[hF.depth]
 intro d h
 cases h
theorem Fence.Open.lessCall {F:Fence} (hF:Fence.Open F) {n m:Nat} {P:Program} {f:FuncId} {args:Array Value} {w:World} {R:Ending->World->Prop} (h:CallsIn F n P f args w R):CallsIn F m P f args w R :=
 ⟨h.1,fun cs _=>h.2 cs (hF.room _)⟩
theorem Fence.Open.lessRound {F:Fence} (hF:Fence.Open F) {n m l:Nat} {P:Program} {f:FuncId} {tmps:Array Value} {a b:Code} {w:World} {R:Ending->World->Prop} (h:RoundIn F n P l f tmps a b w R):RoundIn F m P l f tmps a b w R :=
 ⟨h.1,fun c cs _=>h.2 c cs (hF.room _)⟩
def Z4C (v:Value) (vs:Array Value):Sem Next:=do
 let d ← Deferred.ofValue v vs
 invoke d.target d.args
def DynOut (F:Fence) (n:Nat) (P:Program) (R:Ending->World->Prop):Result Next->Prop
 | .ok (.enter f a) w=>CallsIn F n P f a w R
 | .ok (.round l f t a b) w=>RoundIn F n P l f t a b w R
 | _=>False
mutual
def D.top:D->Nat
 | .ptr j _=>j+1
 | .vec j=>j+1
 | .vptr j _ _ _=>j+1
 | .vwin j _ _=>j+1
 | .map j=>j+1
 | .yld j=>j+1
 | .agg cs=>D.topL cs
 | .tuple cs=>D.topL cs
 | .func _ f c=>max (D.topL f) (D.topL c)
 | _=>0
def D.topL:List D->Nat
 | []=>0
 | d::r=>max (D.top d) (D.topL r)
end
mutual
theorem D.top_men (i:Nat): ∀ d:D,D.top d<=i->D.men i d=false
 | .ptr j _,h=>by simp only[D.top] at h; simp only[D.men,beq_eq_false_iff_ne]; omega
 | .vec j,h=>by simp only[D.top] at h; simp only[D.men,beq_eq_false_iff_ne]; omega
 | .vptr j _ _ _,h=>by simp only[D.top] at h; simp only[D.men,beq_eq_false_iff_ne]; omega
 | .vwin j _ _,h=>by simp only[D.top] at h; simp only[D.men,beq_eq_false_iff_ne]; omega
 | .map j,h=>by simp only[D.top] at h; simp only[D.men,beq_eq_false_iff_ne]; omega
 | .yld j,h=>by simp only[D.top] at h; simp only[D.men,beq_eq_false_iff_ne]; omega
 | .agg cs,h=>by simp only[D.top] at h; simp only[D.men]; exact D.topL_men i cs h
 | .tuple cs,h=>by simp only[D.top] at h; simp only[D.men]; exact D.topL_men i cs h
 | .func _ f c,h=>by
  simp only[D.top] at h
  simp only[D.men,Bool.or_eq_false_iff]
  exact⟨D.topL_men i f (by omega),D.topL_men i c (by omega)⟩
 | .undef,_=>rfl
 | .bool _,_=>rfl
 | .int _ _,_=>rfl
 | .str _,_=>rfl
 | .slice _ _,_=>rfl
 | .nilp,_=>rfl
 | .nilf,_=>rfl
 | .fptr _,_=>rfl
 | .raw _,_=>rfl
 | .nils,_=>rfl
 | .own _ _ _,_=>rfl
 | .ifc,_=>rfl
 | .pan _,_=>rfl
theorem D.topL_men (i:Nat): ∀ l:List D,D.topL l<=i->D.menL i l=false
 | [],_=>rfl
 | d::r,h=>by
  simp only[D.topL] at h
  simp only[D.menL,Bool.or_eq_false_iff]
  exact⟨D.top_men i d (by omega),D.topL_men i r (by omega)⟩
end
def Env.top:Env->Nat
 | []=>0
 | (_,d)::r=>max (D.top d) (Env.top r)
def Obs.top:Obs->Nat
 | []=>0
 | (i,o)::r=>max (max (i+1) (D.topL o.parts)) (Obs.top r)
theorem Obs.top_men {i:Nat}: ∀ {ob:Obs},Obs.top ob<=i-> ∀ {t o},lk ob t=some o->t<i/\Ob.men i o=false
 | [],_,t,d,hl=>by simp[lk] at hl
 | (j,a)::r,h,t,d,hl=>by
  simp only[Obs.top] at h
  simp only[lk] at hl
  split at hl
  ·rename_i e; cases hl; exact⟨by omega,D.topL_men i _ (by omega)⟩
  ·exact Obs.top_men (ob:=r) (by omega) hl
theorem RV.congr {φ:Mem} {h h':Nat->Value} {v:Value} {d:D} (r:RV φ h v d):(∀ i,D.men i d=true->h' i=h i)->RV φ h' v d:=by
 have hget: ∀ {cs:List D} {j:Nat} {d:D} {i:Nat},cs[j]? = some d->D.men i d=true->D.menL i cs=true:=fun {cs j d i} hd hm=>by
  cases hq:D.menL i cs with
  | true=>rfl
  | false=>rw[Qv hq j d hd] at hm; cases hm
 induction r with
 | undef v=>exact fun _=> .undef v
 | pure hr=>exact fun _=> .pure hr
 | agg vs cs hs _ ih=>exact fun hm=> .agg vs cs hs fun j d hd=>ih j d hd fun i hi=>hm i (by simpa only[D.men] using hget hd hi)
 | tuple vs cs hs _ ih=>exact fun hm=> .tuple vs cs hs fun j d hd=>ih j d hd fun i hi=>hm i (by simpa only[D.men] using hget hd hi)
 | ptr id off b hh=>exact fun hm=> .ptr id off b (by rw[hm id (by simp[D.men])]; exact hh)
 | fptr b off cs vals hm hr=>exact fun _=> .fptr b off cs vals hm hr
 | vec id hl=>intro hm; have:=hm id (by simp[D.men]); rw[<- this] at hl ⊢; exact .vec id hl
 | vptr id a j sz b len cap hsz hh=>exact fun hm=> .vptr id a j sz b len cap hsz (by rw[hm id (by simp[D.men])]; exact hh)
 | vwin id a sz b len cap p c hsz hh hi hp=>exact fun hm=> .vwin id a sz b len cap p c hsz (by rw[hm id (by simp[D.men])]; exact hh) hi hp
 | map id hl=>intro hm; have:=hm id (by simp[D.men]); rw[<- this] at hl ⊢; exact .map id hl
 | yld id b hh=>exact fun hm=> .yld id b (by rw[hm id (by simp[D.men])]; exact hh)
 | func f vf vc df dc hf hc _ _ ih1 ih2 =>
  exact fun hm=> .func f vf vc df dc hf hc (fun j d hd=>ih1 j d hd fun i hi=>hm i (by simp only[D.men,Bool.or_eq_true]; exact .inl (hget hd hi)))
   (fun j d hd=>ih2 j d hd fun i hi=>hm i (by simp only[D.men,Bool.or_eq_true]; exact .inr (hget hd hi)))
theorem RV.under {φ:Mem} {h h':Nat->Value} {v:Value} {d:D} {n:Nat} (r:RV φ h v d) (hn:D.top d<=n) (he: ∀ i,i<n->h' i=h i):RV φ h' v d :=
 r.congr fun i hi=>he i (Nat.lt_of_not_le fun hle=>by rw[D.top_men i d (by omega)] at hi; cases hi)
theorem Z4b {n:Nat}: ∀ {cs:List D},D.topL cs<=n-> ∀ {d:D},d∈cs->D.top d<=n
 | [],_,d,hd=>by cases hd
 | c::cs,h,d,hd=>by
  simp only[D.topL] at h
  rcases List.mem_cons.1 hd with rfl | hd
  ·omega
  ·exact Z4b (cs:=cs) (by omega) hd
theorem Env.top_get {n:Nat}: ∀ {tm:Env},Env.top tm<=n-> ∀ {t d},lk tm t=some d->D.top d<=n
 | [],_,t,d,hl=>by simp[lk] at hl
 | (j,a)::r,h,t,d,hl=>by
  simp only[Env.top] at h
  simp only[lk] at hl
  split at hl
  ·cases hl; omega
  ·exact Env.top_get (tm:=r) (by omega) hl
theorem Obs.top_get {n:Nat}: ∀ {ob:Obs},Obs.top ob<=n-> ∀ {t o},lk ob t=some o->t<n/\D.topL o.parts<=n
 | [],_,t,d,hl=>by simp[lk] at hl
 | (j,a)::r,h,t,d,hl=>by
  simp only[Obs.top] at h
  simp only[lk] at hl
  split at hl
  ·rename_i e; cases hl; exact⟨by omega,by omega⟩
  ·exact Obs.top_get (ob:=r) (by omega) hl
theorem Z09 {α:Type} (a b:List (Nat × α)) (i:Nat):lk (a++b) i=(lk a i).or (lk b i):=by
 induction a with
 | nil=>simp[lk]
 | cons p a ih =>
  obtain⟨j,x⟩:=p
  simp only[List.cons_append,lk]
  split
  ·simp
  ·exact ih
def ZOf (ob:Obs) (h:Nat->Value) (b:Nat):Prop:= ∃ i,(lk ob i).isSome/\blk (h i)=some b
structure Loc (own:Nat->Prop) (ob:Obs) (φ:Mem) (h:Nat->Value) (w:World):Prop where
 one:HOne h
 glob:GlobC φ w (ZOf ob h)
 mem:Sub φ w
 obj: ∀ i o,lk ob i=some o->ObR own φ h w (h i) o
 sep: ∀ i j b,(lk ob i).isSome->(lk ob j).isSome->blk (h i)=some b->blk (h j)=some b->i=j
structure After (ob:Obs) (φ:Mem) (h:Nat->Value) (w:World) (ob':Obs) (φ':Mem) (h':Nat->Value) (w':World):Prop where
 loc:Loc (fun b=>w.heap.size<=b\/ZOf ob h b) ob' φ' h' w'
 ext: ∀ b o v,φ b o=some v->φ' b o=some v
 new: ∀ b o v,φ' b o=some v->φ b o=none->w.heap.size<=b\/ZOf ob h b
 frame: ∀ b,b<w.heap.size-> ¬ ZOf ob h b->w'.heap[b]? = w.heap[b]?
 hfix: ∀ i,(lk ob i).isSome->h' i=h i
 os:w'.os=w.os
 tape:w'.tape=w.tape
 output:w'.output=w.output
 grow:w.heap.size<=w'.heap.size
def EndV (φ:Mem) (h:Nat->Value) (e:Ending) (r:D):Prop:=(∃ v,e= .returned v/\RV φ h v r)\/ ∃ v,e= .panicked [{ v,recovered:=false }]/\r= .pan v
def Post (ob:Obs) (φ:Mem) (h:Nat->Value) (w:World) (R:D->Obs->Prop) (e:Ending) (w':World):Prop :=
 ∃ r ob' φ' h',EndV φ' h' e r/\R r ob'/\After ob φ h w ob' φ' h' w'
theorem RV.notPan {φ:Mem} {h:Nat->Value} {v v':Value} (r:RV φ h v (.pan v')):False:=by
 cases r with
 | pure r=>cases r
theorem Post.ret {ob:Obs} {φ:Mem} {h:Nat->Value} {w:World} {R:D->Obs->Prop} {w':World} {v:Value} {r:D} {ob':Obs} {φ':Mem} {h':Nat->Value} (hR:R r ob') (hv:RV φ' h' v r) (ha:After ob φ h w ob' φ' h' w'):Post ob φ h w R (.returned v) w' :=
 ⟨r,ob',φ',h',.inl ⟨v,rfl,hv⟩,hR,ha⟩
theorem Post.dest {ob:Obs} {φ:Mem} {h:Nat->Value} {w:World} {R:D->Obs->Prop} {e:Ending} {w':World} (hp:Post ob φ h w R e w') (hn: ∀ r ob',R r ob'->r.isPan=false): ∃ v r ob' φ' h',e= .returned v/\R r ob'/\RV φ' h' v r/\After ob φ h w ob' φ' h' w':=by
 obtain⟨r,ob',φ',h',he,hR,ha⟩:=hp
 rcases he with ⟨v,rfl,hv⟩ | ⟨v,rfl,rfl⟩
 ·exact⟨v,r,ob',φ',h',rfl,hR,hv,ha⟩
 ·exact absurd (hn _ _ hR) (by simp[D.isPan])
def CallL (P:Program) (d:D) (args:List D) (ob:Obs) (R:D->Obs->Prop):Prop :=
 ∀ (F:Fence) (_:Fence.Open F) (n:Nat) (φ:Mem) (h:Nat->Value) (w:World) (v:Value) (vs:Array Value),
  Loc (fun _=>True) ob φ h w->RV φ h v d->RVL φ h vs.toList args->DynOut F n P (Post ob φ h w R) ((Z4C v vs).run P w)
theorem DynOut.mono {F:Fence} {n:Nat} {P:Program} {R R':Ending->World->Prop} {r:Result Next} (hr: ∀ e w,R e w->R' e w) (h:DynOut F n P R r):DynOut F n P R' r:=by
 unfold DynOut at h ⊢
 split at h
 ·exact CallsIn.mono h hr
 ·exact RoundIn.mono h hr
 ·exact h.elim
theorem CallL.mono {P:Program} {d:D} {args:List D} {ob:Obs} {R R':D->Obs->Prop} (h:CallL P d args ob R) (hr: ∀ r ob',R r ob'->R' r ob'):CallL P d args ob R' :=
 fun F hF n φ h' w v vs hp hv hvs=>(h F hF n φ h' w v vs hp hv hvs).mono fun _ _ ⟨r,ob',φ',h'',he,hR,h2⟩=>⟨r,ob',φ',h'',he,hr r ob' hR,h2⟩
/- NAMES: at a call the objects at hand get names of their own. -/
def idx (i:Nat):List Nat->Option Nat
 | []=>none
 | j::r=>if i=j then some 0 else (idx i r).map (· + 1)
theorem Z20 {i:Nat}: ∀ {nm:List Nat} {k:Nat},idx i nm=some k->nm[k]? = some i
 | [],k,h=>by simp[idx] at h
 | j::r,k,h=>by
  simp only[idx] at h
  split at h
  ·rename_i e; cases h; simp[e]
  ·cases hq:idx i r with
   | none=>rw[hq] at h; cases h
   | some q=>rw[hq] at h; simp at h; subst h; simpa using Z20 hq
/- Names are turned by 'f'; what has no new name is no longer known. -/
mutual
def D.ren (f:Nat->Option Nat):D->D
 | .ptr j o=>match f j with | some k=> .ptr k o | none=> .undef
 | .vec j=>match f j with | some k=> .vec k | none=> .undef
 | .vptr j a b c=>match f j with | some k=> .vptr k a b c | none=> .undef
 | .vwin j a b=>match f j with | some k=> .vwin k a b | none=> .undef
 | .map j=>match f j with | some k=> .map k | none=> .undef
 | .yld j=>match f j with | some k=> .yld k | none=> .undef
 | .agg cs=> .agg (D.renL f cs)
 | .tuple cs=> .tuple (D.renL f cs)
 | .func g a c=> .func g (D.renL f a) (D.renL f c)
 | d=>d
def D.renL (f:Nat->Option Nat):List D->List D
 | []=>[]
 | d::r=>D.ren f d::D.renL f r
end
theorem Qy (f:Nat->Option Nat): ∀ cs:List D,(D.renL f cs).length=cs.length
 | []=>rfl
 | d::r=>by simp[D.renL,Qy f r]
theorem Z0v (f:Nat->Option Nat): ∀ (cs:List D) (j:Nat) (d:D),(D.renL f cs)[j]? = some d-> ∃ d0,cs[j]? = some d0/\d=D.ren f d0
 | [],j,d,h=>by simp[D.renL] at h
 | c::r,0,d,h=>by simp[D.renL] at h; exact⟨c,rfl,h.symm⟩
 | c::r,j+1,d,h=>by simpa using Z0v f r j d (by simpa [D.renL] using h)
theorem RV.ren {φ:Mem} {h h':Nat->Value} {f:Nat->Option Nat} {v:Value} {d:D} (r:RV φ h v d):(∀ i k,f i=some k->D.men i d=true->h' k=h i)->RV φ h' v (D.ren f d):=by
 have hget: ∀ {cs:List D} {j:Nat} {d:D} {i:Nat},cs[j]? = some d->D.men i d=true->D.menL i cs=true:=fun {cs j d i} hd hm=>by
  cases hq:D.menL i cs with
  | true=>rfl
  | false=>rw[Qv hq j d hd] at hm; cases hm
 induction r with
 | undef v=>exact fun _=> .undef v
 | pure hr=>exact fun _=>by cases hr <;> exact .pure (by constructor <;> assumption)
 | agg vs cs hs _ ih =>
  intro hm
  refine .agg vs _ (by rw[Qy]; exact hs) fun j d hd=> ?_
  obtain⟨d0,h0,rfl⟩:=Z0v f cs j d hd
  exact ih j d0 h0 fun i k hk hi=>hm i k hk (by simpa only[D.men] using hget h0 hi)
 | tuple vs cs hs _ ih =>
  intro hm
  refine .tuple vs _ (by rw[Qy]; exact hs) fun j d hd=> ?_
  obtain⟨d0,h0,rfl⟩:=Z0v f cs j d hd
  exact ih j d0 h0 fun i k hk hi=>hm i k hk (by simpa only[D.men] using hget h0 hi)
 | ptr id off b hh =>
  intro hm
  simp only[D.ren]
  split
  ·rename_i k hk; exact .ptr k off b (by rw[hm id k hk (by simp[D.men])]; exact hh)
  ·exact .undef _
 | fptr b off cs vals hm hr=>exact fun _=> .fptr b off cs vals hm hr
 | vec id hl =>
  intro hm
  simp only[D.ren]
  split
  ·rename_i k hk
   have:=hm id k hk (by simp[D.men])
   rw[<- this] at hl ⊢; exact .vec k hl
  ·exact .undef _
 | vptr id a j sz b len cap hsz hh =>
  intro hm
  simp only[D.ren]
  split
  ·rename_i k hk; exact .vptr k a j sz b len cap hsz (by rw[hm id k hk (by simp[D.men])]; exact hh)
  ·exact .undef _
 | vwin id a sz b len cap p c hsz hh hi hp =>
  intro hm
  simp only[D.ren]
  split
  ·rename_i k hk; exact .vwin k a sz b len cap p c hsz (by rw[hm id k hk (by simp[D.men])]; exact hh) hi hp
  ·exact .undef _
 | map id hl =>
  intro hm
  simp only[D.ren]
  split
  ·rename_i k hk
   have:=hm id k hk (by simp[D.men])
   rw[<- this] at hl ⊢; exact .map k hl
  ·exact .undef _
 | yld id b hh =>
  intro hm
  simp only[D.ren]
  split
  ·rename_i k hk; exact .yld k b (by rw[hm id k hk (by simp[D.men])]; exact hh)
  ·exact .undef _
 | func g vf vc df dc hf hc _ _ ih1 ih2 =>
  intro hm
  refine .func g vf vc _ _ (by rw[Qy]; exact hf) (by rw[Qy]; exact hc) (fun j d hd=> ?_) fun j d hd=> ?_
  ·obtain⟨d0,h0,rfl⟩:=Z0v f df j d hd
   exact ih1 j d0 h0 fun i k hk hi=>hm i k hk (by simp only[D.men,Bool.or_eq_true]; exact .inl (hget h0 hi))
  ·obtain⟨d0,h0,rfl⟩:=Z0v f dc j d hd
   exact ih2 j d0 h0 fun i k hk hi=>hm i k hk (by simp only[D.men,Bool.or_eq_true]; exact .inr (hget h0 hi))
def Ob.ren (f:Nat->Option Nat):Ob->Ob
 | .cells cs=> .cells (D.renL f cs)
 | .gen g cs=> .gen g (D.renL f cs)
 | o=>o
theorem Z7d {i:Nat} {cs:List D} {j:Nat} {d:D} (hd:cs[j]? = some d) (hm:D.men i d=true):D.menL i cs=true:=by
 cases hq:D.menL i cs with
 | true=>rfl
 | false=>rw[Qv hq j d hd] at hm; cases hm
theorem ObR.ren {own own':Nat->Prop} {φ:Mem} {h h':Nat->Value} {w:World} {hv:Value} {o:Ob} {f:Nat->Option Nat} (hob:ObR own φ h w hv o) (hown: ∀ b,blk hv=some b->own' b) (hm: ∀ i k,f i=some k->Ob.men i o=true->h' k=h i):ObR own' φ h' w hv (o.ren f):=by
 cases o with
 | cells cs =>
  obtain⟨b,vals,e,rfl,ho,hh,hs,hc,hn⟩:=hob
  refine⟨b,vals,e,rfl,hown b rfl,hh,by rw[Qy]; exact hs,fun j d hd=> ?_,hn⟩
  obtain⟨d0,h0,rfl⟩:=Z0v f cs j d hd
  exact (hc j d0 h0).ren fun i k hk hi=>hm i k hk (Z7d h0 hi)
 | gen g cs =>
  obtain⟨b,vals,o,hbk,ho,hh,hg,hs,hc,hn⟩:=hob
  refine⟨b,vals,o,hbk,hown b hbk,hh,hg,by rw[Qy]; exact hs,fun j d hd=> ?_,hn⟩
  obtain⟨d0,h0,rfl⟩:=Z0v f cs j d hd
  exact (hc j d0 h0).ren fun i k hk hi=>hm i k hk (Z7d h0 hi)
 | arr fz sz e es =>
  obtain⟨q1,q2,xs,q3,q4,q5⟩:=hob
  exact⟨q1,q2,xs,q3,q4,fun b hb=>⟨hown b hb,(q5 b hb).2⟩⟩
def Qc (ob:Obs) (g:Nat->Option Nat):Nat->List Nat->Obs
 | _,[]=>[]
 | k,i::r=>match lk ob i with
  | some o=>(k,o.ren g)::Qc ob g (k+1) r
  | none=>Qc ob g (k+1) r
theorem Z1g {ob:Obs} {g:Nat->Option Nat}: ∀ (r:List Nat) (k:Nat) (j:Nat) (o:Ob),lk (Qc ob g k r) j=some o-> ∃ i o0,k<=j/\r[j-k]? = some i/\lk ob i=some o0/\o=o0.ren g
 | [],k,j,o,h=>by simp[Qc,lk] at h
 | i::r,k,j,o,h=>by
  have next:lk (Qc ob g (k+1) r) j=some o-> ∃ i' o0,k<=j/\(i::r)[j-k]? = some i'/\lk ob i'=some o0/\o=o0.ren g:=fun h=>by
   obtain⟨i',o0,h1,h2,h3,h4⟩:=Z1g r (k+1) j o h
   refine⟨i',o0,by omega, ?_,h3,h4⟩
   rw[show j-k=(j-(k+1))+1 by omega]
   simpa using h2
  simp only[Qc] at h
  split at h
  ·rename_i o0 ho0
   simp only[lk] at h
   split at h
   ·rename_i e; cases h; subst e; exact⟨i,o0,Nat.le_refl _,by simp,ho0,rfl⟩
   ·exact next h
  ·exact next h
theorem Z3I {ob:Obs} {g:Nat->Option Nat}: ∀ (r:List Nat) (k:Nat) (j i:Nat),k<=j->r[j-k]? = some i->(lk ob i).isSome->(lk (Qc ob g k r) j).isSome
 | [],k,j,i,_,h,_=>by simp at h
 | x::r,k,j,i,hk,h,hi=>by
  have next:k<j->(lk (Qc ob g (k+1) r) j).isSome:=fun hlt=>Z3I r (k+1) j i (by omega) (by
   rw[show j-k=(j-(k+1))+1 by omega] at h
   simpa using h) hi
  simp only[Qc]
  split
  ·simp only[lk]
   split
   ·rfl
   ·exact next (by omega)
  ·rename_i hn
   refine next ?_
   rcases Nat.lt_or_ge k j with h' | h'
   ·exact h'
   ·exfalso
    have:j=k:=by omega
    subst this
    simp at h
    subst h
    rw[hn] at hi; cases hi
def bkN (base:Nat) (nm:List Nat) (j:Nat):Option Nat:=match nm[j]? with
 | some i=>some i
 | none=>some (base+j)
def Z6g (nm:List Nat):Obs->Obs
 | []=>[]
 | (j,o)::r=>if nm.contains j then Z6g nm r else (j,o)::Z6g nm r
theorem Z2u {nm:List Nat}: ∀ (ob:Obs) (i:Nat),lk (Z6g nm ob) i=if i∈nm then none else lk ob i
 | [],i=>by simp[Z6g,lk]
 | (j,o)::r,i=>by
  simp only[Z6g,List.contains_iff_mem]
  split
  ·rename_i hj
   rw[Z2u r i]
   split
   ·rfl
   ·rename_i hi
    simp only[lk]
    rw[if_neg (fun e=>hi (by rw[e]; exact hj))]
  ·rename_i hj
   simp only[lk]
   by_cases e:i=j
   ·subst e; simp[hj]
   ·rw[if_neg e,if_neg e,Z2u r i]
def renO (f:Nat->Nat) (g:Nat->Option Nat):Obs->Obs
 | []=>[]
 | (j,o)::r=>(f j,o.ren g)::renO f g r
theorem Z5S {f:Nat->Nat} {g:Nat->Option Nat}: ∀ {ob:Obs} {i:Nat} {o:Ob},lk (renO f g ob) i=some o->(∀ j k,f j=f k->j=k)-> ∃ j o0,f j=i/\lk ob j=some o0/\o=o0.ren g
 | [],i,o,h,_=>by simp[renO,lk] at h
 | (j,x)::r,i,o,h,hf=>by
  simp only[renO,lk] at h
  split at h
  ·rename_i e; cases h; exact⟨j,x,e.symm,by simp[lk],rfl⟩
  ·rename_i e
   obtain⟨j',o0,h1,h2,h3⟩:=Z5S (ob:=r) h hf
   refine⟨j',o0,h1, ?_,h3⟩
   simp only[lk]
   rw[if_neg (fun e'=>e (by rw[<- h1,e']))]
   exact h2
def St.back (s:St) (base:Nat) (nm:List Nat) (ob':Obs):St :=
 ⟨s.tm,Z6g nm s.ob++renO (fun j=>match nm[j]? with | some i=>i | none=>base+j) (bkN base nm) ob'⟩
def St.top (s:St):Nat:=max (Env.top s.tm) (Obs.top s.ob)
/- The names that a state leads to. -/
mutual
def D.coll:D->List Nat->List Nat
 | .ptr j _,acc=>if acc.contains j then acc else acc++[j]
 | .vec j,acc=>if acc.contains j then acc else acc++[j]
 | .vptr j _ _ _,acc=>if acc.contains j then acc else acc++[j]
 | .vwin j _ _,acc=>if acc.contains j then acc else acc++[j]
 | .map j,acc=>if acc.contains j then acc else acc++[j]
 | .yld j,acc=>if acc.contains j then acc else acc++[j]
 | .agg cs,acc=>D.collL cs acc
 | .tuple cs,acc=>D.collL cs acc
 | .func _ a c,acc=>D.collL c (D.collL a acc)
 | _,acc=>acc
def D.collL:List D->List Nat->List Nat
 | [],acc=>acc
 | d::r,acc=>D.collL r (D.coll d acc)
end
def Z5U (ob:Obs):Nat->Nat->List Nat->List Nat
 | 0,_,acc=>acc
 | f+1,k,acc=>match acc[k]? with
  | none=>acc
  | some i=>match lk ob i with
   | some o=>Z5U ob f (k+1) (D.collL o.parts acc)
   | none=>Z5U ob f (k+1) acc
def Zip (ob:Obs) (acc:List Nat):List Nat:=Z5U ob 1000 0 acc
def oldO (bs:Nat) (g:Nat->Option Nat):Obs->Obs
 | []=>[]
 | (j,o)::r=>if j<bs then (j,o.ren g)::oldO bs g r else oldO bs g r
theorem Z4o {bs:Nat} {g:Nat->Option Nat}: ∀ (ob:Obs) (i:Nat) (o:Ob),lk (oldO bs g ob) i=some o->i<bs/\ ∃ o0,lk ob i=some o0/\o=o0.ren g
 | [],i,o,h=>by simp[oldO,lk] at h
 | (j,x)::r,i,o,h=>by
  simp only[oldO] at h
  split at h
  ·rename_i hj
   simp only[lk] at h
   split at h
   ·rename_i e; cases h; subst e; exact⟨hj,x,by simp[lk],rfl⟩
   ·rename_i e
    obtain⟨h1,o0,h2,h3⟩:=Z4o r i o h
    exact⟨h1,o0,by simp only[lk]; rw[if_neg e]; exact h2,h3⟩
  ·rename_i hj
   obtain⟨h1,o0,h2,h3⟩:=Z4o r i o h
   exact⟨h1,o0,by simp only[lk]; rw[if_neg (by omega)]; exact h2,h3⟩
def renE (g:Nat->Option Nat):Env->Env
 | []=>[]
 | (t,d)::r=>(t,d.ren g)::renE g r
theorem Z9z {g:Nat->Option Nat}: ∀ {tm:Env} {t:Nat} {d:D},lk (renE g tm) t=some d-> ∃ d0,lk tm t=some d0/\d=d0.ren g
 | [],t,d,h=>by simp[renE,lk] at h
 | (j,x)::r,t,d,h=>by
  simp only[renE,lk] at h
  split at h
  ·rename_i e; cases h; exact⟨x,by simp[lk,e],rfl⟩
  ·rename_i e
   obtain⟨d0,h1,h2⟩:=Z9z (tm:=r) h
   exact⟨d0,by simp only[lk]; rw[if_neg e]; exact h1,h2⟩
def Env.coll:Env->List Nat->List Nat
 | [],acc=>acc
 | (_,d)::r,acc=>Env.coll r (d.coll acc)
def Obs.olds (bs:Nat):Obs->List Nat
 | []=>[]
 | (j,_)::r=>if j<bs then j::Obs.olds bs r else Obs.olds bs r
def kept {α:Type} (l:List (Nat × α)):List Nat->List (Nat × α)
 | []=>[]
 | t::ts=>match lk l t with
  | some d=>(t,d)::kept l ts
  | none=>kept l ts
theorem Z64 {α:Type} {l:List (Nat × α)} {i:Nat} {d:α}: ∀ {ts:List Nat},lk (kept l ts) i=some d->lk l i=some d
 | [],h=>by simp[kept,lk] at h
 | t::ts,h=>by
  simp only[kept] at h
  split at h
  ·rename_i x hx
   simp only[lk] at h
   split at h
   ·rename_i e; cases h; rw[e]; exact hx
   ·exact Z64 h
  ·exact Z64 h
def newN (bs:Nat) (ob:Obs) (tm:Env):List Nat:=(Zip ob (Env.coll tm (Obs.olds bs ob))).filter fun i=>decide (bs<=i) && (lk ob i).isSome
def canG (bs:Nat) (nw:List Nat) (i:Nat):Option Nat:=if i<bs then some i else (idx i nw).map (bs + ·)
def newO (ob:Obs) (g:Nat->Option Nat):Nat->List Nat->Obs
 | _,[]=>[]
 | k,i::r=>match lk ob i,g i with
  | some o,some q=>if q=k then (k,o.ren g)::newO ob g (k+1) r else newO ob g (k+1) r
  | _,_=>newO ob g (k+1) r
theorem Z2Q {ob:Obs} {g:Nat->Option Nat}: ∀ (r:List Nat) (k:Nat) (j:Nat) (o:Ob),lk (newO ob g k r) j=some o-> ∃ i o0,g i=some j/\lk ob i=some o0/\o=o0.ren g
 | [],k,j,o,h=>by simp[newO,lk] at h
 | i::r,k,j,o,h=>by
  simp only[newO] at h
  split at h
  ·rename_i o0 q ho0 hq
   split at h
   ·rename_i e
    simp only[lk] at h
    split at h
    ·rename_i e2; cases h; exact⟨i,o0,by rw[hq,e,e2],ho0,rfl⟩
    ·exact Z2Q r (k+1) j o h
   ·exact Z2Q r (k+1) j o h
  ·exact Z2Q r (k+1) j o h
def insO (i:Nat) (o:Ob):Obs->Obs
 | []=>[(i,o)]
 | (j,p)::r=>if j<i then (j,p)::insO i o r else (i,o)::(j,p)::r
def Z1W:Obs->Obs
 | []=>[]
 | (i,o)::r=>insO i o (Z1W r)
theorem Za4 (i:Nat) (o:Ob) (k:Nat): ∀ l:Obs,lk (insO i o l) k=if k=i then some o else lk l k
 | []=>rfl
 | (j,p)::r=>by
  simp only[insO]
  split
  ·rename_i h
   simp only[lk]
   by_cases hk:k=j
   ·rw[if_pos hk,if_pos hk,if_neg (by omega)]
   ·rw[if_neg hk,if_neg hk]; exact Za4 i o k r
  ·rfl
theorem Zt (k:Nat): ∀ l:Obs,lk (Z1W l) k=lk l k
 | []=>rfl
 | (i,o)::r=>by simp only[Z1W,Za4,lk,Zt k r]
def canS (bs:Nat) (nw:List Nat) (tm:Env) (ob:Obs):St:=⟨renE (canG bs nw) tm,Z1W (oldO bs (canG bs nw) ob)++newO ob (canG bs nw) bs nw⟩
def frz1:Ob->Ob
 | .arr _ sz e es=> .arr true sz e es
 | o=>o
def frzO:Obs->Obs
 | []=>[]
 | (i,o)::r=>(i,frz1 o)::frzO r
theorem Z2V (i:Nat): ∀ ob:Obs,lk (frzO ob) i=(lk ob i).map frz1
 | []=>rfl
 | (j,o)::r=>by
  simp only[frzO,lk]
  split
  ·rfl
  ·exact Z2V i r
def hasF (ts:List Nat):Bool:=ts.any fun t=>t == 999999
def frzT (ts:List Nat) (ob:Obs):Obs:=match hasF ts with
 | true=>frzO ob
 | false=>ob
def hasS (ts:List Nat):Bool:=ts.any fun t=>t == 999998
def slv (ob:Obs):D->D
 | .vec i=>match lk ob i with
  | some (.arr true _ _ es)=> .slice es []
  | _=> .vec i
 | d=>d
def thaw (ts:List Nat) (ob:Obs) (tm:Env):Env:=match hasS ts with
 | true=>tm.map fun p=>(p.1,slv ob p.2)
 | false=>tm
def St.canon (s:St) (bs:Nat) (ts:List Nat):St:=canS bs (newN bs (frzT ts s.ob) (kept (thaw ts (frzT ts s.ob) s.tm) ts)) (kept (thaw ts (frzT ts s.ob) s.tm) ts) (frzT ts s.ob)
end Go.Sx
namespace Go.Sx
open Go.RowKit
variable [Globs] [Codes]
def hcal (h:Nat->Value) (nm:List Nat):Nat->Value:=fun j=>match nm[j]? with | some i=>h i | none=> .pointer none
def hbak (h h':Nat->Value) (base:Nat):Nat->Value:=fun i=>if base<=i then h' (i-base) else h i
section
variable {cx:Cx} {s:St} {φ φ':Mem} {h h':Nat->Value} {tmps:Array Value} {w w':World} {nm:List Nat}
theorem Z0f {k i:Nat} (hk:nm[k]? = some i):hcal h nm k=h i:=by simp[hcal,hk]
theorem Z1a {d:D} {v:Value} (r:RV φ h v d):RV φ (hcal h nm) v (d.ren (idx · nm)):=r.ren fun i k hk _=>Z0f (Z20 hk)
theorem ObR.own_blk {own:Nat->Prop} {hv:Value} {o:Ob} {b:Nat} (ho:ObR own φ h w hv o) (hb:blk hv=some b):own b:=by
 cases o with
 | cells cs =>
  obtain⟨b',_,_,rfl,hown,_⟩:=ho
  simp only[blk,Option.some.injEq] at hb
  exact hb ▸ hown
 | arr fz sz e es =>
  obtain⟨_,_,_,_,_,h1⟩:=ho
  exact (h1 b hb).1
 | gen g ds =>
  obtain⟨b',_,_,h1,hown,_⟩:=ho
  rw[h1] at hb
  cases hb
  exact hown
theorem Mod.zof (hm:Mod cx s φ h tmps w) {b:Nat} (hz:ZOf s.ob h b):cx.own b:=by
 obtain⟨i,hi,hb⟩:=hz
 obtain⟨o,ho⟩:=Option.isSome_iff_exists.1 hi
 exact (hm.ob i o ho).own_blk hb
theorem Mod.loc (hm:Mod cx s φ h tmps w) (hg:GlobC φ w cx.own) (hnd:nm.Nodup):Loc (fun _=>True) (Qc s.ob (idx · nm) 0 nm) φ (hcal h nm) w:=by
 refine⟨fun i=> ?_,hg.sub fun b ⟨j,hj,hb⟩=> ?_,hm.mem,fun j o ho=> ?_,fun i j b hi hj hbi hbj=> ?_⟩
 ·simp only[hcal]
  split
  ·exact hm.one _
  ·rfl
 ·obtain⟨o,ho⟩:=Option.isSome_iff_exists.1 hj
  obtain⟨i,o0,_,h1,h2,rfl⟩:=Z1g nm 0 j o ho
  rw[Nat.sub_zero] at h1
  rw[Z0f h1] at hb
  exact (hm.ob i o0 h2).own_blk hb
 ·obtain⟨i,o0,_,h1,h2,rfl⟩:=Z1g nm 0 j o ho
  rw[Nat.sub_zero] at h1
  rw[Z0f h1]
  exact (hm.ob i o0 h2).ren (fun _ _=>trivial) fun i k hk _=>Z0f (Z20 hk)
 ·obtain⟨oi,hoi⟩:=Option.isSome_iff_exists.1 hi
  obtain⟨oj,hoj⟩:=Option.isSome_iff_exists.1 hj
  obtain⟨i1,o1,_,q1,q2,_⟩:=Z1g nm 0 i oi hoi
  obtain⟨j1,o2,_,r1,r2,_⟩:=Z1g nm 0 j oj hoj
  rw[Nat.sub_zero] at q1 r1
  rw[Z0f q1] at hbi
  rw[Z0f r1] at hbj
  have:=hm.sep i1 j1 b (by rw[q2]; rfl) (by rw[r2]; rfl) hbi hbj
  subst this
  exact (List.getElem?_inj (i:=i) (j:=j) (List.getElem?_eq_some_iff.1 q1).1 hnd).1 (q1.trans r1.symm)
theorem Mod.back (hm:Mod cx s φ h tmps w) {base:Nat} (hb1:cx.bs<=base) (hb2:s.top<=base) (hnd:nm.Nodup) (hin: ∀ i∈nm,(lk s.ob i).isSome) {ob':Obs} (ha:After (Qc s.ob (idx · nm) 0 nm) φ (hcal h nm) w ob' φ' h' w') :
  Mod cx (s.back base nm ob') φ' (hbak h h' base) tmps w'/\ ∀ v r,RV φ' h' v r->RV φ' (hbak h h' base) v (r.ren (bkN base nm)):=by
 have htt:Env.top s.tm<=base:=Nat.le_trans (Nat.le_max_left _ _) hb2
 have hto:Obs.top s.ob<=base:=Nat.le_trans (Nat.le_max_right _ _) hb2
 have hnm: ∀ i∈nm,i<base:=fun i hi=>by
  obtain⟨o,ho⟩:=Option.isSome_iff_exists.1 (hin i hi)
  exact (Obs.top_get hto ho).1
 have hag: ∀ i,i<base->hbak h h' base i=h i:=fun i hi=>by simp only[hbak]; rw[if_neg (by omega)]
 have hZ: ∀ b,ZOf (Qc s.ob (idx · nm) 0 nm) (hcal h nm) b-> ∃ i,i∈nm/\(lk s.ob i).isSome/\blk (h i)=some b:=fun b ⟨j,hj,hbj⟩=>by
  obtain⟨o,ho⟩:=Option.isSome_iff_exists.1 hj
  obtain⟨i,o0,_,h1,h2,_⟩:=Z1g nm 0 j o ho
  rw[Nat.sub_zero] at h1
  rw[Z0f h1] at hbj
  exact⟨i,List.mem_of_getElem? h1,by rw[h2]; rfl,hbj⟩
 have hown: ∀ i b,(lk s.ob i).isSome->blk (h i)=some b->cx.own b/\b<w.heap.size:=fun i b hi hb=>by
  obtain⟨o,ho⟩:=Option.isSome_iff_exists.1 hi
  exact⟨((hm.ob i o ho).blk_lt hb).2,((hm.ob i o ho).blk_lt hb).1⟩
 have hZown: ∀ b,ZOf (Qc s.ob (idx · nm) 0 nm) (hcal h nm) b->cx.own b/\b<w.heap.size:=fun b hz=>by
  obtain⟨i,_,h2,h3⟩:=hZ b hz
  exact hown i b h2 h3
 have hown': ∀ b,(w.heap.size<=b\/ZOf (Qc s.ob (idx · nm) 0 nm) (hcal h nm) b)->cx.own b:=fun b hb=>hb.elim (fun hb=> .inl (Nat.le_trans hm.grow hb)) fun hb=>(hZown b hb).1
 have hφs: ∀ b,b<w.heap.size-> ¬ ZOf (Qc s.ob (idx · nm) 0 nm) (hcal h nm) b-> ∀ off,φ' b off=φ b off:=fun b hb hz off=>by
  cases hq:φ b off with
  | some u=>exact ha.ext b off u hq
  | none =>
   cases hq':φ' b off with
   | none=>rfl
   | some u=>exact ((ha.new b off u hq' hq).elim (fun h=>by omega) hz).elim
 have hfr: ∀ i b,i ∉ nm->(lk s.ob i).isSome->blk (h i)=some b-> ¬ ZOf (Qc s.ob (idx · nm) 0 nm) (hcal h nm) b:=fun i b hi ho hb hz=>by
  obtain⟨j,h1,h2,h3⟩:=hZ b hz
  exact hi (hm.sep i j b ho h2 hb h3 ▸ h1)
 -- the handles
 have hinj: ∀ j k,(match nm[j]? with | some i=>i | none=>base+j)=(match nm[k]? with | some i=>i | none=>base+k)->j=k:=fun j k e=>by
  cases hj:nm[j]? with
  | none =>
   cases hk:nm[k]? with
   | none=>rw[hj,hk] at e; simp only at e; omega
   | some i =>
    rw[hj,hk] at e
    have:=hnm i (List.mem_of_getElem? hk)
    simp only at e
    omega
  | some i =>
   cases hk:nm[k]? with
   | none =>
    rw[hj,hk] at e
    have:=hnm i (List.mem_of_getElem? hj)
    simp only at e
    omega
   | some i' =>
    rw[hj,hk] at e
    simp only at e
    subst e
    exact (List.getElem?_inj (List.getElem?_eq_some_iff.1 hj).1 hnd).1 (hj.trans hk.symm)
 have hh: ∀ j,hbak h h' base (match nm[j]? with | some i=>i | none=>base+j)=h' j:=fun j=>by
  cases hj:nm[j]? with
  | none=>simp only[hbak]; rw[if_pos (by omega)]; congr 1; omega
  | some i =>
   have hi:=List.mem_of_getElem? hj
   rw[hag i (hnm i hi),ha.hfix j (Z3I nm 0 j i (Nat.zero_le _) (by simpa using hj) (hin i hi)),Z0f hj]
 have hg: ∀ i k,bkN base nm i=some k->hbak h h' base k=h' i:=fun i k hk=>by
  have:k=(match nm[i]? with | some i=>i | none=>base+i):=by
   unfold bkN at hk
   cases hq:nm[i]? with
   | none=>rw[hq] at hk; simpa using hk.symm
   | some q=>rw[hq] at hk; simpa using hk.symm
  rw[this]; exact hh i
 have hcase: ∀ i o,lk (s.back base nm ob').ob i=some o->(i ∉ nm/\lk s.ob i=some o)\/ ∃ j o0,(match nm[j]? with | some i=>i | none=>base+j)=i/\lk ob' j=some o0/\o=o0.ren (bkN base nm):=fun i o ho=>by
  simp only[St.back] at ho
  rw[Z09,Z2u] at ho
  by_cases hi:i∈nm
  ·rw[if_pos hi] at ho
   simp only[Option.none_or] at ho
   exact .inr (Z5S ho hinj)
  ·rw[if_neg hi] at ho
   cases hq:lk s.ob i with
   | some o'=>rw[hq] at ho; simp at ho; subst ho; exact .inl ⟨hi,rfl⟩
   | none=>rw[hq] at ho; simp only[Option.none_or] at ho; exact .inr (Z5S ho hinj)
 refine⟨⟨hm.size,fun t d hd=>((hm.tm t d hd).mono ha.ext).under (Env.top_get htt hd) hag,ha.loc.mem,fun b o v hv=>ha.ext b o v (hm.ext b o v hv),fun b o v hv h0=> ?_,fun i o ho=> ?_,fun i j b hi hj hbi hbj=> ?_,
  ha.os.trans hm.os,ha.tape.trans hm.tape,ha.output.trans hm.output,Nat.le_trans hm.grow ha.grow,fun i=> ?_,fun b hb hz=> ?_,fun i hi=> ?_,fun b o hk=> ?_⟩,fun v r hr=>hr.ren fun i k hk _=>hg i k hk⟩
 ·cases hq:φ b o with
  | some u=>exact hm.new b o u hq h0
  | none=>exact hown' b (ha.new b o v hv hq)
 ·rcases hcase i o ho with ⟨h1,h2⟩ | ⟨j,o0,h1,h2,rfl⟩
  ·have hlt:=(Obs.top_get hto h2).1
   rw[hag i hlt]
   have hob:=hm.ob i o h2
   refine hob.keep (fun _ hb=>hb) (fun b hb=>ha.frame b (hob.blk_lt hb).1 (hfr i b h1 (by rw[h2]; rfl) hb)) ha.ext (fun b hb=>hφs b (hob.blk_lt hb).1 (hfr i b h1 (by rw[h2]; rfl) hb)) (fun v d hd r=> ?_)
   exact (r.mono ha.ext).under (Z4b (Obs.top_get hto h2).2 hd) hag
  ·have hob:=ha.loc.obj j o0 h2
   rw[<- h1,hh j]
   exact hob.ren (fun b hb=>hown' b (hob.blk_lt hb).2) fun i k hk _=>hg i k hk
 ·obtain⟨oi,hoi⟩:=Option.isSome_iff_exists.1 hi
  obtain⟨oj,hoj⟩:=Option.isSome_iff_exists.1 hj
  have mix: ∀ i j oj,i ∉ nm->(lk s.ob i).isSome->lk ob' j=some oj->blk (h i)=some b->blk (h' j)=some b->False:=fun i j oj h1 h2 h3 hb1 hb2=>by
   rcases ((ha.loc.obj j oj h3).blk_lt hb2).2 with h4 | h4
   ·have:=(hown i b h2 hb1).2; omega
   ·exact hfr i b h1 h2 hb1 h4
  rcases hcase i oi hoi with ⟨h1,h2⟩ | ⟨i',o0,h1,h2,rfl⟩ <;> rcases hcase j oj hoj with ⟨q1,q2⟩ | ⟨j',o1,q1,q2,rfl⟩
  ·rw[hag i (Obs.top_get hto h2).1] at hbi
   rw[hag j (Obs.top_get hto q2).1] at hbj
   exact hm.sep i j b (by rw[h2]; rfl) (by rw[q2]; rfl) hbi hbj
  ·rw[hag i (Obs.top_get hto h2).1] at hbi
   rw[<- q1,hh j'] at hbj
   exact (mix i j' o1 h1 (by rw[h2]; rfl) q2 hbi hbj).elim
  ·rw[hag j (Obs.top_get hto q2).1] at hbj
   rw[<- h1,hh i'] at hbi
   exact (mix j i' o0 q1 (by rw[q2]; rfl) h2 hbj hbi).elim
  ·rw[<- h1,hh i'] at hbi
   rw[<- q1,hh j'] at hbj
   have:=ha.loc.sep i' j' b (by rw[h2]; rfl) (by rw[q2]; rfl) hbi hbj
   rw[<- h1,<- q1,this]
 ·simp only[hbak]
  split
  ·exact ha.loc.one _
  ·exact hm.one _
 ·have hlt:b<w.heap.size:=Nat.lt_of_lt_of_le hb hm.grow
  rw[ha.frame b hlt (fun hzz=>(hZown b hzz).1.elim (fun h=>by omega) hz)]
  exact hm.frame b hb hz
 ·rw[hag i (by omega)]; exact hm.hfix i hi
 ·obtain⟨q1,q2,q3⟩:=hm.kept b o hk
  have hlt:=(Array.getElem?_eq_some_iff.1 q1).1
  have hnz: ¬ ZOf (Qc s.ob (idx · nm) 0 nm) (hcal h nm) b:=fun hz=>by
   obtain⟨i,_,h2,h3⟩:=hZ b hz
   exact q3 i h2 h3
  refine⟨by rw[ha.frame b hlt hnz]; exact q1,fun off=>by rw[hφs b hlt hnz]; exact q2 off,fun i hi hb=> ?_⟩
  obtain⟨oi,hoi⟩:=Option.isSome_iff_exists.1 hi
  rcases hcase i oi hoi with ⟨h1,h2⟩ | ⟨j,o0,h1,h2,rfl⟩
  ·rw[hag i (Obs.top_get hto h2).1] at hb
   exact q3 i (by rw[h2]; rfl) hb
  ·rw[<- h1,hh j] at hb
   rcases ((ha.loc.obj j o0 h2).blk_lt hb).2 with h3 | h3
   ·omega
   ·exact hnz h3
theorem Mod.names (hm:Mod cx s φ h tmps w) {f:Nat->Nat} {g:Nat->Option Nat} {h2:Nat->Value} (hinj: ∀ j k,(g j).isSome->(g k).isSome->f j=f k->j=k) (hfg: ∀ j k,g j=some k->k=f j) (hh: ∀ j k,g j=some k->h2 k=h j) (hone:HOne h2)
  (hfix: ∀ i,i<cx.bs->h2 i=h i) {tm:Env} {ob:Obs} (htm: ∀ t d,lk tm t=some d-> ∃ d0,lk s.tm t=some d0/\d=d0.ren g) (hob: ∀ i o,lk ob i=some o-> ∃ j o0,g j=some i/\lk s.ob j=some o0/\o=o0.ren g):Mod cx ⟨tm,ob⟩ φ h2 tmps w:=by
 refine⟨hm.size,fun t d hd=> ?_,hm.mem,hm.ext,hm.new,fun i o ho=> ?_,fun i j b hi hj hbi hbj=> ?_,hm.os,hm.tape,hm.output,hm.grow,hone,hm.frame,fun i hi=>(hfix i hi).trans (hm.hfix i hi),fun b o hk=> ?_⟩
 ·obtain⟨d0,h0,rfl⟩:=htm t d hd
  exact (hm.tm t d0 h0).ren fun i k hk _=>hh i k hk
 ·obtain⟨j,o0,h1,h3,rfl⟩:=hob i o ho
  rw[hh j i h1]
  have:=hm.ob j o0 h3
  exact this.ren (fun b hb=>(this.blk_lt hb).2) fun i k hk _=>hh i k hk
 ·obtain⟨oi,hoi⟩:=Option.isSome_iff_exists.1 hi
  obtain⟨oj,hoj⟩:=Option.isSome_iff_exists.1 hj
  obtain⟨i',o0,q1,q3,_⟩:=hob i oi hoi
  obtain⟨j',o1,r1,r3,_⟩:=hob j oj hoj
  rw[hh i' i q1] at hbi
  rw[hh j' j r1] at hbj
  have:=hm.sep i' j' b (by rw[q3]; rfl) (by rw[r3]; rfl) hbi hbj
  subst this
  rw[q1] at r1
  exact Option.some.inj r1
 ·obtain⟨q1,q2,q3⟩:=hm.kept b o hk
  refine⟨q1,q2,fun i hi hb=> ?_⟩
  obtain⟨oi,hoi⟩:=Option.isSome_iff_exists.1 hi
  obtain⟨j,o0,r1,r3,_⟩:=hob i oi hoi
  rw[hh j i r1] at hb
  exact q3 j (by rw[r3]; rfl) hb
theorem Mod.canS (hm:Mod cx s φ h tmps w) {tm:Env} (htm: ∀ t d,lk tm t=some d->lk s.tm t=some d) {nw:List Nat}: ∃ h2,(∀ v d,RV φ h v d->RV φ h2 v (d.ren (canG cx.bs nw)))/\Mod cx (canS cx.bs nw tm s.ob) φ h2 tmps w:=by
 let f:Nat->Nat:=fun i=>if i<cx.bs then i else cx.bs+(idx i nw).getD 0
 let h2:Nat->Value:=fun k=>if k<cx.bs then h k else match nw[k-cx.bs]? with | some i=>h i | none=> .pointer none
 have hgf: ∀ j k,canG cx.bs nw j=some k->k=f j:=fun j k hk=>by
  simp only[canG] at hk
  simp only[f]
  split at hk
  ·rename_i hj; cases hk; rw[if_pos hj]
  ·rename_i hj
   rw[if_neg hj]
   cases hq:idx j nw with
   | none=>rw[hq] at hk; cases hk
   | some q=>rw[hq] at hk; simp at hk; simp[hk]
 have hg2: ∀ j k,canG cx.bs nw j=some k->h2 k=h j:=fun j k hk=>by
  simp only[canG] at hk
  simp only[h2]
  split at hk
  ·rename_i hj; cases hk; rw[if_pos hj]
  ·rename_i hj
   cases hq:idx j nw with
   | none=>rw[hq] at hk; cases hk
   | some q =>
    rw[hq] at hk
    simp at hk
    subst hk
    rw[if_neg (by omega),Nat.add_sub_cancel_left,Z20 hq]
 have hinj: ∀ j k,(canG cx.bs nw j).isSome->(canG cx.bs nw k).isSome->f j=f k->j=k:=fun j k hj hk e=>by
  simp only[f] at e
  simp only[canG] at hj hk
  by_cases h1:j<cx.bs <;> by_cases h2:k<cx.bs
  ·simpa [h1,h2] using e
  ·rw[if_pos h1,if_neg h2] at e; omega
  ·rw[if_neg h1,if_pos h2] at e; omega
  ·rw[if_neg h1] at hj
   rw[if_neg h2] at hk
   rw[if_neg h1,if_neg h2] at e
   cases hq:idx j nw with
   | none=>rw[hq] at hj; cases hj
   | some q =>
    cases hq':idx k nw with
    | none=>rw[hq'] at hk; cases hk
    | some q' =>
     rw[hq,hq'] at e
     simp at e
     have e1:=Z20 hq
     have e2:=Z20 hq'
     rw[e] at e1
     exact Option.some.inj (e1.symm.trans e2)
 refine⟨h2,fun v d r=>r.ren fun i k hk _=>hg2 i k hk,hm.names hinj hgf hg2 (fun i=> ?_) (fun i hi=>by simp only[h2]; rw[if_pos hi]) (fun t d hd=> ?_) (fun i o ho=> ?_)⟩
 ·simp only[h2]
  split
  ·exact hm.one _
  ·split
   ·exact hm.one _
   ·rfl
 ·obtain⟨d0,h0,rfl⟩:=Z9z hd
  exact⟨d0,htm t d0 h0,rfl⟩
 ·have ho':lk (Z1W (oldO cx.bs (canG cx.bs nw) s.ob)++newO s.ob (canG cx.bs nw) cx.bs nw) i=some o:=ho
  rw[Z09,Zt] at ho'
  cases hq:lk (oldO cx.bs (canG cx.bs nw) s.ob) i with
  | some o' =>
   rw[hq] at ho'
   simp at ho'
   subst ho'
   obtain⟨h1,o0,h3,h4⟩:=Z4o s.ob i o' hq
   exact⟨i,o0,by simp[canG,h1],h3,h4⟩
  | none =>
   rw[hq] at ho'
   simp only[Option.none_or] at ho'
   exact Z2Q nw cx.bs i o ho'
noncomputable def memZ (ob:Obs) (φ:Mem) (h:Nat->Value) (w:World):Mem:=fun b o =>
 open Classical in if (∃ i sz e es,lk ob i=some (.arr false sz e es)/\blk (h i)=some b/\o<es.length*sz) then w.cell? ⟨b,o,none⟩ else φ b o
theorem Zc3 {own:Nat->Prop} {φ:Mem} {h:Nat->Value} {w:World} {hv:Value} {fz:Bool} {sz:Nat} {e:TypeId} {es:List (List D)} (hob:ObR own φ h w hv (.arr fz sz e es)) {b:Nat} (hb:blk hv=some b) {xs:List Value} (hown:w.ownsRow 0 e sz hv es.length xs) {o:Nat} (ho:o<es.length*sz):w.cell? ⟨b,o,none⟩=xs[o]? := by
 rcases hown.2 with ⟨rfl,_⟩ | ⟨g,cap,cur,rfl,_,hblk,_,_,_,htk⟩
 ·cases hb
 ·cases hb
  have h1:(cur.toList.take (es.length*sz))[o]? = xs[o]? := by rw[htk]
  rw[List.getElem?_take_of_lt ho,Array.getElem?_toList] at h1
  simp only[World.cell?,hblk]
  rw[<- h1]
  simp
theorem Z9Q {own:Nat->Prop} {ob:Obs} {φ:Mem} {h:Nat->Value} {w:World} (hmem: ∀ b o v,φ b o=some v->w.cell? ⟨b,o,none⟩=some v) (hobj: ∀ i o,lk ob i=some o->ObR own φ h w (h i) o) (hsepa: ∀ i j b,(lk ob i).isSome->(lk ob j).isSome->blk (h i)=some b->blk (h j)=some b->i=j) :
  (∀ b o v,φ b o=some v->memZ ob φ h w b o=some v)/\(∀ b o v,memZ ob φ h w b o=some v->φ b o=none->own b)/\(∀ b o v,memZ ob φ h w b o=some v->w.cell? ⟨b,o,none⟩=some v)/\(∀ i o,lk (frzO ob) i=some o->ObR own (memZ ob φ h w) h w (h i) o)/\(∀ i j b,(lk (frzO ob) i).isSome->(lk (frzO ob) j).isSome->blk (h i)=some b->blk (h j)=some b->i=j):=by
 have hrow: ∀ i sz e es b,lk ob i=some (.arr false sz e es)->blk (h i)=some b->own b/\ ∀ o,φ b o=none:=fun i sz e es b hi hb=>by
  obtain⟨_,_,xs,_,_,q⟩:=hobj i _ hi
  obtain⟨q1,q2⟩:=q b hb
  exact⟨q1,fun o=>by rw[q2 o]; simp⟩
 have hmono: ∀ b o v,φ b o=some v->memZ ob φ h w b o=some v:=fun b o v hv=>by
  unfold memZ
  rw[if_neg]
  ·exact hv
  ·rintro⟨i,sz,e,es,hi,hb,_⟩
   rw[(hrow i sz e es b hi hb).2 o] at hv
   cases hv
 have hsome: ∀ i,(lk (frzO ob) i).isSome->(lk ob i).isSome:=fun i hi=>by
  rw[Z2V] at hi
  cases hq:lk ob i with
  | none=>rw[hq] at hi; cases hi
  | some o=>rfl
 refine⟨hmono,fun b o v hv hn=> ?_,fun b o v hv=> ?_,fun i o ho=> ?_,fun i j b hi hj=>hsepa i j b (hsome i hi) (hsome j hj)⟩
 ·unfold memZ at hv
  split at hv
  ·rename_i hc
   obtain⟨i,sz,e,es,hi,hb,_⟩:=hc
   exact (hrow i sz e es b hi hb).1
  ·rw[hn] at hv; cases hv
 ·unfold memZ at hv
  split at hv
  ·exact hv
  ·exact hmem b o v hv
 ·rw[Z2V] at ho
  cases hq:lk ob i with
  | none=>rw[hq] at ho; cases ho
  | some o0 =>
   rw[hq] at ho
   simp only[Option.map_some,Option.some.injEq] at ho
   have hob:=hobj i o0 hq
   -- blocks of other objects keep their memory
   have hoth:(∀ sz e es,o0≠ .arr false sz e es)-> ∀ b,blk (h i)=some b-> ∀ off,memZ ob φ h w b off=φ b off:=fun hne b hb off=>by
    unfold memZ
    rw[if_neg]
    rintro⟨j,sz,e,es,hj,hbj,_⟩
    have:=hsepa i j b (by rw[hq]; rfl) (by rw[hj]; rfl) hb hbj
    subst this
    rw[hq] at hj
    cases hj
    exact hne sz e es rfl
   cases o0 with
   | cells cs =>
    subst ho
    exact hob.keep (fun _ hb=>hb) (fun _ _=>rfl) hmono (hoth (by simp)) (fun _ _ _ r=>r.mono hmono)
   | gen g ds =>
    subst ho
    exact hob.keep (fun _ hb=>hb) (fun _ _=>rfl) hmono (hoth (by simp)) (fun _ _ _ r=>r.mono hmono)
   | arr fz sz e es =>
    subst ho
    cases fz with
    | true=>exact hob.keep (fun _ hb=>hb) (fun _ _=>rfl) hmono (hoth (by simp)) (fun _ _ _ r=>r.mono hmono)
    | false =>
     have hob':=hob
     obtain⟨h0,hsz,xs,hown,hrep,hb⟩:=hob
     refine⟨h0,hsz,xs,hown,fun i x j d h1 h2=>(hrep i x j d h1 h2).mono hmono,fun b hbi=>⟨(hb b hbi).1,fun o=> ?_⟩⟩
     by_cases hlt:o<es.length*sz
     ·rw[if_pos ⟨rfl,hlt⟩]
      unfold memZ
      rw[if_pos ⟨i,sz,e,es,hq,hbi,hlt⟩]
      exact Zc3 hob' hbi hown hlt
     ·rw[if_neg (fun h=>hlt h.2)]
      unfold memZ
      rw[if_neg]
      ·rw[(hb b hbi).2 o]; simp
      ·rintro⟨j,sz',e',es',hj,hbj,hlt'⟩
       have:=hsepa i j b (by rw[hq]; rfl) (by rw[hj]; rfl) hbi hbj
       subst this
       rw[hq] at hj
       cases hj
       exact hlt hlt'
theorem Mod.frzM (hm:Mod cx s φ h tmps w) (ts:List Nat): ∃ φ2,(∀ b o v,φ b o=some v->φ2 b o=some v)/\Mod cx ⟨s.tm,frzT ts s.ob⟩ φ2 h tmps w:=by
 unfold frzT
 cases hasF ts with
 | false=>exact⟨φ,fun _ _ _ h=>h,hm⟩
 | true =>
  obtain⟨h1,h2,h3,h4,h5⟩:=Z9Q hm.mem hm.ob hm.sep
  have hs: ∀ i,(lk (frzO s.ob) i).isSome->(lk s.ob i).isSome:=fun i hi=>by
   rw[Z2V] at hi
   cases hq:lk s.ob i with
   | none=>rw[hq] at hi; cases hi
   | some o=>rfl
  refine⟨memZ s.ob φ h w,h1,hm.size,fun t d hd=>(hm.tm t d hd).mono h1,h3,fun b o v hv=>h1 b o v (hm.ext b o v hv),fun b o v hv hn=> ?_,h4,h5,hm.os,hm.tape,hm.output,hm.grow,hm.one,hm.frame,hm.hfix,fun b o hb=> ?_⟩
  ·cases hq:φ b o with
   | none=>exact h2 b o v hv hq
   | some u=>exact hm.new b o u hq hn
  ·obtain⟨g1,g2,g3⟩:=hm.kept b o hb
   refine⟨g1,fun off=> ?_,fun i hi=>g3 i (hs i hi)⟩
   unfold memZ
   rw[if_neg]
   ·exact g2 off
   ·rintro⟨i,sz,e,es,hi,hbi,_⟩
    exact g3 i (by rw[hi]; rfl) hbi
theorem Za3 (f:D->D) (t:Nat): ∀ tm:Env,lk (tm.map fun p=>(p.1,f p.2)) t=(lk tm t).map f
 | []=>rfl
 | (j,d)::r=>by
  simp only[List.map_cons,lk]
  split
  ·rfl
  ·exact Za3 f t r
theorem Mod.thawM (hm:Mod cx s φ h tmps w) (ts:List Nat):Mod cx ⟨thaw ts s.ob s.tm,s.ob⟩ φ h tmps w:=by
 unfold thaw
 cases hasS ts with
 | false=>exact hm
 | true =>
  refine⟨hm.size,fun t d hd=> ?_,hm.mem,hm.ext,hm.new,hm.ob,hm.sep,hm.os,hm.tape,hm.output,hm.grow,hm.one,hm.frame,hm.hfix,hm.kept⟩
  simp only[Za3] at hd
  cases hq:lk s.tm t with
  | none=>rw[hq] at hd; cases hd
  | some d0 =>
   rw[hq] at hd
   simp only[Option.map_some,Option.some.injEq] at hd
   subst hd
   have hr:=hm.tm t d0 hq
   unfold slv
   split
   ·rename_i i
    split
    ·rename_i e es hob
     have h2:=Z0B (obs:=lk s.ob) (fun i o hi _=>hm.ob i o hi) hr
     simp only[dv,hob] at h2
     exact h2
    ·exact hr
   ·exact hr
theorem Mod.canonM (hm:Mod cx s φ h tmps w) (ts:List Nat): ∃ φ2 h2,Mod cx (s.canon cx.bs ts) φ2 h2 tmps w:=by
 obtain⟨φ2,_,hm2⟩:=hm.frzM ts
 have hm3:=hm2.thawM ts
 obtain⟨h2,_,h3⟩:=hm3.canS (tm:=Go.Sx.kept (thaw ts (frzT ts s.ob) s.tm) ts) (fun _ _ h=>Z64 h) (nw:=newN cx.bs (frzT ts s.ob) (Go.Sx.kept (thaw ts (frzT ts s.ob) s.tm) ts))
 exact⟨φ2,h2,h3⟩
end
end Go.Sx
namespace Go.Sx
open Go.RowKit
variable [Globs] [Codes]
def St.get (s:St):X->D
 | .t n=>(lk s.tm n).getD .undef
 | .c d=>d
def St.put (s:St) (dst:Option Nat) (d:D):St :=
 match dst with
 | some t=>{ s with tm:=(t,d)::Za t s.tm }
 | none=>s
def St.put2 (s:St) (dst id:Nat) (d:D) (o:Ob):St:={ tm:=(dst,d)::Za dst s.tm,ob:=(id,o)::Za id s.ob }
def SK.at (s:St):SK->SK
 | .c n=> .c n
 | .m key=> .m key
 | .k kd x=>if isKD kd (s.get x)=true then .m (s.get x) else .k kd x
 | .cp dst sz=>if (lk s.tm dst).isNone=true then .cp dst sz else .k none (.c .undef)
def gud (g:Option (Nat × Bool)) (s:St) (body skip:Prop):Prop :=
 match g with
 | none=>body
 | some (t,want)=>match lk s.tm t with
  | some (.bool b)=>if b=want then body else skip
  | some (.tuple [])=>skip
  | _=>False
def Zl5:D->Bool
 | .func (.func f) _ _=>Globs.N f
 | _=>false
def dva (c:D) (obs:Nat->Option Ob):D->D
 | .vec id=>match obs id with
  | some (.arr true _ _ es)=> .slice es []
  | _=> .vec id
 | .nils=>match Zl5 c with
  | true=> .nils
  | false=> .slice [] []
 | d=>d
def St.base (s:St) (bs:Nat):Nat:=max (bs+4096) s.top
def stp (P:Program) (bs:Nat) (o:SOp) (s:St) (K:St->Prop):Prop :=
 match o with
 | .a dst g op xs=>gud g s
   (evl P (bs+dst.getD 0) op (xs.map s.get) (lk s.ob) fun d nb=>match nb with
    | none=>K (s.put dst d)
    | some ob=>match dst with
     | some t=>s.clean (bs+t)=true/\K (s.put2 t (bs+t) d ob)
     | none=>False)
   (K (s.put dst .nov))
 | .st g sz x y=>gud g s
   (match stO (sz.at s) (s.get x) (s.get y) (lk s.ob) with
    | some (a,b,id,o)=>a<b/\K { s with ob:=(id,o)::Za id s.ob }
    | none=>False)
   (K s)
 | .app dst g fz sz e x y=>gud g s
   (match Z3m (lk s.ob) (s.get y) with
    | some (ys,_)=>(∀ q∈ys,q.length=sz)/\(match s.get x with
     | .nils=>ys.length<=1073741824/\s.clean (bs+dst)=true/\K (s.put2 dst (bs+dst) (.vec (bs+dst)) (.arr fz sz e ys))
     | .vec id=>match lk s.ob id with
      | some (.arr fz' sz' e' es)=>sz'=sz/\e'=e/\es.length+ys.length<=1073741824/\s.clean (bs+dst)=true ∧
        K (St.put2 ⟨s.tm,Za id s.ob⟩ dst (bs+dst) (.vec (bs+dst)) (.arr fz' sz e (es++ys)))
      | _=>False
     | _=>False)
    | none=>False)
   (K (s.put (some dst) .nov))
 | .cd dst g x xs=>gud g s
   (∃ nm R base,nm.Nodup/\(∀ i∈nm,(lk s.ob i).isSome)/\bs+4096<=base/\s.top<=base ∧
    CallL P ((s.get x).ren (idx · nm)) ((xs.map fun y=>dva (s.get x) (lk s.ob) (s.get y)).map (D.ren (idx · nm))) (Qc s.ob (idx · nm) 0 nm) R ∧
    ∀ r ob',R r ob'->r.isPan=false/\K ((s.back base nm ob').put dst (r.ren (bkN base nm))))
   (K (s.put dst .nov))
def stps (P:Program) (bs:Nat):List SOp->St->(St->Prop)->Prop
 | [],s,K=>K s
 | o::r,s,K=>stp P bs o s fun s'=>stps P bs r s' K
/- FROM THE PROGRAM's OPERATIONS. -/
def glx (g:Nat):D:=match Globs.G g with
 | some cs=> .fptr cs
 | none=> .undef
def Qj:Operand->Option X
 | .tmp t=>some (.t t)
 | .const v=>some (.c (Z39 v))
 | .func f=>some (.c (.func (.func f) [] []))
 | .global g=>some (.c (glx g))
def QE (P:Program) (f:FuncId):Bool :=
 match P.funcs[f]? with
 | some fn => !fn.body.isNone && !(fn.name == "runtime.NumGoroutine")
 | none=>false
def Z1Q (P:Program) (c:Call):Option (AOp × List Operand) :=
 match c.callee with
 | .builtin .len=>match c.args.toList,c.argTypes.toList with
  | [x],[t]=>match P.underlying t with
   | some .string=>some (.len true,[x])
   | some (.slice _)=>some (.len false,[x])
   | some (.map _ _)=>some (.ext .lenm,[x])
   | _=>none
  | _,_=>none
 | .value (.func f)=>if QE P f then some (.call f,c.args.toList) else none
 | .builtin .max=>some (.mm true,c.args.toList)
 | .builtin .min=>some (.mm false,c.args.toList)
 | _=>none
def ZaM (bt:Nat->Bool) (c:Call):Option (Operand × List Operand) :=
 match c.callee with
 | .value (.func f)=>if bt f then some (.func f,c.args.toList) else none
 | .value g=>some (g,c.args.toList)
 | _=>none
def nilT (P:Program) (o:Oper) (x:Operand):Option (Nat × TypeId) :=
 match x with
 | .const (.slice none 0 0)=>match P.underlying o.type with
  | some (.slice e)=>match szT P e with
   | some sz=>if 0<sz then some (sz,e) else none
   | none=>none
  | _=>none
 | _=>none
def Z4S:Operand->Operand->Nat
 | .tmp a,.tmp b=>if a=b then 1 else 0
 | .const (.int .i64 n),.const (.int .i64 m)=>if n=m then 1 else if n=0 then 2 else 0
 | .const (.int .i64 n),.tmp _=>if n=0 then 2 else 0
 | _,_=>0
theorem ZbU {l c:Operand} (h:Z4S l c=1):l=c:=by
 unfold Z4S at h
 split at h
 ·split at h
  ·rename_i e; rw[e]
  ·cases h
 ·split at h
  ·rename_i e; rw[e]
  ·split at h <;> cases h
 ·split at h <;> cases h
 ·cases h
theorem ZbT {l c:Operand} (h:Z4S l c=2):l= .const (.int .i64 0):=by
 unfold Z4S at h
 split at h
 ·split at h <;> cases h
 ·split at h
  ·cases h
  ·split at h
   ·rename_i e; rw[e]
   ·cases h
 ·split at h
  ·rename_i e; rw[e]
  ·cases h
 ·cases h
def Z3s (P:Program) (fz:Bool) (o:Oper):Option (AOp × List Operand) :=
 match o.op with
 | .move x=>match nilT P o x with
  | some (sz,e)=>some (.nilv fz sz e,[x])
  | none=>some (.mv,[x])
 | .assign x=>match nilT P o x with
  | some (sz,e)=>some (.nilv fz sz e,[x])
  | none=>some (.mv,[x])
 | .pick c a b=>some (.pick,[c,a,b])
 | .binOp .shl _ x y _=>some (.sh true,[x,y])
 | .binOp .shr _ x y _=>some (.sh false,[x,y])
 | .binOp op t x y _=>match P.underlying t with
  | some .bool=>some (.binb op,[x,y])
  | some (.int _)=>some (.bin op,[x,y])
  | some .string=>some (.bin op,[x,y])
  | some (.struct fs)=>match Z31 P fs.toList 0 with
   | some ks=>if P.stoodInHeld t=false/\P.eqGuardType P.depth t=false then (match op with
    | .eql=>some (.eqs false ks,[x,y])
    | .neq=>some (.eqs true ks,[x,y])
    | _=>none) else none
   | none=>none
  | _=>match kdOf P t with
   | some 3=>if cst x || cst y then (match op with
    | .eql=>some (.ext (.eqs3 false),[x,y])
    | .neq=>some (.ext (.eqs3 true),[x,y])
    | _=>none) else none
   | some kd=>if cst x || cst y then some (.eqn op kd,[x,y]) else none
   | none=>none
 | .unOp op _ x=>some (.un op,[x])
 | .convert s d x=>match P.underlying s,P.underlying d with
  | some _,some (.int k)=>some (.conv k,[x])
  | some (.slice e),some .string=>match P.underlying e with
   | some (.int .u8)=>some (.b2s,[x])
   | _=>none
  | _,_=>none
 | .makeSlice t l c=>match P.underlying t with
  | some (.slice e)=>match P.info? e,Z0m P e with
   | some i,some z=>if 0<i.size then (match Z4S l c with
    | 1=>some (.mks fz i.size e (z.map unnil) i.bytes,[l])
    | 2=>some (.mke fz i.size e i.bytes,[c])
    | _=>none) else none
   | _,_=>none
  | _=>none
 | .box _ x=>some (.box,[x])
 | .alloc e=>(Z0m P e).map fun z=>(.alloc z,[])
 | .build t parts=>match Z0m P t,Z4m P t (parts.toList.map (·.1)) with
  | some z,some ps=>some (.build (zB fz z) ps,parts.toList.map (·.2))
  | _,_=>none
 | .buildSlice t n parts=>match P.underlying t with
  | some (.slice e)=>match Z0m P e,szT P e with
   | some z,some sz=>if 0<sz/\n*sz<=16777216 then some (.bslice fz sz n e ((List.replicate n (z.map unnil)).flatten) (parts.toList.map fun x=>(x.1*sz,sz)),parts.toList.map (·.2)) else none
   | _,_=>none
  | _=>none
 | .load t x=>match aggB P t,szT P t with
  | some ag,some sz=>if (ag && !fz)=true then some (.ext (.ldn sz),[x]) else some (.load ag sz,[x])
  | _,_=>none
 | .fieldAddr s x f=>(Z0H P s f).map fun r=>(.faddr r.1,[x])
 | .field s x f=>(Z0H P s f).map fun r=>(.field r.1 r.2.1 r.2.2,[x])
 | .indexAddr t x y=>match P.underlying t with
  | some (.slice e)=>(szT P e).map fun sz=>(.iaddr sz,[x,y])
  | some (.array len e)=>(szT P e).map fun sz=>(.iaddrA len sz,[x,y])
  | _=>none
 | .index t x y=>match P.underlying t with
  | some .string=>some (.index,[x,y])
  | _=>none
 | .slice t x lo hi none=>match P.underlying t with
  | some .string=>some (.sliceS lo.isSome hi.isSome,[x]++lo.toList++hi.toList)
  | some (.slice e)=>(szT P e).map fun sz=>(.slice sz lo.isSome hi.isSome,[x]++lo.toList++hi.toList)
  | _=>none
 | .extract x i=>some (.extract i,[x])
 | .call c=>match Z1Q P c with
  | some r=>some r
  | none=>some (.bad,[])
 | .nilCheck x=>some (.nilck,[x])
 | .makeFunc f first caps=>some (.mkfn f first.size,first.toList++caps.toList)
 | .makeMap t none=>match P.underlying t with
  | some (.map _ et)=>match P.underlying et with
   | some (.func ..)=>some (.mkmap,[])
   | _=>some (.mkmapC,[])
  | _=>some (.mkmap,[])
 | .lookup t m k false=>match P.underlying t with
  | some (.map kt et)=>match keyK P kt,Z7L P et with
   | some kd,some z=>some (.mlook kd z,[m,k])
   | _,_=>none
  | _=>none
 | .lookup t m k true=>match P.underlying t with
  | some (.map kt et)=>match keyK P kt,Z7L P et with
   | some kd,some z=>some (.ext (.look2 kd z),[m,k])
   | _,_=>none
  | _=>none
 | .entry x=>some (.ext .entry,[x])
 | .makeInterface t x=>match P.underlying t with
  | some (.interface _)=>none
  | some _=>some (.ext (.mkif t),[x])
  | none=>none
 | .typeAssert x _ t true=>match P.underlying t,Zed P t with
  | some (.interface _),_=>none
  | some _,some z=>some (.ext (.tas t z),[x])
  | _,_=>none
 | .panic x=>some (.pnk,[x])
 | _=>some (.bad,[])
def Z12 (ops:Array Oper) (o:Oper):Option (Option (Nat × Bool)) :=
 match o.guard with
 | none=>some none
 | some (j,want)=>((ops[j]?).bind (·.dst)).map fun t=>some (t,want)
def Zck (P:Program) (t:TypeId) (k:Operand):Option SK:=match mapK P t k with
 | some key=>some (.m key)
 | none=>match Z8g P t,Qj k with
  | some kd,some x=>some (.k kd x)
  | _,_=>none
def QZ (P:Program) (bt:Nat->Bool) (fz:Bool) (ops:Array Oper) (o:Oper):Option SOp :=
 match Z12 ops o with
 | none=>none
 | some g =>
  match o.op with
  | .store t x y=>match szT P t,Qj x,Qj y,o.dst with
   | some sz,some x,some y,none=>some (.st g (.c sz) x y)
   | _,_,_,_=>none
  | .insert t m k x=>match Zck P t k,Qj m,Qj x,o.dst with
   | some sk,some m,some x,none=>some (.st g sk m x)
   | _,_,_,_=>none
  | .mapUpdate t m k x=>match Zck P t k,Qj m,Qj x,o.dst with
   | some sk,some m,some x,none=>some (.st g sk m x)
   | _,_,_,_=>none
  | .call { callee:= .builtin .append,args,argTypes }=>match o.dst,args.toList,argTypes.toList with
   | some dst,[x,y],[t,u]=>match P.underlying t,Qj x,Qj y with
    | some (.slice e),some x,some y=>match P.info? e,Z0m P e with
     | some i,some _=>if t=u/\0<i.size/\i.bytes<=131072 then some (.app dst g fz i.size e x y) else none
     | _,_=>none
    | _,_,_=>none
   | _,_,_=>none
  | .call { callee:= .builtin .copy,args,argTypes }=>match o.dst,args.toList,argTypes.toList with
   | some dst,[x,y],[t,_]=>match P.underlying t,Qj x,Qj y with
    | some (.slice e),some x,some y=>match P.info? e,g with
     | some i,none=>some (.st none (.cp dst i.size) x y)
     | _,_=>none
    | _,_,_=>none
   | _,_,_=>none
  | .call c=>match ZaM bt c with
   | some (x,xs)=>match Qj x,xs.mapM Qj with
    | some x,some xs=>some (.cd o.dst g x xs)
    | _,_=>none
   | none=>match Z3s P fz o with
    | some (op,xs)=>(xs.mapM Qj).map fun xs=> .a o.dst g op xs
    | none=>none
  | _=>match Z3s P fz o with
   | some (op,xs)=>(xs.mapM Qj).map fun xs=> .a o.dst g op xs
   | none=>none
end Go.Sx
namespace Go.Sx
open Go.RowKit
variable [Globs] [Codes]
section
variable {P:Program} {o:Oper} {ρ:Operand->Value} {w:World} {φ:Mem} {h:Nat->Value} {dst:Nat} {K:D->Option Ob->Prop} {obs:Nat->Option Ob} {own:Nat->Prop}
theorem Z1b {f : FuncId} (hp : QE P f = true) : ∃ fn, P.funcs[f]? = some fn /\ fn.body.isNone = false /\ (fn.name == "runtime.NumGoroutine") = false := by
 unfold QE at hp
 split at hp
 ·rename_i fn hf
  simp only[Bool.and_eq_true,Bool.not_eq_true'] at hp
  exact⟨fn,hf,hp.1,hp.2⟩
 ·cases hp
theorem Z6i {fz:Bool} {op:AOp} {xs:List Operand} (hc:Z3s P fz o=some (op,xs)) (hρ: ∀ f,ρ (.func f)= .func (.func f) #[] #[]) (hρc: ∀ v,ρ (.const v)=v) (hh:HOne h) (hgl:GlobC φ w (fun _=>False)) (hφ:Sub φ w)
  (hobs: ∀ i ob,obs i=some ob->live (h i)=true->ObR own φ h w (h i) ob) {ds:List D} (hr:RVL φ h (xs.map ρ) ds) (hm: ∀ d ob,K d (some ob)->D.menL dst ds=false) (hev:evl P dst op ds obs K):OpOut P o ρ w (APost φ h w dst K):=by
 unfold Z3s at hc
 split at hc
 case h_1 x ho =>
  split at hc
  ·cases hc; exact ZdO (.inl ho) hφ hr hev
  ·cases hc; exact s_mv (.inl ho) hφ hr hev
 case h_2 x ho =>
  split at hc
  ·cases hc; exact ZdO (.inr ho) hφ hr hev
  ·cases hc; exact s_mv (.inr ho) hφ hr hev
 case h_3 c a b ho=>cases hc; exact Zi8 ho hφ hr hev
 case h_4 _ x y _ ho=>cases hc; exact s_sh (left:=true) ho hφ hr hev
 case h_5 _ x y _ ho=>cases hc; exact s_sh (left:=false) ho hφ hr hev
 case h_6 op t x y yt _ _ ho =>
  split at hc
  ·rename_i ht; cases hc; exact Zif ho ht hφ hr hev
  ·cases hc; exact Zig ho hφ hr hev
  ·cases hc; exact Zig ho hφ hr hev
  ·rename_i fs hu
   split at hc
   ·rename_i ks hks
    split at hc
    ·rename_i hfl
     split at hc
     ·cases hc; exact Zic (neg:=false) (by rw[ho]; rfl) hu hks hfl.1 hfl.2 hφ hr hev
     ·cases hc; exact Zic (neg:=true) (by rw[ho]; rfl) hu hks hfl.1 hfl.2 hφ hr hev
     ·cases hc
    ·cases hc
   ·cases hc
  ·split at hc
   ·rename_i hkd
    split at hc
    ·rename_i hcs
     split at hc
     ·cases hc; exact Z4U hφ (fun d hd=>Z7q (neg:=false) rfl ho hkd hcs (fun i ob h1 h2=>⟨_,hobs i ob h1 h2⟩) hr hd) hev
     ·cases hc; exact Z4U hφ (fun d hd=>Z7q (neg:=true) rfl ho hkd hcs (fun i ob h1 h2=>⟨_,hobs i ob h1 h2⟩) hr hd) hev
     ·cases hc
    ·cases hc
   ·rename_i kd hkd
    split at hc
    ·rename_i hcs; cases hc; exact ZkG ho hkd hcs hφ hr hev
    ·cases hc
   ·cases hc
 case h_7 op t x ho=>cases hc; exact s_un ho hφ hr hev
 case h_8 s d x ho =>
  split at hc
  ·rename_i u k hs hd; cases hc; exact Zid ho (by rw[hs]; rfl) hd hφ hr hev
  ·rename_i e hs hd
   split at hc
   ·rename_i he; cases hc; exact ZkI ho hs he hd hφ (fun i ob h1 h2=>⟨_,hobs i ob h1 h2⟩) hr hev
   ·cases hc
  ·cases hc
 case h_9 t l c ho =>
  split at hc
  ·rename_i e hu
   split at hc
   ·rename_i i z hi hz
    split at hc
    ·rename_i hsz
     split at hc
     ·rename_i hs1
      cases hc
      obtain rfl:=ZbU hs1
      exact ZkE ho hu hz hi rfl hsz hφ hr hev
     ·rename_i hs2
      cases hc
      obtain rfl:=ZbT hs2
      exact ZkF ho (hρc _) hu hz hi rfl hsz hφ hr hev
     ·cases hc
    ·cases hc
   ·cases hc
  ·cases hc
 case h_10 e x ho=>cases hc; exact ZkH ho hh hφ hr hm hev
 case h_11 e ho =>
  cases hz:Z0m P e with
  | none=>rw[hz] at hc; cases hc
  | some z =>
   rw[hz] at hc; cases hc
   match ds,hr,hev with
   | [],_,hev=>exact Zfl ho hz hφ hev
 case h_12 t parts ho =>
  split at hc
  ·rename_i z ps hz hp
   cases hc
   exact Zfk ho hz hp hh hφ hobs (by rw[List.map_map] at hr; exact hr) hev
  ·cases hc
 case h_13 t n parts ho =>
  split at hc
  ·rename_i e hu
   split at hc
   ·rename_i z sz hz hs
    split at hc
    ·rename_i hcond
     cases hc
     exact ZbX ho hu hz hs hcond.1 hcond.2 hh hφ hobs (by rw[List.map_map] at hr; exact hr) hev
    ·cases hc
   ·cases hc
  ·cases hc
 case h_14 t x ho =>
  split at hc
  ·rename_i ag sz ha hs
   split at hc
   ·rename_i hq
    simp only[Bool.and_eq_true] at hq
    rw[hq.1] at ha
    cases hc
    exact Z4U hφ (fun d hd=>ZgF ho ha hs hobs hr hd) hev
   ·cases hc; exact Zia ho ha hs hφ hobs hr hev
  ·cases hc
 case h_15 s x f ho =>
  cases hf:Z0H P s f with
  | none=>rw[hf] at hc; cases hc
  | some r=>rw[hf] at hc; cases hc; exact Zfj (ag:=r.2.1) (n:=r.2.2) ho hf hφ hr hev
 case h_16 s x f ho =>
  cases hf:Z0H P s f with
  | none=>rw[hf] at hc; cases hc
  | some r=>rw[hf] at hc; cases hc; exact Zfi ho hf hφ hr hev
 case h_17 t x y ho =>
  split at hc
  ·rename_i e hu
   cases hs:szT P e with
   | none=>rw[hs] at hc; cases hc
   | some sz=>rw[hs] at hc; cases hc; exact Zfh ho hu hs hφ hobs hr hev
  ·rename_i len e hu
   cases hs:szT P e with
   | none=>rw[hs] at hc; cases hc
   | some sz=>rw[hs] at hc; cases hc; exact ZbW ho hu hs hφ hr hev
  ·cases hc
 case h_18 t x y ho =>
  split at hc
  ·rename_i hu; cases hc; exact Zfg ho hu hφ hr hev
  ·cases hc
 case h_19 t x lo hi ho =>
  split at hc
  ·rename_i hu; cases hc; exact Z5O ho hu hφ hr hev
  ·rename_i e hu
   cases hs:szT P e with
   | none=>rw[hs] at hc; cases hc
   | some sz=>rw[hs] at hc; cases hc; exact Zfd ho hu hs hφ hobs hr hev
  ·cases hc
 case h_20 x i ho=>cases hc; exact Z9c ho hφ hr hev
 case h_21 c ho =>
  obtain⟨cal,args,ts⟩:=c
  cases hcc:Z1Q P { callee:=cal,args:=args,argTypes:=ts } with
  | none=>rw[hcc] at hc; cases hc; exact hev.elim
  | some r =>
  rw[hcc] at hc
  obtain rfl:=Option.some.inj hc
  clear hc
  have hc:=hcc; clear hcc
  simp only[Z1Q] at hc
  split at hc
  ·split at hc
   ·rename_i x t hx ht
    have hx':args= #[x]:=Array.ext' hx
    have ht':ts= #[t]:=Array.ext' ht
    subst hx'
    subst ht'
    split at hc
    ·rename_i hu; cases hc; exact Zib (str:=true) ho hu hφ hobs hr hev
    ·rename_i e hu; cases hc; exact Zib (str:=false) ho ⟨e,hu⟩ hφ hobs hr hev
    ·rename_i kt et hu; cases hc; exact Z4U hφ (fun d hd=>Zcw ho hu (fun i ob h1 h2=>⟨_,hobs i ob h1 h2⟩) hr hd) hev
    ·cases hc
   ·cases hc
  ·rename_i f
   split at hc
   ·rename_i hp
    cases hc
    obtain⟨fn,hf,hb,hn⟩:=Z1b hp
    exact Zie ho hf hb hn (hρ f) hh hgl hφ hobs hr hev
   ·cases hc
  ·cases hc; exact s_mm (big:=true) ho hφ hr hev
  ·cases hc; exact s_mm (big:=false) ho hφ hr hev
  ·cases hc
 case h_22 x ho=>cases hc; exact Zfe ho hφ hr hev
 case h_23 f first caps ho=>cases hc; exact Zi9 ho hφ hr hev
 case h_24 t ho =>
  split at hc
  ·split at hc
   ·cases hc
    match ds,hr,hev with
    | [],_,hev=>exact Z9b ho hφ hev
   ·cases hc
    match ds,hr,hev with
    | [],_,hev=>exact ZbV ho hφ hev
  ·cases hc
   match ds,hr,hev with
   | [],_,hev=>exact Z9b ho hφ hev
 case h_25 t m k ho =>
  split at hc
  ·rename_i kt et hu
   split at hc
   ·rename_i kd z hkd hz; cases hc; exact Zff ho hu hkd hz hφ (fun i ob h1 h2=>⟨_,hobs i ob h1 h2⟩) hr hev
   ·cases hc
  ·cases hc
 case h_26 t m k ho =>
  split at hc
  ·rename_i kt et hu
   split at hc
   ·rename_i kd z hkd hz; cases hc; exact Z4U hφ (fun d hd=>Zao ho hu hkd hz (fun i ob h1 h2=>⟨_,hobs i ob h1 h2⟩) hr hd) hev
   ·cases hc
  ·cases hc
 case h_27 x ho=>cases hc; exact Z4U hφ (fun d hd=>Zap ho (fun i ob h1 h2=>⟨_,hobs i ob h1 h2⟩) hr hd) hev
 case h_28 t x ho =>
  split at hc
  ·cases hc
  ·rename_i u hni hu; cases hc; exact Z4U hφ (fun d hd=>Zcv ho ⟨u,hu,fun ms e=>hni ms e⟩ hr hd) hev
  ·cases hc
 case h_29 x xt t ho =>
  split at hc
  ·cases hc
  ·rename_i u z hni hu hz; cases hc; exact Z4U hφ (fun d hd=>ZgE ho ⟨u,hu,fun ms e=>hni ms e⟩ hz hr hd) hev
  ·cases hc
 case h_30 x ho =>
  cases hc
  match ds,hr,hev with
  | [],_,hev=>exact hev.elim
  | _::_,_,hev=>exact hev.elim
 case h_31=>cases hc; exact hev.elim
end
theorem OpOut.wpIn {F:Fence} (hF:Fence.Open F) {n:Nat} {P:Program} {o:Oper} {a:Act} {w:World} {next:Act->World->Prop} {Q:Exit->Act->World->Prop} (hnd: ∀ c,o.op≠ .defer c)
  {R:Value->World->Prop} (hout:OpOut P o a.eval w R) (hnext: ∀ v w',R v w'->next (a.put o.dst v) w'):o.wpIn F n P a w next Q:=by
 refine⟨fun f _=>hF.fn f, ?_⟩
 rw[Oper.semAt_eq _ _ _ hnd]
 rcases hout with ⟨v,w',he,hr⟩ | ⟨f,vs,he,hcall⟩
 ·rw[he]; exact hnext v w' hr
 ·rw[he,Oper.uponIn_enter]
  refine⟨(fun h=>by rw[hF.depth] at h; cases h),(hF.calls hcall _).mono ?_⟩
  rintro e w' ⟨v,rfl,hr⟩
  exact hnext v w' hr
theorem Z0M {F:Fence} (hF:Fence.Open F) {n:Nat} {P:Program} {o:Oper} {a:Act} {w w':World} {next:Act->World->Prop} {Q:Exit->Act->World->Prop} (hnd: ∀ c,o.op≠ .defer c)
  (he:(execOp a.eval o).run P w= .ok .skip w') (hnext:next (a.put o.dst Go.undef) w'):o.wpIn F n P a w next Q:=by
 refine⟨fun f _=>hF.fn f, ?_⟩
 rw[Oper.semAt_eq _ _ _ hnd,he]
 exact hnext
end Go.Sx
namespace Go.Sx
open Go.RowKit
variable [Globs] [Codes]
section
variable {cx:Cx} {s s':St} {φ φ':Mem} {h:Nat->Value} {tmps:Array Value} {w w':World}
theorem Mod.grown (hm:Mod cx s φ h tmps w) (hb:Below w.heap.size w w') (hmono: ∀ b o u,φ b o=some u->φ' b o=some u) (hsub:Sub φ' w') (hnew: ∀ b o u,φ' b o=some u->φ b o=none->w.heap.size<=b) :
  Mod cx s φ' h tmps w':=by
 refine⟨hm.size,fun t d hd=>(hm.tm t d hd).mono hmono,hsub,fun b o v hb=>hmono b o v (hm.ext b o v hb),fun b o u hu h0=> ?_,fun i o ho=> ?_,hm.sep,hb.os.trans hm.os,hb.tape.trans hm.tape,hb.output.trans hm.output,
  Nat.le_trans hm.grow hb.size,hm.one,fun b h1 h2=> ?_,hm.hfix,fun b o hbk=> ?_⟩
 ·cases hq:φ b o with
  | some u'=>exact hm.new b o u' hq h0
  | none=>exact .inl (Nat.le_trans hm.grow (hnew b o u hu hq))
 ·have hob:=hm.ob i o ho
  exact hob.keep (fun _ hb=>hb) (fun b hbk=>hb.block b (hob.blk_lt hbk).1) hmono (fun b hbk off=>Z4n hmono hnew (hob.blk_lt hbk).1 off) (fun v d _ r=>r.mono hmono)
 ·rw[hb.block b (Nat.lt_of_lt_of_le h1 hm.grow)]
  exact hm.frame b h1 h2
 ·obtain⟨h1,h2,h3⟩:=hm.kept b o hbk
  have hlt:=(Array.getElem?_eq_some_iff.1 h1).1
  exact⟨by rw[hb.block b hlt]; exact h1,fun off=>by rw[Z4n hmono hnew hlt off]; exact h2 off,h3⟩
theorem Mod.drew (hm:Mod cx s φ h tmps w):Mod cx s φ h tmps w.drew :=
 hm.grown ((Below.refl _ w).drew) (fun _ _ _ h=>h) hm.mem (fun _ _ _ h h'=>by rw[h] at h'; cases h')
theorem Mod.glob (hm:Mod cx s φ h tmps w) (hg:GlobC cx.φ0 cx.w0 cx.Z):GlobC φ w cx.own:=by
 refine⟨fun g cs hgc=>(hg.ok g cs hgc).mono hm.ext,fun g arr hx=> ?_,fun g hx=> ?_⟩
 rotate_left
 ·obtain⟨⟨arr,ty,fr,m,h1,h3⟩,h2⟩:=hg.i g hx
  have hlt:=(Array.getElem?_eq_some_iff.1 h1).1
  exact⟨⟨arr,ty,fr,m,by rw[hm.frame g hlt h2]; exact h1,h3⟩,fun ho=>ho.elim (fun h=>by omega) h2⟩
 obtain⟨⟨ty,fr,h1⟩,h2⟩:=hg.x g arr hx
 have hlt:=(Array.getElem?_eq_some_iff.1 h1).1
 exact⟨⟨ty,fr,by rw[hm.frame g hlt h2]; exact h1⟩,fun ho=>ho.elim (fun h=>by omega) h2⟩
theorem Zct {v:Value} {cs:List D} (r:RV φ noH v (.fptr cs)):RV φ h v (.fptr cs):=by
 obtain⟨b,o,vals,rfl,h1,h2⟩:=r.fptr_inv
 exact .fptr b o cs vals h1 h2
theorem Mod.get (hm:Mod cx s φ h tmps w) (hg:GlobC cx.φ0 cx.w0 cx.Z) {ds:List Deferred} {x:Operand} {y:X} (hx:Qj x=some y):RV φ h (Act.eval ⟨tmps,ds⟩ x) (s.get y):=by
 cases x with
 | tmp t =>
  cases hx
  simp only[Act.eval,St.get]
  cases hl:lk s.tm t with
  | none=>exact .undef _
  | some d=>exact hm.tm t d hl
 | const v=>cases hx; exact Z9h φ h v
 | func f=>cases hx; exact .func _ _ _ _ _ rfl rfl (by simp) (by simp)
 | global g =>
  cases hx
  simp only[St.get,glx]
  cases hq:Globs.G g with
  | none=>exact .undef _
  | some cs=>exact Zct ((hm.glob hg).ok g cs hq)
theorem Mod.gets (hm:Mod cx s φ h tmps w) (hg:GlobC cx.φ0 cx.w0 cx.Z) {ds:List Deferred}: ∀ {xs:List Operand} {ys:List X},xs.mapM Qj=some ys->RVL φ h (xs.map (Act.eval ⟨tmps,ds⟩)) (ys.map s.get)
 | [],ys,hx=>by simp at hx; subst hx; trivial
 | x::xs,ys,hx=>by
  simp only[List.mapM_cons,Option.bind_eq_bind,Option.bind_eq_some_iff,Option.pure_def,Option.some.injEq] at hx
  obtain⟨y,h1,ys',h2,rfl⟩:=hx
  exact⟨hm.get hg h1,hm.gets hg h2⟩
theorem Zge {t:Nat} (hcl:s.clean t=true) {x:Operand} {y:X} (hx:Qj x=some y):D.men t (s.get y)=false:=by
 cases x with
 | tmp n =>
  cases hx
  simp only[St.get]
  cases hl:lk s.tm n with
  | none=>rfl
  | some d=>exact St.clean_tm hcl hl
 | const v=>cases hx; exact Z8q t v
 | func f=>cases hx; rfl
 | global g =>
  cases hx
  simp only[St.get,glx]
  cases hq:Globs.G g <;> rfl
theorem Z7c {t:Nat} (hcl:s.clean t=true): ∀ {xs:List Operand} {ys:List X},xs.mapM Qj=some ys->D.menL t (ys.map s.get)=false
 | [],ys,hx=>by simp at hx; subst hx; rfl
 | x::xs,ys,hx=>by
  simp only[List.mapM_cons,Option.bind_eq_bind,Option.bind_eq_some_iff,Option.pure_def,Option.some.injEq] at hx
  obtain⟨y,h1,ys',h2,rfl⟩:=hx
  simp only[List.map_cons,D.menL,Zge hcl h1,Z7c hcl h2,Bool.or_self]
theorem ZQ {α:Type} (t:Nat) (d:α) (l:List (Nat × α)) (i:Nat):lk ((t,d)::Za t l) i=lk ((t,d)::l) i:=by
 simp only[lk]
 split
 ·rfl
 ·rename_i hi; rw[ZE,if_neg hi]
theorem Zgx {own:Nat->Prop} {hv:Value} {g:Gen} {ds:List D} (hob:ObR own φ h w hv (.gen g ds)):hv.oneCell'=true:=by
 obtain⟨b,vals,o,_,_,_,hg,_⟩:=hob
 cases g with
 | loop=>obtain⟨⟨b,rfl⟩,_⟩:=hg; rfl
 | map=>obtain⟨⟨b,rfl⟩,_⟩:=hg; rfl
 | mapC=>obtain⟨_,_,⟨b,rfl⟩,_⟩:=hg; rfl
 | mapB=>obtain⟨_,_,⟨b,rfl⟩,_⟩:=hg; rfl
 | mapS=>obtain⟨_,_,_,_,⟨b,rfl⟩,_⟩:=hg; rfl
 | iter=>obtain⟨⟨b,rfl⟩,_⟩:=hg; rfl
theorem Zay {own:Nat->Prop} {obs:Nat->Option Ob} (hobs: ∀ i ob,obs i=some ob->ObR own φ h w (h i) ob) {c:D} {v:Value} {d:D} (r:RV φ h v d):RV φ h v (dva c obs d):=by
 unfold dva
 split
 ·split
  ·rename_i ho
   rw[r.vec_inv]; exact .pure (Z79 (hobs _ _ ho))
  ·exact r
 ·split
  ·exact r
  ·rw[r.nils_inv]; exact .pure .nil
 ·exact r
theorem Z6p {own:Nat->Prop} (hobs: ∀ i ob,lk s.ob i=some ob->ObR own φ h w (h i) ob): ∀ {c:D} {vs:List Value} {xs:List X},RVL φ h vs (xs.map s.get)->RVL φ h vs (xs.map fun y=>dva c (lk s.ob) (s.get y))
 | _,[],[],_=>trivial
 | _,v::vs,x::xs,hr=>⟨Zay hobs hr.1,Z6p hobs hr.2⟩
 | _,[],_::_,hr=>hr.elim
 | _,_::_,[],hr=>hr.elim
theorem Mod.setTmp (hm:Mod cx s φ h tmps w) {dst:Nat} {d:D} {v:Value} (hd:dst<cx.N) (hr:RV φ h v d):Mod cx { s with tm:=(dst,d)::s.tm } φ h (tmps.setIfInBounds dst v) w:=by
 have:=hm.astep (dst:=dst) (id:=cx.bs) (d:=d) (nb:=none) (v:=v) (hv:=Go.undef) ⟨Below.refl _ _,fun _ _ _ h=>h,hm.mem,(fun _ _ _ h h'=>by rw[h] at h'; cases h'),hr,(fun _ h=>by cases h)⟩ hd (Nat.le_refl _)
  (fun h=>absurd rfl h) (fun h=>absurd rfl h) (fun h=>absurd rfl h)
 exact this
def Z0E (cx:Cx) (ds:List Deferred) (K:St->Prop) (a:Act) (w':World):Prop:=a.defers=ds/\ ∃ s' φ' h',K s'/\Mod cx s' φ' h' a.tmps w'
theorem Z6j {i id:Nat} {s:St} (h:s.clean i=true):St.clean i ⟨s.tm,Za id s.ob⟩=true:=by
 simp only[St.clean,Bool.and_eq_true] at h ⊢
 refine⟨h.1, ?_⟩
 have h2:=h.2
 clear h
 generalize s.ob=l at *
 induction l with
 | nil=>rfl
 | cons p l ih =>
  obtain⟨j,o⟩:=p
  simp only[List.all_cons,Bool.and_eq_true] at h2
  simp only[Za]
  split
  ·exact ih h2.2
  ·simp only[List.all_cons,Bool.and_eq_true]; exact⟨h2.1,ih h2.2⟩
theorem Z6o {nm:List Nat}: ∀ {vs:List Value} {xs:List D},RVL φ h vs xs->RVL φ (hcal h nm) vs (xs.map (D.ren (idx · nm)))
 | [],[],_=>trivial
 | _::_,_::_,hr=>⟨Z1a hr.1,Z6o hr.2⟩
 | [],_::_,hr=>hr.elim
 | _::_,[],hr=>hr.elim
theorem Z6T (hm:Mod cx s φ h tmps w) (hg:GlobC cx.φ0 cx.w0 cx.Z) {P:Program} {o:Oper} {ds:List Deferred} {t:TypeId} {x k y:Operand} {sk:SK} (hk:Zck P t k=some sk) (ho:o.op= .insert t x k y\/o.op= .mapUpdate t x k y)
  {dx dy:D} {obs:Nat->Option Ob} {r:Nat × Nat × Nat × Ob} (hst:stO (sk.at s) dx dy obs=some r):StOp P o (Act.eval ⟨tmps,ds⟩) φ h (sk.at s) x y:=by
 unfold Zck at hk
 split at hk
 ·rename_i key hkey
  cases hk
  obtain⟨v,kd,rfl,rfl,h1,h2⟩:=Zgf hkey
  exact .inr ⟨t,_,kd,_,rfl,ho,h1,h2,Z1G φ h v⟩
 ·split at hk
  ·rename_i kd x' hkd hx
   cases hk
   by_cases hik:isKD kd (s.get x')=true
   ·simp only[SK.at,hik,if_true] at hst ⊢
    exact .inr ⟨t,_,kd,_,rfl,ho,hkd,hik,hm.get hg hx⟩
   ·exfalso
    simp only[SK.at,hik] at hst
    unfold stO at hst
    cases dx <;> cases hst
  ·cases hk
theorem Qz {F:Fence} (hF:Fence.Open F) {n:Nat} {P:Program} {fz:Bool} {ops:Array Oper} {o:Oper} {so:SOp} {K:St->Prop} {Q:Exit->Act->World->Prop} {ds:List Deferred} {bt:Nat->Bool} {bs:Nat} (hbs:cx.bs<=bs) (hgl:GlobC cx.φ0 cx.w0 cx.Z) (hc:QZ P bt fz ops o=some so)
  (hd: ∀ d,o.dst=some d->d<cx.N) (hm:Mod cx s φ h tmps w) (hst:stp P bs so s K) :
  if Region.wanted o (yielded ops tmps) then o.wpIn F n P ⟨tmps,ds⟩ w (Z0E cx ds K) Q
  else (∀ f,o.about P w (Act.eval ⟨tmps,ds⟩)=some f->F.fn f)/\Z0E cx ds K (Act.put ⟨tmps,ds⟩ o.dst Go.undef) w:=by
 have hundef: ∀ dst:Option Nat,(∀ d,dst=some d->d<cx.N)->Mod cx (s.put dst .nov) φ h (Act.put ⟨tmps,ds⟩ dst Go.undef).tmps w:=fun dst hdd=>by
  cases dst with
  | none=>exact hm
  | some t =>
   have:=hm.astep (dst:=t) (id:=cx.bs) (d:= .nov) (nb:=none) (v:=Go.undef) (hv:=Go.undef) ⟨Below.refl _ _,fun _ _ _ h=>h,hm.mem,(fun _ _ _ h h'=>by rw[h] at h'; cases h'),.tuple #[] [] rfl (by simp),(fun _ h=>by cases h)⟩ (hdd t rfl) (Nat.le_refl _)
    (fun h=>absurd rfl h) (fun h=>absurd rfl h) (fun h=>absurd rfl h)
   exact this.weaken (fun i d hi=>by simp only[St.put,ZQ] at hi; exact hi) (fun i o hi=>hi)
 unfold QZ at hc
 cases hg:Z12 ops o with
 | none=>rw[hg] at hc; cases hc
 | some g =>
 rw[hg] at hc
 -- the guard
 have hguard: ∀ {body skip:Prop},gud g s body skip->(Region.wanted o (yielded ops tmps)=true/\body)\/(Region.wanted o (yielded ops tmps)=false/\skip):=fun {body skip} hgd=>by
  unfold Z12 at hg
  cases hog:o.guard with
  | none =>
   rw[hog] at hg
   cases hg
   exact .inl ⟨by simp[Region.wanted,hog],hgd⟩
  | some jw =>
   obtain⟨j,want⟩:=jw
   rw[hog] at hg
   simp only[] at hg
   cases hj:(ops[j]?).bind (·.dst) with
   | none=>rw[hj] at hg; cases hg
   | some t =>
    rw[hj] at hg
    cases hg
    simp only[gud] at hgd
    split at hgd
    ·rename_i b hb
     have hv:tmps.getD t Go.undef= .bool b:=(hm.tm t _ hb).bool_inv
     have ht:tmps[t]? = some (.bool b):=by
      cases hq:tmps[t]? with
      | none=>simp[Array.getD_eq_getD_getElem?,hq,Go.undef] at hv
      | some v=>simp[Array.getD_eq_getD_getElem?,hq] at hv; rw[hv]
     have hy:yielded ops tmps j=some b:=by simp[yielded,hj,ht]
     split at hgd
     ·rename_i hbw; exact .inl ⟨by simp[Region.wanted,hog,hy,hbw],hgd⟩
     ·rename_i hbw; exact .inr ⟨by simp[Region.wanted,hog,hy,hbw],hgd⟩
    ·rename_i hb
     obtain⟨vs,hv,hvs,_⟩:=(hm.tm t _ hb).tuple_inv
     have hv0:tmps.getD t Go.undef= .tuple #[]:=by
      rw[hv]; congr 1; exact Array.eq_empty_of_size_eq_zero (by simpa using hvs)
     have hy:yielded ops tmps j=none:=by
      cases hq:tmps[t]? with
      | none=>simp[yielded,hj,hq]
      | some v =>
       have:v= .tuple #[]:=by simpa [Array.getD_eq_getD_getElem?,hq] using hv0
       simp[yielded,hj,hq,this]
     exact .inr ⟨by simp[Region.wanted,hog,hy],hgd⟩
    ·exact hgd.elim
 have other:(match Z3s P fz o with
   | some (op,xs)=>(xs.mapM Qj).map fun xs=>SOp.a o.dst g op xs
   | none=>none)=some so->if Region.wanted o (yielded ops tmps) then o.wpIn F n P ⟨tmps,ds⟩ w (Z0E cx ds K) Q
  else (∀ f,o.about P w (Act.eval ⟨tmps,ds⟩)=some f->F.fn f)/\Z0E cx ds K (Act.put ⟨tmps,ds⟩ o.dst Go.undef) w:=by
  intro hc
  split at hc
  ·rename_i op xs hca
   cases hxs:xs.mapM Qj with
   | none=>rw[hxs] at hc; cases hc
   | some ys =>
    rw[hxs] at hc
    cases hc
    rcases hguard hst with ⟨hw,hb⟩ | ⟨hw,hk⟩
    ·rw[if_pos hw]
     have hnd: ∀ c,o.op≠ .defer c:=fun c hdf=>by
      unfold Z3s at hca
      rw[hdf] at hca
      cases hca
      exact False.elim hb
     refine OpOut.wpIn hF hnd (Z6i (own:=cx.own) (obs:=lk s.ob) hca (fun f=>rfl) (fun v=>rfl) hm.one ((hm.glob hgl).sub fun _ h=>h.elim) hm.mem (fun i ob hi _=>hm.ob i ob hi) (hm.gets hgl hxs) ?_ hb) ?_
     ·intro d ob hk
      cases hdst:o.dst with
      | none=>rw[hdst] at hk; exact hk.elim
      | some t=>rw[hdst] at hk; exact Z7c hk.1 hxs
     ·rintro v w' ⟨d,nb,φ',hv,hk,hstep⟩
      cases hdst:o.dst with
      | none =>
       rw[hdst] at hk
       cases nb with
       | none=>exact⟨rfl,s,φ',h,hk,hm.grown hstep.below hstep.mono hstep.mem hstep.new⟩
       | some ob=>exact hk.elim
      | some t =>
       rw[hdst] at hk hstep
       cases nb with
       | none =>
        have:=hm.astep hstep (hd t hdst) (Nat.le_trans hbs (Nat.le_add_right _ _)) (fun h=>absurd rfl h) (fun h=>absurd rfl h) (fun h=>absurd rfl h)
        exact⟨rfl,_,φ',h,hk,this.weaken (fun i d hi=>by simp only[St.put,ZQ] at hi; exact hi) (fun i o hi=>hi)⟩
       | some ob =>
        have hone:hv.oneCell'=true:=by
         have hob:=hstep.ob ob rfl
         cases ob with
         | cells cs=>obtain⟨b,vals,e,rfl,_⟩:=hob; rfl
         | arr fz sz e es =>
          obtain⟨a,c,rfl⟩:=Z1e hob
          rfl
         | gen gg gds=>exact Zgx hob
        have:=hm.astep hstep (hd t hdst) (Nat.le_trans hbs (Nat.le_add_right _ _)) (fun _ _ _ h=>St.clean_tm hk.1 h) (fun _ _ _ h=>St.clean_ob hk.1 h) (fun _=>hone)
        exact⟨rfl,_,φ',_,hk.2,this.weaken (fun i d hi=>by simp only[St.put2,ZQ] at hi; exact hi) (fun i o hi=>by simp only[St.put2,ZQ] at hi; exact hi)⟩
    ·rw[if_neg (by rw[hw]; simp)]
     exact⟨fun f _=>hF.fn f,by cases o.dst <;> rfl,_,φ,h,hk,hundef o.dst hd⟩
  ·cases hc
 simp only[] at hc
 split at hc
 ·-- a store
  rename_i t x y ho
  split at hc
  ·rename_i sz x' y' hs hx hy hdst
   cases hc
   rcases hguard hst with ⟨hw,hb⟩ | ⟨hw,hk⟩
   ·rw[if_pos hw]
    split at hb
    ·rename_i a b id ob hst'
     obtain⟨hab,hk⟩:=hb
     obtain⟨w',he,hm'⟩:=Z2D (o:=o) (ρ:=Act.eval ⟨tmps,ds⟩) (.inl ⟨_,_,rfl,ho,hs⟩) hm (hm.get hgl (ds:=ds) hx) (hm.get hgl hy) hst' hab
     refine Z0M hF (by rw[ho]; intro c h; cases h) he ⟨by rw[hdst]; rfl,_,φ,h,hk, ?_⟩
     rw[hdst]
     exact hm'.weaken (fun _ _ h=>h) (fun i o' hi=>by simp only[ZQ] at hi; exact hi)
    ·exact hb.elim
   ·rw[if_neg (by rw[hw]; simp)]
    exact⟨fun f _=>hF.fn f,by rw[hdst]; rfl,s,φ,h,hk,by rw[hdst]; exact hm⟩
  ·cases hc
 ·-- an insert
  rename_i t x k y ho
  split at hc
  ·rename_i sk x' y' hkey hx hy hdst
   cases hc
   rcases hguard hst with ⟨hw,hb⟩ | ⟨hw,hk⟩
   ·rw[if_pos hw]
    split at hb
    ·rename_i a b id ob hst'
     obtain⟨hab,hk⟩:=hb
     have hso:StOp P o (Act.eval ⟨tmps,ds⟩) φ h (sk.at s) x y:=Z6T hm hgl hkey (.inl ho) hst'
     obtain⟨w',he,hm'⟩:=Z2D (o:=o) (ρ:=Act.eval ⟨tmps,ds⟩) hso hm (hm.get hgl (ds:=ds) hx) (hm.get hgl hy) hst' hab
     refine Z0M hF (by rw[ho]; intro c h; cases h) he ⟨by rw[hdst]; rfl,_,φ,h,hk, ?_⟩
     rw[hdst]
     exact hm'.weaken (fun _ _ h=>h) (fun i o' hi=>by simp only[ZQ] at hi; exact hi)
    ·exact hb.elim
   ·rw[if_neg (by rw[hw]; simp)]
    exact⟨fun f _=>hF.fn f,by rw[hdst]; rfl,s,φ,h,hk,by rw[hdst]; exact hm⟩
  ·cases hc
 ·-- an insert
  rename_i t x k y ho
  split at hc
  ·rename_i sk x' y' hkey hx hy hdst
   cases hc
   rcases hguard hst with ⟨hw,hb⟩ | ⟨hw,hk⟩
   ·rw[if_pos hw]
    split at hb
    ·rename_i a b id ob hst'
     obtain⟨hab,hk⟩:=hb
     have hso:StOp P o (Act.eval ⟨tmps,ds⟩) φ h (sk.at s) x y:=Z6T hm hgl hkey (.inr ho) hst'
     obtain⟨w',he,hm'⟩:=Z2D (o:=o) (ρ:=Act.eval ⟨tmps,ds⟩) hso hm (hm.get hgl (ds:=ds) hx) (hm.get hgl hy) hst' hab
     refine Z0M hF (by rw[ho]; intro c h; cases h) he ⟨by rw[hdst]; rfl,_,φ,h,hk, ?_⟩
     rw[hdst]
     exact hm'.weaken (fun _ _ h=>h) (fun i o' hi=>by simp only[ZQ] at hi; exact hi)
    ·exact hb.elim
   ·rw[if_neg (by rw[hw]; simp)]
    exact⟨fun f _=>hF.fn f,by rw[hdst]; rfl,s,φ,h,hk,by rw[hdst]; exact hm⟩
  ·cases hc
 ·-- an append
  rename_i args ts ho
  split at hc
  ·rename_i dst x y t u hdst hargs hts
   split at hc
   ·rename_i e x' y' hu hx hy
    split at hc
    ·rename_i i z hi hz
     split at hc
     ·rename_i hcond
      obtain⟨rfl,hsz,hby⟩:=hcond
      cases hc
      have hargs':args= #[x,y]:=Array.ext' hargs
      have hts':ts= #[t,t]:=Array.ext' hts
      subst hargs'
      subst hts'
      obtain⟨i',zv,hi',hzv,hzs,_⟩:=QH hz
      rw[hi] at hi'
      cases hi'
      rcases hguard hst with ⟨hw,hb⟩ | ⟨hw,hk⟩
      ·rw[if_pos hw]
       split at hb
       ·rename_i ys ext hso
        obtain⟨hyl,hb⟩:=hb
        have hyv: ∃ news:List Value,((Act.eval ⟨tmps,ds⟩ y= .slice none 0 0/\ys.length=0)\/ ∃ a c,Act.eval ⟨tmps,ds⟩ y= .slice (some a) ys.length c/\ ∀ j u,news[j]? = some u->w.cell? (a.add j)=some u)/\news.length=ys.length*i.size ∧
          (∀ u∈news,u.oneCell'=true)/\ ∀ k x j d,ys[k]? = some x->x[j]? = some d->Rep φ (news.getD (k*i.size+j) Go.undef) d:=by
         have hyr:=hm.get hgl (ds:=ds) hy
         generalize s.get y'=dy at *
         cases dy <;> simp only[Z3m,Z05] at hso <;> try (cases hso; done)
         case slice=>cases hso; exact Z3A hm.mem hyr.slice_inv hsz hyl
         case vec id =>
          split at hso
          ·rename_i fz' sz' e' es' hob
           cases hso
           have hv:=hyr.vec_inv
           rw[hv]; exact ZcR (hm.ob id _ hob) hsz hyl
          ·cases hso
         case nils=>cases hso; rw[hyr.nils_inv]; exact Z3A hm.mem .nil hsz hyl
        have hbts: ∀ k:Nat,k<=1073741824->k<=maxLen/\k*i.bytes<=140737488355328:=fun k hk=>by
         refine⟨by unfold maxLen; omega, ?_⟩
         calc k*i.bytes<=1073741824*131072:=Nat.mul_le_mul hk hby
          _=140737488355328:=rfl
        have finish: ∀ {s1:St} {fz':Bool} {es:List (List D)},Mod cx s1 φ h tmps w->s1.clean (bs+dst)=true->ObR cx.own φ h w (Act.eval ⟨tmps,ds⟩ x) (.arr fz' i.size e es) →
          (∀ j b,(lk s1.ob j).isSome->blk (h j)=some b->blk (Act.eval ⟨tmps,ds⟩ x)≠some b)->(∀ b,blk (Act.eval ⟨tmps,ds⟩ x)=some b-> ¬ (cx.kp b).isSome)->es.length+ys.length<=1073741824->K (s1.put2 dst (bs+dst) (.vec (bs+dst)) (.arr fz' i.size e (es++ys))) →
          o.wpIn F n P ⟨tmps,ds⟩ w (Z0E cx ds K) Q:=fun {s1 fz' es} hm1 hcl hob hfree hnk hlen hk=>by
         obtain⟨v',w',φ',hrun,hm'⟩:=Z6m (P:=P) (ty:=o.type) (dst:=dst) (id:=bs+dst) hu hi hzv rfl rfl hzs hsz hm1 (hd dst hdst) (Nat.le_trans hbs (Nat.le_add_right _ _)) hcl hob hfree hnk hyv hyl (hbts _ hlen).1 (hbts _ hlen).2
         have hex:(execOp (Act.eval ⟨tmps,ds⟩) o).run P w= .ok (.value v') w':=by
          refine QB ho ?_
          simp[builtin,hrun]
         refine OpOut.wpIn hF (by rw[ho]; intro c h; cases h) (R:=fun v w2=>v=v'/\w2=w') (.inl ⟨v',w',hex,rfl,rfl⟩) ?_
         rintro v2 w2 ⟨e1,e2⟩
         rw[e1,e2]
         refine⟨by rw[hdst]; rfl,_,φ',updH h (bs+dst) v',hk, ?_⟩
         rw[hdst]
         exact hm'.weaken (fun j d hj=>by simp only[St.put2,ZQ] at hj; exact hj) (fun j d hj=>by simp only[St.put2,ZQ] at hj; exact hj)
        split at hb
        ·rename_i hxd
         obtain⟨h1,h2,hk⟩:=hb
         have hxv:=hm.get hgl (ds:=ds) hx
         rw[hxd] at hxv
         have hx0:=hxv.nils_inv
         refine finish (s1:=s) (es:=[]) hm h2 ?_ ?_ (by rw[hx0]; intro b hb; cases hb) (by simpa using h1) (by simpa using hk)
         ·rw[hx0]
          exact⟨hsz,by simp,[],World.ownsRow_nil w 0 e i.size,by simp,fun b hb=>by cases hb⟩
         ·intro j b _ _ hb; rw[hx0] at hb; cases hb
        ·rename_i id hxd
         have hxv:=hm.get hgl (ds:=ds) hx
         rw[hxd] at hxv
         have hx0:=hxv.vec_inv
         split at hb
         ·rename_i fz' sz' e' es hob
          obtain⟨rfl,rfl,h1,h2,hk⟩:=hb
          refine finish (s1:=⟨s.tm,Za id s.ob⟩) (hm.weaken (fun _ _ h=>h) fun i o hi=> ?_) (Z6j h2) ?_ ?_ ?_ h1 hk
          ·rw[ZE] at hi
           split at hi
           ·cases hi
           ·exact hi
          ·rw[hx0]; exact hm.ob id _ hob
          ·intro j b hj hbj hbx
           rw[hx0] at hbx
           rw[ZE] at hj
           split at hj
           ·cases hj
           ·rename_i hne
            exact hne (hm.sep j id b hj (by simp[hob]) hbj hbx)
          ·intro b hb hkb
           rw[hx0] at hb
           obtain⟨ko,hko⟩:=Option.isSome_iff_exists.1 hkb
           exact (hm.kept b ko hko).2.2 id (by simp[hob]) hb
         ·exact hb.elim
        ·exact hb.elim
       ·exact hb.elim
      ·rw[if_neg (by rw[hw]; simp)]
       exact⟨fun f _=>hF.fn f,by rw[hdst]; rfl,_,φ,h,hk,by rw[hdst]; exact hundef (some dst) (fun d hd'=>by cases hd'; exact hd dst hdst)⟩
     ·cases hc
    ·cases hc
   ·cases hc
  ·cases hc
 ·-- a copy
  rename_i args ts ho
  split at hc
  ·rename_i dst x y t u hdst hargs hts
   split at hc
   ·rename_i e x' y' hu hx hy
    split at hc
    ·rename_i i hin
     cases hc
     have hog:o.guard=none:=by
      unfold Z12 at hg
      cases hq:o.guard with
      | none=>rfl
      | some jw =>
       rw[hq] at hg
       simp only[Option.map_eq_some_iff] at hg
       obtain⟨_,_,h2⟩:=hg
       cases h2
     rw[if_pos (by simp[Region.wanted,hog])]
     have hst1:(match stO ((SK.cp dst i.size).at s) (s.get x') (s.get y') (lk s.ob) with
      | some (a,b,id,o)=>a<b/\K { s with ob:=(id,o)::Za id s.ob }
      | none=>False):=hst
     split at hst1
     ·rename_i a b id ob hst'
      obtain⟨hab,hk⟩:=hst1
      have hdead:lk s.tm dst=none:=by
       cases hq:lk s.tm dst with
       | none=>rfl
       | some d =>
        exfalso
        simp only[SK.at,hq,Option.isNone_some,Bool.false_eq_true,if_false] at hst'
        unfold stO at hst'
        cases hxx:s.get x' <;> rw[hxx] at hst' <;> cases hst'
      simp only[SK.at,hdead,Option.isNone_none,if_true] at hst'
      have ho':o.op= .call { callee:= .builtin .copy,args:= #[x,y],argTypes:= #[t,u] }:=by
       rw[ho]
       have h1:args= #[x,y]:=by rw[<- Array.toArray_toList (xs:=args),hargs]
       have h2:ts= #[t,u]:=by rw[<- Array.toArray_toList (xs:=ts),hts]
       rw[h1,h2]
      obtain⟨v,w',he,hm'⟩:=ZaI (ρ:=Act.eval ⟨tmps,ds⟩) ho' hu hin hm (hm.get hgl (ds:=ds) hx) (hm.get hgl hy) hst' hab
      refine⟨fun f _=>hF.fn f, ?_⟩
      rw[Oper.semAt_eq _ _ _ (by rw[ho]; intro c h; cases h),he,Oper.uponIn_value]
      refine⟨by cases o.dst <;> rfl,_,φ,h,hk, ?_⟩
      rw[hdst]
      refine (hm'.setTmp (hd dst hdst) (.undef v)).weaken (fun t' d hi=> ?_) (fun i o' hi=>by simp only[ZQ] at hi; exact hi)
      simp only[lk]
      split
      ·rename_i et
       subst et
       have hi':lk s.tm t'=some d:=hi
       rw[hdead] at hi'
       cases hi'
      ·exact hi
     ·exact hst1.elim
    ·cases hc
   ·cases hc
  ·cases hc
 ·-- a call
  rename_i c _ _ ho
  split at hc
  ·rename_i cx' cxs hcd
   split at hc
   ·rename_i x' xs' hx hxs
    cases hc
    -- the value called and the arguments
    have hcall: ∃ g',c.callee= .value g'/\cx'=g'/\cxs=c.args.toList:=by
     obtain⟨cal,args,ts⟩:=c
     unfold ZaM at hcd
     cases cal with
     | value g' =>
      cases g' <;> simp only[] at hcd <;> first | (split at hcd; all_goals first | (cases hcd; exact⟨_,rfl,rfl,rfl⟩) | cases hcd) | (cases hcd; exact⟨_,rfl,rfl,rfl⟩)
     | builtin b=>cases hcd
     | invoke _ _=>cases hcd
    obtain⟨g',hg',rfl,rfl⟩:=hcall
    rcases hguard hst with ⟨hw,hb⟩ | ⟨hw,hk⟩
    ·rw[if_pos hw]
     obtain⟨nm,R,base,hnd,hin,hb1,hb2,hcd2,hK⟩:=hb
     have hrun:(execOp (Act.eval ⟨tmps,ds⟩) o).run P w=(Z4C (Act.eval ⟨tmps,ds⟩ cx') (c.args.map (Act.eval ⟨tmps,ds⟩))).run P w:=by
      simp only[execOp,ho,resolve,hg',Z4C]
     have hargs: ∀ cd:D,RVL φ h (c.args.map (Act.eval ⟨tmps,ds⟩)).toList (xs'.map fun y=>dva cd (lk s.ob) (s.get y)):=by
      intro cd
      have:=hm.gets hgl (ds:=ds) hxs
      rw[Array.toList_map]
      exact Z6p (own:=cx.own) (fun i ob hi=>hm.ob i ob hi) this
     have hout:=hcd2 F hF n φ (hcal h nm) w _ _ (hm.loc (hm.glob hgl) hnd) (Z1a (hm.get hgl (ds:=ds) hx)) (Z6o (hargs _))
     rw[<- hrun] at hout
     refine⟨fun f _=>hF.fn f, ?_⟩
     rw[Oper.semAt_eq _ _ _ (by rw[ho]; intro c h; cases h)]
     have fin: ∀ e w',Post (Qc s.ob (idx · nm) 0 nm) φ (hcal h nm) w R e w'-> ∃ v,e= .returned v/\Z0E cx ds K (Act.put ⟨tmps,ds⟩ o.dst v) w':=by
      rintro e w' hpost
      obtain⟨v,r,ob',φ',h',rfl,hR,hrv,ha⟩:=hpost.dest fun r ob' hR=>(hK r ob' hR).1
      obtain⟨q6,q5⟩:=hm.back (base:=base) (by omega) hb2 hnd hin ha
      refine⟨v,rfl,by cases o.dst <;> rfl,_,φ',hbak h h' base,(hK r ob' hR).2, ?_⟩
      cases hdst:o.dst with
      | none=>exact q6
      | some t=>exact (q6.setTmp (hd t hdst) (q5 v r hrv)).weaken (fun i d hi=>by simp only[St.put,ZQ] at hi; exact hi) (fun i o hi=>hi)
     unfold DynOut at hout
     split at hout
     ·rename_i f a w1 hrr
      rw[hrr,Oper.uponIn_enter]
      refine⟨(fun h=>by rw[hF.depth] at h; cases h),CallsIn.mono (hF.lessCall hout) ?_⟩
      intro e w' hp
      obtain⟨v,rfl,hn⟩:=fin e w' hp
      exact hn
     ·rename_i l f a asg body w1 hrr
      rw[hrr,Oper.uponIn_round]
      refine⟨(fun h=>by rw[hF.depth] at h; cases h),RoundIn.mono (hF.lessRound hout) ?_⟩
      intro e w' hp
      obtain⟨v,rfl,hn⟩:=fin e w' hp
      exact hn
     ·exact hout.elim
    ·rw[if_neg (by rw[hw]; simp)]
     exact⟨fun f _=>hF.fn f,by cases o.dst <;> rfl,_,φ,h,hk,hundef o.dst hd⟩
   ·cases hc
  ·exact other hc
 ·exact other hc
end
end Go.Sx
namespace Go.Sx
open Go.RowKit
variable [Globs] [Codes]
def thenS (K:St->Prop) (Q:Exit->St->Prop):Exit->St->Prop
 | .normal,s=>K s
 | e,s=>Q e s
def Z0y (id:Nat) (Q:Exit->St->Prop):Exit->St->Prop
 | .exit i,s=>if i=id then Q .normal s else Q (.exit i) s
 | e,s=>Q e s
def QR (N:Nat) (ops:Array Oper):Bool:=ops.toList.all fun o=>match o.dst with
 | some d=>decide (d<N)
 | none=>true
def Z5C:Option (Nat × Bool)->List Nat
 | some (t,_)=>[t]
 | none=>[]
def Z0N:List X->List Nat
 | []=>[]
 | .t t::r=>t::Z0N r
 | .c _::r=>Z0N r
def Qk (pre:List Nat) (i j:Nat):Bool:=(pre.getD j 0).testBit i
def Z51 (pre:List Nat):List Edge->Nat->Nat
 | [],m=>m
 | e::r,m=>Z51 pre r (if Region.binds .any e then (m ||| 2 ^ e.on) ||| pre.getD e.on 0 else m)
def Z1O (pre:List Nat) (ops:Array Oper):Bool :=
 (pre.length == ops.size) &&
 (List.range ops.size).all fun i=>match ops[i]? with
  | some o=>(o.after.toList.all fun e=> !Region.binds .any e || decide (e.on<i)) && (pre.getD i 0 &&& Z51 pre o.after.toList 0) == pre.getD i 0
  | none=>false
structure Eff where
 rd:List Nat
 tm:Option (Nat × D)
 ob:List (Nat × Option Ob)
 cd:Option Nat
def setO:List (Nat × Option Ob)->Obs->Obs
 | [],ob=>ob
 | (i,none)::r,ob=>Za i (setO r ob)
 | (i,some o)::r,ob=>(i,o)::Za i (setO r ob)
def St.app (s:St) (e:Eff):St:=⟨match e.tm with | some (t,d)=>(t,d)::Za t s.tm | none=>s.tm,setO e.ob s.ob⟩
def vids:List D->List Nat
 | []=>[]
 | .vec i::r=>i::vids r
 | _::r=>vids r
def pids:List D->List Nat
 | []=>[]
 | .ptr i _::r=>i::pids r
 | _::r=>pids r
def rdA (obs:Nat->Option Ob):AOp->List D->List Nat
 | .load true sz,[.ptr id off]=>id::(match obs id with | some (.cells cs)=>vids ((cs.drop off).take sz) | _=>[])
 | .load ..,[.vptr id ..]=>[id]
 | .load ..,xs=>pids xs
 | .b2s,xs=>vids xs
 | .mlook ..,[.map id,_]=>[id]
 | .ext k,xs=>Z6d obs k xs
 | .len _,xs=>vids xs
 | .iaddr _,xs=>vids xs
 | .slice ..,xs=>vids xs
 | .build ..,xs=>vids xs
 | .bslice ..,xs=>vids xs
 | .call _,xs=>vids xs
 | _,_=>[]
def SK.tmps:SK->List Nat
 | .k _ x=>Z0N [x]
 | .cp dst _=>[dst]
 | _=>[]
def SOp.tmps:SOp->List Nat
 | .a _ g _ xs=>Z0N xs++Z5C g
 | .st g sk x y=>Z0N [x,y]++Z5C g++sk.tmps
 | .app _ g _ _ _ x y=>Z0N [x,y]++Z5C g
 | .cd _ g x xs=>Z0N (x::xs)++Z5C g
def SOp.gd:SOp->Option (Nat × Bool)
 | .a _ g _ _=>g
 | .st g _ _ _=>g
 | .app _ g _ _ _ _ _=>g
 | .cd _ g _ _=>g
def SOp.dst:SOp->Option Nat
 | .a d _ _ _=>d
 | .st _ _ _ _=>none
 | .app d _ _ _ _ _ _=>some d
 | .cd d _ _ _=>d
def HasB (P:Program) (b:Nat) (o:SOp) (s:St) (e:Eff):Prop :=
 match o with
 | .a dst _ op xs=>e.rd=rdA (lk s.ob) op (xs.map s.get)/\e.cd=none/\evl P (b+dst.getD 0) op (xs.map s.get) (lk s.ob) fun d nb=>e.tm=dst.map (·,d)/\match nb with
   | none=>e.ob=[]
   | some o=>dst.isSome=true/\e.ob=[(b+dst.getD 0,some o)]
 | .st _ sz x y=>match stO (sz.at s) (s.get x) (s.get y) (lk s.ob) with
  | some (a,b,id,o)=>a<b/\e=⟨[id],none,[(id,some o)],none⟩
  | none=>False
 | .app dst _ fz sz et x y=>match Z3m (lk s.ob) (s.get y) with
  | some (ys,_)=>(∀ q∈ys,q.length=sz)/\(match s.get x with
   | .nils=>ys.length<=1073741824/\e=⟨vids [s.get y],some (dst,.vec (b+dst)),[(b+dst,some (.arr fz sz et ys))],none⟩
   | .vec id=>match lk s.ob id with
    | some (.arr fz' sz' e' es)=>sz'=sz/\e'=et/\es.length+ys.length<=1073741824/\e=⟨id::vids [s.get y],some (dst,.vec (b+dst)),[(b+dst,some (.arr fz' sz et (es++ys))),(id,none)],none⟩
    | _=>False
   | _=>False)
  | none=>False
 | .cd dst _ x xs=> ∃ nm r ob' base,nm.Nodup/\(∀ i∈nm,(lk s.ob i).isSome)/\b+4096<=base ∧
   CallL P ((s.get x).ren (idx · nm)) ((xs.map fun y=>dva (s.get x) (lk s.ob) (s.get y)).map (D.ren (idx · nm))) (Qc s.ob (idx · nm) 0 nm) (fun r0 ob0=>r0=r/\ob0=ob')/\r.isPan=false ∧
   e=⟨nm++vids (xs.map s.get),dst.map (·,r.ren (bkN base nm)),(renO (fun j=>match nm[j]? with | some i=>i | none=>base+j) (bkN base nm) ob').map (fun p=>(p.1,some p.2))++nm.map (·,none),some base⟩
def Has (P:Program) (b:Nat) (o:SOp) (s:St) (e:Eff):Prop:=gud o.gd s (HasB P b o s e) (e=⟨[],o.dst.map (·,.nov),[],none⟩)
def Z5m (P:Program) (b:Nat):List SOp->St->List Eff->St->Prop
 | [],s,[],s'=>s'=s
 | o::r,s,e::es,s'=>Has P b o s e/\Z5m P b r (s.app e) es s'
 | _,_,_,_=>False
def Eff.men (i:Nat) (e:Eff):Bool:=(match e.tm with | some (_,d)=>D.men i d | none=>false) || e.ob.any fun p=>match p.2 with | some o=>Ob.men i o | none=>false
def otop:List (Nat × Option Ob)->Nat
 | []=>0
 | (_,none)::r=>otop r
 | (i,some o)::r=>max (max (i+1) (D.topL o.parts)) (otop r)
def Eff.top (e:Eff):Nat:=max (match e.tm with | some (_,d)=>D.top d | none=>0) (otop e.ob)
def Z17 (o1 o2:SOp):Bool :=
 (match o1.dst with | some t=> !(o2.tmps.contains t) && (o2.dst != some t) | none=>true) && (match o2.dst with | some t=> !(o1.tmps.contains t) | none=>true)
def Z7e (e1 e2:Eff):Bool :=
 match e1.ob,e2.ob with
 | [],[]=>true
 | l1,l2=>(l1.all fun p=> !(e2.rd.contains p.1) && !(l2.any fun q=>q.1 == p.1)) && (l2.all fun p=> !(e1.rd.contains p.1))
def Z93 (pre:List Nat) (j:Nat) (o2:SOp):Nat->List SOp->Bool
 | i,o1::r=>(Qk pre i j || Z17 o1 o2) && Z93 pre j o2 (i+1) r
 | _,[]=>true
def Z6V (pre:List Nat) (ops0:List SOp):Nat->List SOp->Bool
 | j,o2::r=>Z93 pre j o2 0 (ops0.take j) && Z6V pre ops0 (j+1) r
 | _,[]=>true
def Z60:Nat->List Eff->List (Nat × Eff)
 | _,[]=>[]
 | i,e::r=>match e.ob,e.rd with
  | [],[]=>Z60 (i+1) r
  | _,_=>(i,e)::Z60 (i+1) r
def allI (p:Nat->Eff->Bool):Nat->List Eff->Bool
 | i,e::r=>p i e && allI p (i+1) r
 | _,[]=>true
def Z4p (b:Nat) (pre:List Nat) (es0:List Eff):Nat->List SOp->List Eff->Bool
 | j,o::r,e::es=>(match e.ob with
   | []=>true
   | _=>match o.dst with
    | some t=>allI (fun i x=>i == j || Qk pre j i || !(x.men (b+t))) 0 es0
    | none=>true) && (match e.cd with
   | none=>true
   | some q=>allI (fun i x=>i == j || Qk pre j i || decide (x.top<=q)) 0 es0) && Z4p b pre es0 (j+1) r es
 | _,_,_=>true
def dchk (b:Nat) (pre:List Nat) (ops:List SOp) (es:List Eff) (s:St):Bool :=
 Z6V pre ops 0 ops && ((Z60 0 es).all fun x=>(Z60 0 es).all fun y=>decide (x.1<=y.1) || Qk pre y.1 x.1 || Z7e y.2 x.2) && Z4p b pre es 0 ops es &&
 (es.all fun e=>match e.cd with | some q=>decide (s.top<=q) | none=>true)
def HasPn (P:Program) (b:Nat) (o:SOp) (s:St) (v:Value) (e:Eff):Prop:=match o with
 | .cd _ none x xs=> ∃ nm base,nm.Nodup/\(∀ i∈nm,(lk s.ob i).isSome)/\b+4096<=base ∧
   CallL P ((s.get x).ren (idx · nm)) ((xs.map fun y=>dva (s.get x) (lk s.ob) (s.get y)).map (D.ren (idx · nm))) (Qc s.ob (idx · nm) 0 nm) (fun r _=>r= .pan v) ∧
   e=⟨nm++vids (xs.map s.get),none,[],some base⟩
 | _=>False
def HasC (P:Program) (b:Nat) (o:SOp) (s:St) (q:Eff × Option (Nat × Nat × D)):Prop:=match q.2 with
 | none=>Has P b o s q.1
 | some (id,off,m)=>match o with
  | .a (some t) none (.load false 1) [x]=>s.get x= .ptr id off/\q.1=⟨[],some (t,m),[],none⟩
  | _=>False
def HasO (P:Program) (b:Nat) (pre:List Nat) (pan:Option (Nat × Value)) (k:Nat) (o:SOp) (s:St) (q:Eff × Option (Nat × Nat × D)):Prop:=match pan with
 | none=>HasC P b o s q
 | some (c,v)=>if k=c then HasPn P b o s v q.1 else if Qk pre c k=true then q.1=⟨[],none,[],none⟩ else HasC P b o s q
def Z3k (P:Program) (b:Nat) (pre:List Nat) (pan:Option (Nat × Value)):Nat->List SOp->St->List (Eff × Option (Nat × Nat × D))->St->Prop
 | _,[],s,[],s'=>s'=s
 | k,o::r,s,q::qs,s'=>HasO P b pre pan k o s q/\Z3k P b pre pan (k+1) r (s.app q.1) qs s'
 | _,_,_,_,_=>False
def Z58 (d:D):Option D->Bool
 | some x=>match d,x with
  | .vec m,.vec n=>n == m
  | .int k m,.int k' n=>decide (k'=k) && decide (n=m)
  | _,_=>false
 | none=>false
def Z0i (d:D) (off:Nat):Option Ob->Bool
 | some (.cells cs)=>Z58 d cs[off]?
 | _=>false
def numD:D->Bool
 | .int _ _=>true
 | _=>false
def ZV (w:Bool) (pre:List Nat) (s:St) (es:List Eff):Nat->List (Eff × Option (Nat × Nat × D))->Bool
 | k,(_,some (id,off,m))::r=>match numD m == w with
  | true=>Z0i m off (lk s.ob id) && allI (fun j e=>j == k || Qk pre k j || (match lk e.ob id with | none=>true | some x=>Z0i m off x)) 0 es && ZV w pre s es (k+1) r
  | false=>ZV w pre s es (k+1) r
 | k,(_,none)::r=>ZV w pre s es (k+1) r
 | _,[]=>true
def Z8a:List (Eff × Option (Nat × Nat × D))->Bool
 | (_,some (_,_,m))::r=>numD m || Z8a r
 | (_,none)::r=>Z8a r
 | []=>false
theorem Z02 {pre:List Nat} {s:St} {es:List Eff}: ∀ {qs:List (Eff × Option (Nat × Nat × D))} {k:Nat},Z8a qs=false->ZV true pre s es k qs=true
 | [],_,_=>rfl
 | (_,none)::r,k,h=>by simp only[ZV]; exact Z02 (qs:=r) h
 | (_,some (_,_,m))::r,k,h=>by
  simp only[Z8a,Bool.or_eq_false_iff] at h
  simp only[ZV,h.1]
  exact Z02 (qs:=r) h.2
structure Hints where
 bt:Nat->Bool
 fz:Nat->Bool
 nd:Nat->List Nat
 lv:Nat->List Nat
 fg:Nat->Option (List Nat):=fun _=>none
 pn:Nat->Bool:=fun _=>false
 pd:Bool:=false
def Z0a:Code->Nat
 | .region id _ _=>id+1
 | .seq a b=>match Z0a a with | 0=>Z0a b | k=>k
 | .cond _ a b=>match Z0a a with | 0=>Z0a b | k=>k
 | .block _ c=>Z0a c
 | .loop c=>Z0a c
 | .rangeFunc _ _ a b=>match Z0a a with | 0=>Z0a b | k=>k
 | .scope c=>Z0a c
 | _=>0
def isPn (hi:Hints) (o:Oper):Bool:=match o.op with
 | .panic _=>true
 | .call { callee:= .value (.func f), .. }=>hi.pn f
 | .call { callee:= .value (.tmp _), .. }=>hi.pd
 | _=>false
def Ziq (ops:Array Oper):Option (Nat × List Oper):=match ops.toList with
 | ⟨some t,.call { callee:= .builtin .recover, .. },_,_,_,none⟩::rest=>some (t,rest)
 | _=>none
def ZjF (ops:Array Oper):Option Operand:=match ops.toList.getLast? with
 | some ⟨none,.defer { callee:= .value x,args, .. },_,_,_,none⟩=>if args.size=0 then some x else none
 | _=>none
def Z0I (P:Program) (N:Nat) (hi:Hints) (ops:Array Oper):Option Sp :=
 match ops.toList.getLast? with
 | some ⟨some dst,.range t x,_,_,_,none⟩=>match P.underlying t,Qj x,ops.toList.dropLast.mapM (fun o=>QZ P hi.bt (hi.fz (o.dst.getD 0)) ops o) with
  | some (.map _ _),some x',some sops=>if QR N ops then some (.rng sops dst x') else none
  | _,_,_=>none
 | _=>match ops.toList with
  | [⟨some t1,.next it false,_,_,_,none⟩,⟨some t2,.extract (.tmp t3) 0,_,_,_,none⟩]=>match Qj it with
   | some it'=>if t3=t1/\t1≠t2/\t1<N/\t2<N then some (.nxt it' t1 t2) else none
   | none=>none
  | _=>match ZjF ops with
   | some x=>match Qj x,ops.toList.dropLast.mapM (fun o=>QZ P hi.bt (hi.fz (o.dst.getD 0)) ops o) with
    | some x',some sops=>if QR N ops then some (.dfr sops x') else none
    | _,_=>none
   | none=>match Ziq ops with
    | some (t,rest)=>match rest.mapM (fun o=>QZ P hi.bt (hi.fz (o.dst.getD 0)) ops o) with
     | some sops=>if QR N ops && decide (t<N) then some (.rcv t sops) else none
     | none=>none
    | none=>if ops.toList.any (isPn hi) then (match ops.toList.mapM (fun o=>QZ P hi.bt (hi.fz (o.dst.getD 0)) ops o) with
     | some sops=>if QR N ops then some (.pan sops) else none
     | none=>none) else none
def Zc8 (p:Nat) (pre:List Nat) (n:Nat):Bool:=decide (p<n) && (List.range n).all fun i=>decide (i<p) || pre.getD i 0 == 2 ^ i-1
def dpan (N:Nat) (hi:Hints) (id:Nat) (ops:Array Oper):Sp->Option SC
 | .pan sops=>if (Z1O (hi.nd id) ops && decide (N<=4096) && Zc8 (ops.toList.findIdx (isPn hi)) (hi.nd id) ops.size)=true then
   some (.block 0 (.seq (.drw (hi.nd id) (sops.take (ops.toList.findIdx (isPn hi)))) (.spec (.pan (sops.drop (ops.toList.findIdx (isPn hi)))))))
  else if (Z1O (hi.nd id) ops && decide (N<=4096))=true then some (.block 0 (.spec (.ord (hi.nd id) sops))) else none
 | _=>none
theorem Z37 {N:Nat} {hi:Hints} {id:Nat} {ops:Array Oper} {k:Sp} {sc:SC} (h:dpan N hi id ops k=some sc): ∃ sops,k= .pan sops/\Z1O (hi.nd id) ops=true/\N<=4096 ∧
  ((∃ p,Zc8 p (hi.nd id) ops.size=true/\sc= .block 0 (.seq (.drw (hi.nd id) (sops.take p)) (.spec (.pan (sops.drop p)))))\/sc= .block 0 (.spec (.ord (hi.nd id) sops))):=by
 unfold dpan at h
 split at h
 ·split at h
  ·rename_i sops hc
   cases h
   simp only[Bool.and_eq_true,decide_eq_true_eq] at hc
   exact⟨sops,rfl,hc.1.1,hc.1.2,.inl ⟨_,hc.2,rfl⟩⟩
  ·split at h
   ·rename_i sops _ hc
    cases h
    simp only[Bool.and_eq_true,decide_eq_true_eq] at hc
    exact⟨sops,rfl,hc.1,hc.2,.inr rfl⟩
   ·cases h
 ·cases h
def ZN (P:Program) (N:Nat) (hi:Hints):Code->Option SC
 | .skip=>some .skip
 | .ret=>some .ret
 | .exit id=>some (.exit id)
 | .region id ops draw=>match Z0I P N hi ops with
  | some k=>if draw then dpan N hi id ops k else some (.spec k)
  | none=>match ops.toList.mapM (fun o=>QZ P hi.bt (hi.fz (o.dst.getD 0)) ops o) with
  | some sops=>if QR N ops then (if draw then (if Z1O (hi.nd id) ops && decide (N<=4096) then some (.drw (hi.nd id) sops) else none) else some (.reg sops)) else none
  | none=>none
 | .seq a b=>match ZN P N hi a,ZN P N hi b with
  | some a',some b'=>match hi.fg (Z0a b) with
   | none=>some (.seq a' b')
   | some ts=>some (.seq a' (.seq (.spec (.frg ts)) b'))
  | _,_=>none
 | .cond x a b=>match Qj x,ZN P N hi a,ZN P N hi b with
  | some x,some a,some b=>some (.cond x a b)
  | _,_,_=>none
 | .block id c=>(ZN P N hi c).map (.block id)
 | .loop c=>(ZN P N hi c).map (.loop (hi.lv (Z0a c)))
 | .rangeFunc g ps a b=>match Qj g,ZN P N hi a,ZN P N hi b with
  | some g,some a,some b=>some (.rangeF N g ps a b)
  | _,_,_=>none
 | _=>none
def Zeb (P:Program) (N:Nat) (sc:SC) (c:Code):Prop:= ∃ hi,ZN P N hi c=some sc
class CodesOf (P:Program):Prop where
 ci: ∀ N sc c,Codes.CI N sc c ↔ Zeb P N sc c
def recd (P:Program) (st:LoopState) (pend:Option Code) (N:Nat) (ps:Array Tmp) (a b:SC) (tm:Env):Ob :=
 .gen (.loop st pend ps a b N (tm.map (·.1))) (tm.map fun p=>(lk tm p.1).getD .undef)
def St.nx (s:St) (bs:Nat):Nat:=max bs s.top
abbrev pnc (v:Value):Exit:= .panic [{ v,recovered:=false }]
def stpX (P:Program) (bs:Nat) (o:SOp) (s:St) (Kn:St->Prop) (Kp:Value->St->Prop):Prop:=match o with
 | .cd dst g x xs=>gud g s
   (∃ nm R base,nm.Nodup/\(∀ i∈nm,(lk s.ob i).isSome)/\bs+4096<=base/\s.top<=base ∧
    CallL P ((s.get x).ren (idx · nm)) ((xs.map fun y=>dva (s.get x) (lk s.ob) (s.get y)).map (D.ren (idx · nm))) (Qc s.ob (idx · nm) 0 nm) R ∧
    ∀ r ob',R r ob'->(r.isPan=false/\Kn ((s.back base nm ob').put dst (r.ren (bkN base nm))))\/ ∃ v,r= .pan v/\Kp v (s.back base nm ob'))
   (Kn (s.put dst .nov))
 | .a none g .pnk [x]=>gud g s (∃ t u,s.get x= .raw (.iface t u)/\Kp (.iface t u) s) (Kn s)
 | o=>stp P bs o s Kn
def Z1U (P:Program) (bs:Nat):List SOp->St->(St->Prop)->(Value->St->Prop)->Prop
 | [],s,Kn,_=>Kn s
 | o::r,s,Kn,Kp=>stpX P bs o s (fun s'=>Z1U P bs r s' Kn Kp) Kp
def spS (P:Program) (bs:Nat) (k:Sp) (Q:Exit->St->Prop) (s:St):Prop:=match k with
 | .rng ops dst x=>stps P (s.nx bs) ops s fun s'=> ∃ mid ks ds,s'.get x= .map mid/\lk s'.ob mid=some (.gen (.mapC ks ds) [])/\s'.clean (s.nx bs+dst)=true/\mid≠s.nx bs+dst/\ ∀ (l:List Nat) (cl:Nat),l.length=ks.length->l.Nodup->(∀ x∈l,x<cl) →
   Q .normal (St.put2 ⟨s'.tm,(mid,.gen (.mapB ks ds l cl) [])::Za mid s'.ob⟩ dst (s.nx bs+dst) (.ptr (s.nx bs+dst) 0) (.gen (.iter l [] cl) [.map mid]))
 | .nxt it t1 t2=> ∃ id l ix cl mid ks ds,s.get it= .ptr id 0/\lk s.ob id=some (.gen (.iter l ix cl) [.map mid])/\lk s.ob mid=some (.gen (.mapB ks ds l cl) [])/\id≠mid ∧
   ((∀ i,i<l.length->i∈ix)->Q .normal ((St.put ⟨s.tm,(mid,.gen (.mapC ks ds) [])::Za mid s.ob⟩ (some t1) .undef).put (some t2) (.bool false))) ∧
   ∀ i,i<l.length->i ∉ ix->Q .normal ((St.put ⟨s.tm,(id,.gen (.iter l (ix++[i]) cl) [.map mid])::Za id s.ob⟩ (some t1) .undef).put (some t2) (.bool true))
 | .frg ts=>Q .normal (s.canon bs ts)
 | .dfr _ _=>False
 | .rcv _ _=>False
 | .pan ops=>Z1U P (s.nx bs) ops s (Q .normal) (fun v s'=>Q (pnc v) s')
 | .ord pre ops=> ∃ pan qs s',Z3k P (s.nx bs) pre pan 0 ops s qs s'/\dchk (s.nx bs) pre ops (qs.map (·.1)) s=true/\(ZV false pre s (qs.map (·.1)) 0 qs=true/\ZV true pre s (qs.map (·.1)) 0 qs=true)/\(match pan with
   | none=>Q .normal s'
   | some (c,v)=>c<ops.length/\Q (pnc v) ⟨[],[]⟩)
def sw (P:Program) (bs:Nat):SC->(Exit->St->Prop)->St->Prop
 | .skip,Q,s=>Q .normal s
 | .ret,Q,s=>Q .ret s
 | .exit id,Q,s=>Q (.exit id) s
 | .reg ops,Q,s=>stps P (s.nx bs) ops s (Q .normal)
 | .drw pre ops,Q,s=> ∃ es s',Z5m P (s.nx bs) ops s es s'/\dchk (s.nx bs) pre ops es s=true/\Q .normal s'
 | .seq a b,Q,s=>sw P bs a (thenS (sw P bs b Q) Q) s
 | .cond x a b,Q,s=>match s.get x with
  | .bool t=>if t then sw P bs a Q s else sw P bs b Q s
  | _=>False
 | .block id c,Q,s=>sw P bs c (Z0y id Q) s
 | .spec k,Q,s=>spS P bs k Q s
 | .loop _ c,Q,s=> ∃ (ts:List Nat) (Inv:Nat->St->Prop),(∃ k,Inv k (s.canon bs ts))/\ ∀ k s',Inv k s'->sw P bs c (thenS (fun s''=> ∃ k',k'<k/\Inv k' (s''.canon bs ts)) Q) s'
 | .rangeF N g ps a b,Q,s=> ∃ nm R,nm.Nodup/\(∀ i∈nm,(lk ((s.nx bs,recd P .ready none N ps a b s.tm)::s.ob) i).isSome)/\(∃ f a c,s.get g= .func (.func f) a c/\QE P f=true) ∧
   CallL P ((s.get g).ren (idx · nm)) [(D.yld (s.nx bs)).ren (idx · nm)] (Qc ((s.nx bs,recd P .ready none N ps a b s.tm)::s.ob) (idx · nm) 0 nm) R ∧
   ∀ r ob',R r ob'->(∃ v,r= .pan v/\Q (pnc v) ⟨s.tm,Za (s.nx bs) (St.back ⟨s.tm,(s.nx bs,recd P .ready none N ps a b s.tm)::s.ob⟩ (s.nx bs+1) nm ob').ob⟩)\/r.isPan=false/\ ∃ st pend ps' asg body N' keys ds,lk (St.back ⟨s.tm,(s.nx bs,recd P .ready none N ps a b s.tm)::s.ob⟩ (s.nx bs+1) nm ob').ob (s.nx bs)=some (.gen (.loop st pend ps' asg body N' keys) ds)/\st≠ .busy/\(match pend with
     | none=>Q .normal ⟨s.tm,Za (s.nx bs) (St.back ⟨s.tm,(s.nx bs,recd P .ready none N ps a b s.tm)::s.ob⟩ (s.nx bs+1) nm ob').ob⟩
     | some .ret=>Q .ret ⟨s.tm,Za (s.nx bs) (St.back ⟨s.tm,(s.nx bs,recd P .ready none N ps a b s.tm)::s.ob⟩ (s.nx bs+1) nm ob').ob⟩
     | some (.exit i)=>Q (.exit i) ⟨s.tm,Za (s.nx bs) (St.back ⟨s.tm,(s.nx bs,recd P .ready none N ps a b s.tm)::s.ob⟩ (s.nx bs+1) nm ob').ob⟩
     | _=>False)
def mkd (b:Nat):Deferred:={ target:= .collected b,args:= #[] }
def Cx.more (cx:Cx) (ms:List Nat):Cx:={ cx with kp:=fun b=>(cx.kp b).or (if b∈ms then some (.deferred (some [])) else none) }
theorem Cx.more_nil (cx:Cx):cx.more []=cx:=by
 cases cx
 simp[Cx.more]
theorem Cx.more_more (cx:Cx) (a b:List Nat):(cx.more a).more b=cx.more (b++a):=by
 cases cx
 simp only[Cx.more,Cx.mk.injEq,true_and]
 funext i
 rename_i kp; cases kp i <;> by_cases h1:i∈b <;> by_cases h2:i∈a <;> simp[h1,h2]
def PostM (cx:Cx) (ds:List Deferred) (Q:Exit->St->Prop):Exit->Act->World->Prop :=
 fun e a w'=> ∃ ms:List Nat,(ms.Nodup/\ ∀ b∈ms,cx.kp b=none/\cx.w0.heap.size<=b)/\a.defers=ms.map mkd++ds/\ ∃ s' φ' h',Q e s'/\Mod (cx.more ms) s' φ' h' a.tmps w'
theorem PostM.of {cx:Cx} {ds:List Deferred} {Q:Exit->St->Prop} {e:Exit} {s:St} {φ:Mem} {h:Nat->Value} {tmps:Array Value} {w:World} (hq:Q e s) (hm:Mod cx s φ h tmps w):PostM cx ds Q e ⟨tmps,ds⟩ w :=
 ⟨[],⟨List.nodup_nil,by simp⟩,rfl,s,φ,h,hq,by rw[Cx.more_nil]; exact hm⟩
theorem PostM.after {cx:Cx} {ds:List Deferred} {ms:List Nat} (hnd:ms.Nodup/\ ∀ b∈ms,cx.kp b=none/\cx.w0.heap.size<=b) {Q:Exit->St->Prop} {e:Exit} {a:Act} {w:World} (h:PostM (cx.more ms) (ms.map mkd++ds) Q e a w):PostM cx ds Q e a w:=by
 obtain⟨ms',hnd',hdf,s',φ',h',hq,hm⟩:=h
 have hk: ∀ b∈ms',cx.kp b=none/\b ∉ ms:=fun b hb=>by
  have:=(hnd'.2 b hb).1
  simp only[Cx.more] at this
  cases hq:cx.kp b with
  | some o=>rw[hq] at this; cases this
  | none =>
   refine⟨rfl,fun hmem=> ?_⟩
   rw[hq,if_pos hmem] at this
   cases this
 refine⟨ms'++ms,⟨List.nodup_append.2 ⟨hnd'.1,hnd.1,fun a ha b hb e=>(hk a ha).2 (e ▸ hb)⟩,fun b hb=>(List.mem_append.1 hb).elim (fun h=>⟨(hk b h).1,(hnd'.2 b h).2⟩) (hnd.2 b)⟩,by rw[hdf,List.map_append,List.append_assoc],s',φ',h',hq, ?_⟩
 rw[Cx.more_more] at hm
 exact hm
section
variable {P:Program} {F:Fence} {n:Nat}
theorem Z5I {cx:Cx} {ds:List Deferred} {bs:Nat} (hbs:cx.bs<=bs) (hgl:GlobC cx.φ0 cx.w0 cx.Z) (hF:Fence.Open F) {bt fz:Nat->Bool} {ops:Array Oper} {Q:Exit->St->Prop} (l:List Oper): ∀ (sops:List SOp),l.mapM (fun o=>QZ P bt (fz (o.dst.getD 0)) ops o)=some sops →
  (∀ o∈l, ∀ d,o.dst=some d->d<cx.N)-> ∀ (s:St) (φ:Mem) (h:Nat->Value) (tmps:Array Value) (w:World),Mod cx s φ h tmps w->stps P bs sops s (Q .normal)->wpListIn F n P ops (PostM cx ds Q) l ⟨tmps,ds⟩ w:=by
 induction l with
 | nil =>
  intro sops hc _ s φ h tmps w hm hst
  simp at hc; subst hc
  exact PostM.of hst hm
 | cons o l ih =>
  intro sops hc hd s φ h tmps w hm hst
  simp only[List.mapM_cons,Option.bind_eq_bind,Option.bind_eq_some_iff,Option.pure_def,Option.some.injEq] at hc
  obtain⟨so,h1,sops',h2,rfl⟩:=hc
  have hs:=Qz (ds:=ds) (n:=n) (Q:=PostM cx ds Q) hF hbs hgl h1 (hd o (by simp)) hm hst
  have hnext: ∀ a w',Z0E cx ds (fun s'=>stps P bs sops' s' (Q .normal)) a w'->wpListIn F n P ops (PostM cx ds Q) l a w':=by
   rintro⟨tm,df⟩ w' ⟨hdf,s',φ',h',hk,hm'⟩
   cases hdf
   exact ih sops' h2 (fun o ho=>hd o (List.mem_cons_of_mem _ ho)) s' φ' h' tm w' hm' hk
  unfold wpListIn
  split at hs
  ·rename_i hw
   rw[if_pos hw]
   exact Oper.wpIn_mono hnext hs
  ·rename_i hw
   rw[if_neg hw]
   exact⟨hs.1,hnext _ _ hs.2⟩
theorem Qd {N:Nat} {ops:Array Oper} (hd:QR N ops=true): ∀ o∈ops.toList, ∀ d,o.dst=some d->d<N:=by
 intro o ho d hdst
 have:=List.all_eq_true.1 hd o ho
 rw[hdst] at this
 simpa using this
def Zkm (P:Program):Prop:= ∀ {cx:Cx} {F:Fence} {n:Nat} {ds:List Deferred} (_:Fence.Open F) {bt fz:Nat->Bool} {ops:Array Oper} {Q:Exit->St->Prop} {sops:List SOp} {pre:List Nat} {id bs:Nat} (_:cx.bs<=bs) (_:GlobC cx.φ0 cx.w0 cx.Z)
 (_:ops.toList.mapM (fun o=>QZ P bt (fz (o.dst.getD 0)) ops o)=some sops) (_:QR cx.N ops=true) (_:cx.N<=4096) (_:Z1O pre ops=true) (s:St) (φ:Mem) (h:Nat->Value) (tmps:Array Value) (w:World) (_:s.top<=bs),
  Mod cx s φ h tmps w-> ∀ (es:List Eff) (s':St),Z5m P bs sops s es s'->dchk bs pre sops es s=true->Q .normal s'->(Code.region id ops true).wpIn F n P (PostM cx ds Q) ⟨tmps,ds⟩ w
def Zkn (P:Program):Prop:= ∀ {cx:Cx} {F:Fence} {n:Nat} {ds:List Deferred} (_:Fence.Open F) {bt fz:Nat->Bool} {ops:Array Oper} {Q:Exit->St->Prop} {sops:List SOp} {pre:List Nat} {id bs p:Nat} (_:cx.bs<=bs) (_:GlobC cx.φ0 cx.w0 cx.Z)
 (_:ops.toList.mapM (fun o=>QZ P bt (fz (o.dst.getD 0)) ops o)=some sops) (_:QR cx.N ops=true) (_:cx.N<=4096) (_:Z1O pre ops=true) (_:Zc8 p pre ops.size=true) (s:St) (φ:Mem) (h:Nat->Value) (tmps:Array Value) (w:World) (_:s.top<=bs),
  Mod cx s φ h tmps w-> ∀ (es:List Eff) (s':St) (b2:Nat),Z5m P bs (sops.take p) s es s'->dchk bs pre (sops.take p) es s=true->cx.bs<=b2->Z1U P b2 (sops.drop p) s' (Q .normal) (fun v s1=>Q (pnc v) s1)->(Code.region id ops true).wpIn F n P (PostM cx ds Q) ⟨tmps,ds⟩ w
def Zko (P:Program):Prop:= ∀ {cx:Cx} {F:Fence} {n:Nat} {ds:List Deferred} (_:Fence.Open F) {bt fz:Nat->Bool} {ops:Array Oper} {Q:Exit->St->Prop} {sops:List SOp} {pre:List Nat} {id bs:Nat} (_:cx.bs<=bs) (_:GlobC cx.φ0 cx.w0 cx.Z)
 (_:ops.toList.mapM (fun o=>QZ P bt (fz (o.dst.getD 0)) ops o)=some sops) (_:QR cx.N ops=true) (_:cx.N<=4096) (_:Z1O pre ops=true) (s:St) (φ:Mem) (h:Nat->Value) (tmps:Array Value) (w:World) (_:s.top<=bs),
  Mod cx s φ h tmps w-> ∀ (pan:Option (Nat × Value)) (qs:List (Eff × Option (Nat × Nat × D))) (s':St),Z3k P bs pre pan 0 sops s qs s'->dchk bs pre sops (qs.map (·.1)) s=true->(ZV false pre s (qs.map (·.1)) 0 qs=true/\ZV true pre s (qs.map (·.1)) 0 qs=true) →
   (match pan with | none=>Q .normal s' | some (c,v)=>c<sops.length/\Q (pnc v) ⟨[],[]⟩)->(Code.region id ops true).wpIn F n P (PostM cx ds Q) ⟨tmps,ds⟩ w
structure DrawSound (P:Program):Prop where
 s:Zkm P
 p:Zkn P
 o:Zko P
def InRound (F:Fence) (cx:Cx):Prop:= ∀ l,F.round=some l-> ∃ r,cx.kp l=some (.loop r)
theorem InRound.more {cx:Cx} (h:InRound F cx) (ms:List Nat):InRound F (cx.more ms):=fun l hl=>by
 obtain⟨r,hr⟩:=h l hl
 exact⟨r,by simp only[Cx.more,hr]; rfl⟩
end
end Go.Sx
namespace Go.Sx
open Go.RowKit
variable [Globs] [Codes]
theorem get?_lk_top {n:Nat} {tm:Env} (h:Env.top tm<=n) (t:Nat):D.top ((lk tm t).getD .undef)<=n:=by
 cases hl:lk tm t with
 | none=>exact Nat.zero_le _
 | some d=>exact Env.top_get h hl
theorem Z8U {n:Nat}: ∀ {cs:List D},(∀ d∈cs,D.top d<=n)->D.topL cs<=n
 | [],_=>Nat.zero_le _
 | c::cs,h=>by
  simp only[D.topL]
  have h1:=h c (by simp)
  have h2:=Z8U (cs:=cs) fun d hd=>h d (List.mem_cons_of_mem _ hd)
  omega
theorem Zc4 {P:Program} {st:LoopState} {pend:Option Code} {N:Nat} {ps:Array Tmp} {a b:SC} {tm:Env} {n:Nat} (h:Env.top tm<=n):D.topL (recd P st pend N ps a b tm).parts<=n:=by
 refine Z8U fun d hd=> ?_
 simp only[recd,Ob.parts,List.mem_map] at hd
 obtain⟨p,_,rfl⟩:=hd
 exact get?_lk_top h p.1
theorem Zaw {n:Nat}: ∀ {tm:Env},Env.top tm<=n-> ∀ {p},p∈tm->D.top p.2<=n
 | [],_,p,hp=>by cases hp
 | (j,a)::r,h,p,hp=>by
  simp only[Env.top] at h
  rcases List.mem_cons.1 hp with rfl | hp
  ·show D.top a<=n; omega
  ·exact Zaw (tm:=r) (by omega) hp
theorem Z3P (v:Value) (n:Nat):D.top (Qs v)<=n:=by
 unfold Qs
 split <;> exact Nat.zero_le _
theorem Z8p (v:Value) (n:Nat):D.top (Z39 v)<=n:=by
 unfold Z39
 split
 ·rename_i vs
  simp only[D.top]
  generalize vs.toList=l
  induction l with
  | nil=>exact Nat.zero_le _
  | cons a r ih =>
   simp only[List.map_cons,D.topL]
   refine Nat.max_le.2 ⟨?_,ih⟩
   unfold Z8v
   split
   ·exact Nat.zero_le _
   ·exact Z3P a n
 ·exact Z3P v n
section
variable {P:Program} {F:Fence} {n:Nat} {cx:Cx} {s:St} {φ φ':Mem} {h:Nat->Value} {tmps:Array Value} {w w':World}
theorem ZiU {b:Nat} {id:Nat} (hm:Mod cx s φ h tmps w) (hi:(lk s.ob id).isSome) (hb:blk (h id)=some b): ¬ (cx.kp b).isSome:=fun hk=>by
 obtain⟨o,ho⟩:=Option.isSome_iff_exists.1 hk
 exact (hm.kept b o ho).2.2 id hi hb
theorem Mod.newOb (hm:Mod cx s φ h tmps w) {id:Nat} {o:Ob} {hv:Value} (hid:cx.bs<=id) (hct: ∀ t d,lk s.tm t=some d->D.men id d=false) (hco: ∀ t o,lk s.ob t=some o->Ob.men id o=false) (hone:hv.oneCell'=true) (hb:Below w.heap.size w w')
  (hob:ObR (w.heap.size<= ·) φ (updH h id hv) w' hv o):Mod cx ⟨s.tm,(id,o)::s.ob⟩ φ (updH h id hv) tmps w':=by
 have hmg:Mod cx s φ h tmps w':=hm.grown hb (fun _ _ _ h=>h) (fun b o v hv=>by rw[hb.cell (p:=⟨b,o,none⟩) (Sub.lt hm.mem hv)]; exact hm.mem b o v hv) (fun _ _ _ h h'=>by rw[h] at h'; cases h')
 have hnew: ∀ b,blk hv=some b->w.heap.size<=b:=fun b hbk=>(hob.blk_lt hbk).2
 have hlt: ∀ i b,(lk s.ob i).isSome->blk (h i)=some b->b<w.heap.size:=fun i b hi hbi=>by
  obtain⟨o,ho⟩:=Option.isSome_iff_exists.1 hi
  exact ((hm.ob i o ho).blk_lt hbi).1
 have hsome: ∀ i,i≠id->(lk ((id,o)::s.ob) i).isSome->(lk s.ob i).isSome:=fun i hne hi=>by simpa only[lk,if_neg hne] using hi
 refine⟨hmg.size,fun t d hd=>(hmg.tm t d hd).upd id hv (hct _ _ hd),hmg.mem,hmg.ext,hmg.new,fun i o' ho'=> ?_,fun i j b hi hj hbi hbj=> ?_,hmg.os,hmg.tape,hmg.output,hmg.grow,fun i=> ?_,hmg.frame,fun i hi=> ?_,fun b o' hk=> ?_⟩
 ·simp only[lk] at ho'
  split at ho'
  ·rename_i hi
   cases ho'
   subst hi
   rw[Zw]
   exact hob.keep (fun b hb=>Or.inl (Nat.le_trans hm.grow hb)) (fun _ _=>rfl) (fun _ _ _ h=>h) (fun _ _ _=>rfl) (fun _ _ _ r=>r)
  ·rename_i hi
   rw[Zj h hv hi]
   refine (hmg.ob i o' ho').keep (fun _ hb=>hb) (fun _ _=>rfl) (fun _ _ _ h=>h) (fun _ _ _=>rfl) (fun v d hdm r=> ?_)
   have hmen:=hco _ _ ho'
   obtain⟨j,hj⟩:=List.mem_iff_getElem?.1 hdm
   exact r.upd id hv (Qv hmen j d hj)
 ·by_cases h1:i=id <;> by_cases h2:j=id
  ·rw[h1,h2]
  ·subst h1
   rw[Zw] at hbi
   rw[Zj h hv h2] at hbj
   exact absurd (hlt j b (hsome j h2 hj) hbj) (by have:=hnew b hbi; omega)
  ·subst h2
   rw[Zw] at hbj
   rw[Zj h hv h1] at hbi
   exact absurd (hlt i b (hsome i h1 hi) hbi) (by have:=hnew b hbj; omega)
  ·rw[Zj h hv h1] at hbi
   rw[Zj h hv h2] at hbj
   exact hm.sep i j b (hsome i h1 hi) (hsome j h2 hj) hbi hbj
 ·simp only[updH]
  split
  ·exact hone
  ·exact hmg.one i
 ·rw[Zj h hv (by omega)]; exact hmg.hfix i hi
 ·obtain⟨h1,h2,h3⟩:=hmg.kept b o' hk
  refine⟨h1,h2,fun i hi=> ?_⟩
  by_cases hne:i=id
  ·subst hne
   rw[Zw]
   intro he
   have:=hnew b he
   have:=(Array.getElem?_eq_some_iff.1 (hm.kept b o' hk).1).1
   omega
  ·rw[Zj h hv hne]
   exact h3 i (hsome i hne hi)
theorem Mod.mark (hm:Mod cx s φ h tmps w):Mod (cx.more [w.heap.size]) s φ h tmps (w.alloc (.deferred (some []))):=by
 have hb:Below w.heap.size w (w.alloc (.deferred (some []))):=(Below.refl _ w).alloc (Nat.le_refl _) _
 have hmg:Mod cx s φ h tmps (w.alloc (.deferred (some []))):=hm.grown hb (fun _ _ _ h=>h) (fun b o v hv=>by rw[hb.cell (p:=⟨b,o,none⟩) (Sub.lt hm.mem hv)]; exact hm.mem b o v hv) (fun _ _ _ h h'=>by rw[h] at h'; cases h')
 refine⟨hmg.size,hmg.tm,hmg.mem,hmg.ext,hmg.new,hmg.ob,hmg.sep,hmg.os,hmg.tape,hmg.output,hmg.grow,hmg.one,hmg.frame,hmg.hfix,fun b o hk=> ?_⟩
 simp only[Cx.more] at hk
 cases hq:cx.kp b with
 | some o'=>rw[hq] at hk; cases hk; exact hmg.kept b o hq
 | none =>
  rw[hq] at hk
  simp only[List.mem_singleton,Option.none_or] at hk
  split at hk
  ·rename_i hbs
   cases hk
   subst hbs
   refine⟨World.alloc_heap_new w _,fun off=> ?_,fun i hi he=> ?_⟩
   ·cases hq:φ w.heap.size off with
    | none=>rfl
    | some v=>exact absurd (Sub.lt hm.mem hq) (by omega)
   ·obtain⟨o,ho⟩:=Option.isSome_iff_exists.1 hi
    have:=((hm.ob i o ho).blk_lt he).1
    omega
  ·cases hk
end
end Go.Sx
