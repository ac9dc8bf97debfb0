/- Own work: a layer over the kit: plain data,a walk over it,its soundness. -/
import Derived.Lib.Join
import Derived.Lib.Fields
import Derived.Lib.Atoi
import Derived.Lib.ConvBytes
import Derived.Lib.AtoiErrMem
import Derived.Lib.Bytealg
import Derived.Lib.ItoaNum
import Derived.Lib.LaidTab
import Derived.Shelf.Strconv.Itoa3
import Derived.Sort.Grow
import Derived.Deep.Slices
import Derived.ChangeArms
import Derived.WalkKit
import Derived.OpenShut
import Derived.SevenTiedAt
import Derived.Carry
import Derived.Test.YtecgehidegnmnaaGreatDoorSx6
set_option linter.unusedSectionVars false
set_option linter.unusedVariables false
set_option linter.unusedSimpArgs false
set_option linter.deprecated false
namespace Go.Sx
open Go.RowKit
variable [Globs] [Codes]
theorem Z92 {P:Program} {b:Nat} {o:SOp} {s:St} {Kn Kn':St->Prop} {Kp Kp':Value->St->Prop} (h:stpX P b o s Kn Kp) (hn: ∀ s,Kn s->Kn' s) (hp: ∀ v s,Kp v s->Kp' v s):stpX P b o s Kn' Kp':=by
 cases o with
 | st g sz x y=>exact Z1C (P:=P) (b:=b) (o:= .st g sz x y) h hn
 | app dst g fz sz e x y=>exact Z1C (P:=P) (b:=b) (o:= .app dst g fz sz e x y) h hn
 | cd dst g x xs =>
  refine Qq (fun hb=> ?_) (hn _) h
  obtain⟨nm,R,base,h1,h2,h3,h4,h5,h6⟩:=hb
  refine⟨nm,R,base,h1,h2,h3,h4,h5,fun r ob' hr=> ?_⟩
  rcases h6 r ob' hr with ⟨q1,q2⟩ | ⟨v,q1,q2⟩
  ·exact .inl ⟨q1,hn _ q2⟩
  ·exact .inr ⟨v,q1,hp _ _ q2⟩
 | a dst g op xs =>
  by_cases hq:dst=none/\op= .pnk/\ ∃ x,xs=[x]
  ·obtain⟨rfl,rfl,x,rfl⟩:=hq
   exact Qq (fun ⟨t,u,h1,h2⟩=>⟨t,u,h1,hp _ _ h2⟩) (hn _) h
  ·have e: ∀ Kn Kp,stpX P b (.a dst g op xs) s Kn Kp=stp P b (.a dst g op xs) s Kn:=fun Kn Kp=>by
    cases dst with
    | some d=>rfl
    | none=>cases op <;> first | rfl | (cases xs with
      | nil=>rfl
      | cons x r=>cases r with
       | nil=>exact absurd ⟨rfl,rfl,x,rfl⟩ hq
       | cons _ _=>rfl)
   rw[e] at h ⊢
   exact Z1C h hn
theorem Z91 {P:Program} {b:Nat} {o:SOp} {s:St} {K:St->Prop} {Kp:Value->St->Prop} (h:stp P b o s K):stpX P b o s K Kp:=by
 cases o with
 | st g sz x y=>exact h
 | app dst g fz sz e x y=>exact h
 | cd dst g x xs =>
  refine Qq (fun hb=> ?_) id h
  obtain⟨nm,R,base,h1,h2,h3,h4,h5,h6⟩:=hb
  exact⟨nm,R,base,h1,h2,h3,h4,h5,fun r ob' hr=> .inl (h6 r ob' hr)⟩
 | a dst g op xs =>
  by_cases hq:dst=none/\op= .pnk/\ ∃ x,xs=[x]
  ·obtain⟨rfl,rfl,x,rfl⟩:=hq
   exact Qq (fun hb=>hb.elim) id h
  ·have e:stpX P b (.a dst g op xs) s K Kp=stp P b (.a dst g op xs) s K:=by
    cases dst with
    | some d=>rfl
    | none=>cases op <;> first | rfl | (cases xs with
      | nil=>rfl
      | cons x r=>cases r with
       | nil=>exact absurd ⟨rfl,rfl,x,rfl⟩ hq
       | cons _ _=>rfl)
   rw[e]
   exact h
theorem Z3y {P:Program} {b:Nat}: ∀ {ops:List SOp} {s:St} {Kn Kn':St->Prop} {Kp Kp':Value->St->Prop},Z1U P b ops s Kn Kp->(∀ s,Kn s->Kn' s)->(∀ v s,Kp v s->Kp' v s)->Z1U P b ops s Kn' Kp'
 | [],_,_,_,_,_,h,hn,_=>hn _ h
 | _::_,_,_,_,_,_,h,hn,hp=>Z92 h (fun _ hs=>Z3y hs hn hp) hp
theorem Z6S {P:Program} {b:Nat}: ∀ {ops:List SOp} {s:St} {K:St->Prop} {Kp:Value->St->Prop},stps P b ops s K->Z1U P b ops s K Kp
 | [],_,_,_,h=>h
 | _::_,_,_,_,h=>Z91 (Z1C h fun _ hs=>Z6S hs)
theorem Z4c {P:Program} {bs:Nat} {k:Sp} {Q Q':Exit->St->Prop} {s:St} (h:spS P bs k Q s) (hq: ∀ e s,Q e s->Q' e s):spS P bs k Q' s:=by
 cases k with
 | frg ts=>exact hq _ _ h
 | dfr _ _=>exact h.elim
 | rcv _ _=>exact h.elim
 | pan ops=>exact Z3y h (fun s=>hq _ s) (fun v s=>hq _ s)
 | ord pre ops =>
  obtain⟨pan,qs,s',h1,h2,h3,h4⟩:=h
  refine⟨pan,qs,s',h1,h2,h3, ?_⟩
  cases pan with
  | none=>exact hq _ _ h4
  | some cv=>exact⟨h4.1,hq _ _ h4.2⟩
 | rng ops dst x =>
  refine Z0O h fun s' ⟨mid,ks,ds,h1,h2,h3,h4,h5⟩=>⟨mid,ks,ds,h1,h2,h3,h4,fun l cl a b c=>hq _ _ (h5 l cl a b c)⟩
 | nxt it t1 t2 =>
  obtain⟨id,l,ix,cl,mid,ks,ds,h1,h2,h3,h4,h5,h6⟩:=h
  exact⟨id,l,ix,cl,mid,ks,ds,h1,h2,h3,h4,fun ha=>hq _ _ (h5 ha),fun i hi hn=>hq _ _ (h6 i hi hn)⟩
theorem ZK {P:Program} {bs:Nat}: ∀ {c:SC} {s:St} {Q Q':Exit->St->Prop},sw P bs c Q s->(∀ e s,Q e s->Q' e s)->sw P bs c Q' s:=by
 intro c
 induction c with
 | skip=>intro s Q Q' h hq; exact hq _ _ h
 | ret=>intro s Q Q' h hq; exact hq _ _ h
 | exit id=>intro s Q Q' h hq; exact hq _ _ h
 | reg ops=>intro s Q Q' h hq; exact Z0O h fun s=>hq _ s
 | spec k=>intro s Q Q' h hq; exact Z4c h hq
 | drw pre ops=>intro s Q Q' h hq; obtain⟨es,s',h1,h2,h3⟩:=h; exact⟨es,s',h1,h2,hq _ _ h3⟩
 | seq a b iha ihb =>
  intro s Q Q' h hq
  refine iha h fun e s he=> ?_
  cases e <;> first | exact ihb he hq | exact hq _ _ he
 | cond x a b iha ihb =>
  intro s Q Q' h hq
  simp only[sw] at h ⊢
  split at h
  ·split at h
   ·rename_i ht; rw[if_pos ht]; exact iha h hq
   ·rename_i ht; rw[if_neg ht]; exact ihb h hq
  ·exact h.elim
 | block id c ih =>
  intro s Q Q' h hq
  refine ih h fun e s he=> ?_
  cases e <;> try exact hq _ _ he
  rename_i i
  simp only[Z0y] at he ⊢
  split at he
  ·rename_i hi; rw[if_pos hi]; exact hq _ _ he
  ·rename_i hi; rw[if_neg hi]; exact hq _ _ he
 | loop ts c ih =>
  intro s Q Q' h hq
  obtain⟨ts',Inv,h1,h2⟩:=h
  refine⟨ts',Inv,h1,fun k s' hi=>ih (h2 k s' hi) fun e s he=> ?_⟩
  cases e <;> first | exact he | exact hq _ _ he
 | rangeF N g ps a b _ _ =>
  intro s Q Q' h hq
  obtain⟨nm,R,h1,h2,h3,h4,h5⟩:=h
  refine⟨nm,R,h1,h2,h3,h4,fun r ob' hr=> ?_⟩
  rcases h5 r ob' hr with ⟨v,hv,hqv⟩ | ⟨hpn,hrest⟩
  ·exact .inl ⟨v,hv,hq _ _ hqv⟩
  refine .inr ⟨hpn, ?_⟩
  obtain⟨st,pend,ps',asg,body,N',keys,ds,q1,q2,q3⟩:=hrest
  refine⟨st,pend,ps',asg,body,N',keys,ds,q1,q2, ?_⟩
  split at q3
  ·exact hq _ _ q3
  ·exact hq _ _ q3
  ·exact hq _ _ q3
  ·exact q3.elim
inductive Fr where
 | sc (c:SC)
 | blk (id:Nat)
structure Tab where
 T:FuncId->Option (Nat × SC × List SR)
 C:FuncId->List D->Obs->Option (D × Obs)
 F:FuncId->List D->Option D:=fun _ _=>none
structure Tab.OK (tab:Tab) (P:Program):Prop where
 T: ∀ f N sc rs,tab.T f=some (N,sc,rs)->FnC P f N sc rs/\QE P f=true
 C: ∀ f az ob r ob',tab.C f az ob=some (r,ob')->QE P f=true/\CallL P (.func (.func f) [] []) az ob fun r0 ob0=>r0=r/\ob0=ob'
 F: ∀ f az r,tab.F f az=some r->FnOK P f az r
abbrev GoF:=Nat->List Fr->St->Option (Exit × St)
def finB:Exit->Bool
 | .normal=>true
 | .ret=>true
 | _=>false
def Zc6:Exit->Option (Option Code)
 | .normal=>some none
 | .ret=>some (some .ret)
 | .exit i=>some (some (.exit i))
 | _=>none
def SC.hasD:SC->Bool
 | .seq a b=>(match a with
  | .spec (.dfr _ _)=>true
  | _=>false) || b.hasD
 | _=>false
abbrev noCl:Z3v:=fun _ _ _=>none
abbrev noFn:FuncId->List D->Option D:=fun _ _=>none
def Zcs (tab:Tab) (g:GoF) (gf:FuncId) (first caps:List D) (ob:Obs):Option Obs:=match tab.T gf with
 | some (N,.seq (.spec (.rcv t ops)) sb,[])=>if (first++caps).length<=N then (match opsE noCl noFn (St.nx ⟨(t,.raw .nilIface)::Za t (Zv 0 (first++caps)),ob⟩ (Obs.top ob)) ops ⟨(t,.raw .nilIface)::Za t (Zv 0 (first++caps)),ob⟩ with
  | some s1=>match g (Obs.top ob) [.sc sb] s1 with
   | some (e,s)=>if finB e=true then some ((s.fin (Obs.top ob) (.tuple [])).ob) else none
   | none=>none
  | none=>none) else none
 | _=>none
def finR (k:Nat) (rs:List SR) (s:St):Option (D × Obs):=match rs.mapM (resD s) with
 | some ds=>some ((s.fin k (Z0w ds)).get (.t 0),(s.fin k (Z0w ds)).ob)
 | none=>none
def Z8l (tab:Tab) (g:GoF) (k:Nat) (rs:List SR):SC->St->Option (D × Obs)
 | .seq a b,s=>match a with
  | .spec (.dfr ops x)=>match opsE noCl noFn (s.nx k) ops s with
   | some s1=>match s1.get x with
    | .func (.func gf) fa fc =>
     let cl:=s1.get x
     let k2:=max k (max s1.top (D.top cl))
     (match g k2 [.sc b] s1 with
     | some (e,s2)=>if finB e=true then
       (let nm:=Z1w s2 [cl]
       if Z0p nm=true then (match Zcs tab g gf (D.renL (idx · nm) fa) (D.renL (idx · nm) fc) (Qc s2.ob (idx · nm) 0 nm) with
       | some ob'=>finR k rs (s2.back (max k2 s2.top) nm ob')
       | none=>none) else none) else none
     | none=>none)
    | _=>none
   | none=>none
  | .spec (.frg ts)=>Z8l tab g k rs b (s.canon k ts)
  | a=>match g k [.sc a] s with
   | some (.normal,s')=>Z8l tab g k rs b s'
   | some (.ret,s')=>finR k rs s'
   | _=>none
 | _,_=>none
def Z3u (tab:Tab) (g:GoF):Z3v:=fun d args ob=>match d with
 | .func (.func f) first caps=>match tab.C f (first++args++caps) ob with
  | some x=>some x
  | none=>match tab.T f with
   | some (N,sc,rs)=>if (first++args++caps).length<=N then if sc.hasD=true then Z8l tab g (Obs.top ob) rs sc ⟨Zv 0 (first++args++caps),ob⟩ else
     (match g (Obs.top ob) [.sc sc] ⟨Zv 0 (first++args++caps),ob⟩ with
     | some (e,s)=>if finB e=true then (match rs.mapM (resD s) with
      | some ds=>some ((s.fin (Obs.top ob) (Z0w ds)).get (.t 0),(s.fin (Obs.top ob) (Z0w ds)).ob)
      | none=>none) else none
     | none=>none) else none
   | none=>none
 | .yld rid=>match lk ob rid with
  | some (.gen (.loop .ready none ps a b N keys) ds)=>if ps.size=args.length/\(ps.toList.all fun t=>decide (t<N))=true then
    (match g (Obs.top ob) [.sc a] ⟨putP (ps.toList.zip args) (keys.zip ds),Za rid ob⟩ with
    | some (.normal,s1)=>match g (Obs.top ob) [.sc b] s1 with
     | some (e,s2)=>match Zc6 e with
      | some pend=>if (lk s2.ob rid).isNone=true then some (.bool pend.isNone,(rid,.gen (.loop (if pend.isNone then .ready else .done) pend ps a b N keys) ds)::(s2.canon (Obs.top ob) []).ob) else none
      | none=>none
     | none=>none
    | _=>none) else none
  | _=>none
 | _=>none
def retE (r:D) (ob:Obs):Option D:=match r with
 | .vec id=>match lk (frzO ob) id with
  | some (.arr true sz e es)=>some (.own sz e es)
  | _=>none
 | r=>if D.clo (dvt (lk (frzO ob)) r)=true then some (dvt (lk (frzO ob)) r) else none
def fnE (tab:Tab) (g:GoF):FuncId->List D->Option D:=fun f args=>match tab.F f args with
 | some r=>some r
 | none=>match Z3u tab g (.func (.func f) [] []) args [] with
  | some (r,ob)=>retE r ob
  | none=>none
def Z0X (i:Nat):List Fr->Option (List Fr)
 | []=>none
 | .blk j::K=>if i=j then some K else Z0X i K
 | .sc _::K=>Z0X i K
def rngS (P:Program) (s:St) (rid N:Nat) (ps:Array Tmp) (a b:SC):Obs:=(rid,recd P .ready none N ps a b s.tm)::s.ob
def Z1m (P:Program) (tab:Tab) (ih:GoF):GoF:=fun bs K s=>match K with
 | []=>some (.normal,s)
 | .blk _::K=>ih bs K s
 | .sc c::K=>match c with
  | .skip=>ih bs K s
  | .ret=>some (.ret,s)
  | .exit i=>match Z0X i K with
   | some K'=>ih bs K' s
   | none=>some (.exit i,s)
  | .reg ops=>match opsE (Z3u tab ih) (fnE tab ih) (s.nx bs) ops s with
   | some s'=>ih bs K s'
   | none=>none
  | .drw pre ops=>match canE (Z3u tab ih) (fnE tab ih) (s.nx bs) ops s with
   | some (es,s')=>if dchk (s.nx bs) pre ops es s=true then ih bs K s' else none
   | none=>none
  | .seq a b=>ih bs (.sc a:: .sc b::K) s
  | .cond x a b=>match s.get x with
   | .bool t=>ih bs (.sc (if t then a else b)::K) s
   | _=>none
  | .block id c=>ih bs (.sc c:: .blk id::K) s
  | .loop ts c=>ih bs (.sc c:: .sc (.loop ts c)::K) (s.canon bs ts)
  | .spec k=>match k with
   | .frg ts=>ih bs K (s.canon bs ts)
   | .pan ops=>(match opsE (Z3u tab ih) (fnE tab ih) (s.nx bs) ops s with
    | some s'=>ih bs K s'
    | none=>none)
   | _=>none
  | .rangeF N g ps a b =>
   let ob1:=rngS P s (s.nx bs) N ps a b
   let nm:=Z1w ⟨s.tm,ob1⟩ [s.get g,.yld (s.nx bs)]
   match s.get g with
   | .func (.func f) fa fc=>if Z0p nm=true/\((tab.T f).isSome=true) then
     (match Z3u tab ih ((s.get g).ren (idx · nm)) [(D.yld (s.nx bs)).ren (idx · nm)] (Qc ob1 (idx · nm) 0 nm) with
     | some (r,ob')=>if r.isPan=true then none else
      let S:=St.back ⟨s.tm,ob1⟩ (s.nx bs+1) nm ob'
      match lk S.ob (s.nx bs) with
      | some (.gen (.loop st pend _ _ _ _ _) _)=>if st= .busy then none else (match pend with
       | none=>ih bs K ⟨s.tm,Za (s.nx bs) S.ob⟩
       | some .ret=>some (.ret,⟨s.tm,Za (s.nx bs) S.ob⟩)
       | some (.exit i)=>match Z0X i K with
        | some K'=>ih bs K' ⟨s.tm,Za (s.nx bs) S.ob⟩
        | none=>some (.exit i,⟨s.tm,Za (s.nx bs) S.ob⟩)
       | _=>none)
      | _=>none
     | none=>none) else none
   | _=>none
def go (P:Program) (tab:Tab) (n:Nat):GoF:=Nat.rec (fun _ _ _=>none) (fun _ ih=>Z1m P tab ih) n
theorem Zah (P:Program) (tab:Tab) (n:Nat):go P tab (n+1)=Z1m P tab (go P tab n):=rfl
section
variable {P:Program} {tab:Tab}
def Z2J (P:Program) (tab:Tab) (m bs:Nat) (K:List Fr) (ex:Exit) (s:St) (out:Exit × St):Prop:=match ex with
 | .normal=>go P tab m bs K s=some out
 | .ret=>out=(.ret,s)
 | .exit i=>match Z0X i K with
  | some K'=>go P tab m bs K' s=some out
  | none=>out=(.exit i,s)
 | _=>False
theorem CallL.split {f:FuncId} (hp:QE P f=true) {first args caps:List D} {ob:Obs} {R:D->Obs->Prop} (h:CallL P (.func (.func f) [] []) (first++args++caps) ob R):CallL P (.func (.func f) first caps) args ob R:=by
 intro F hF n φ hh w v vs hl hv hvs
 obtain⟨va,vc,rfl,ha,hc,ha',hc'⟩:=Sx.func_inv hv
 rw[Qf hp]
 have hall:RVL φ hh (va++vs++vc).toList (first++args++caps):=by
  rw[Array.toList_append,Array.toList_append]
  exact QD (QD (ZB _ _ (by simpa using ha) fun j d hd=>by have:=ha' j d hd; simpa [Array.getD_eq_getD_getElem?,List.getD] using this) hvs)
   (ZB _ _ (by simpa using hc) fun j d hd=>by have:=hc' j d hd; simpa [Array.getD_eq_getD_getElem?,List.getD] using this)
 have:=h F hF n φ hh w (.func (.func f) #[] #[]) (va++vs++vc) hl (.func _ _ _ _ _ rfl rfl (by simp) (by simp)) hall
 rw[Qf hp] at this
 simpa using this
theorem Z4v {k:Nat} {rs:List SR} {s:St} {r:D} {ob':Obs} (h:finR k rs s=some (r,ob')): ∃ ds,rs.mapM (resD s)=some ds/\RetL k (fun r0 ob0=>r0=r/\ob0=ob') s (Z0w ds):=by
 unfold finR at h
 split at h
 ·rename_i ds hds
  simp only[Option.some.injEq,Prod.mk.injEq] at h
  exact⟨ds,hds,h.1,h.2⟩
 ·cases h
theorem Z69 [CodesOf P] (Z7:DrawSound P) (htab:tab.OK P) {n:Nat}
  (hgo: ∀ bs c s out,go P tab n bs [.sc c] s=some out->sw P bs c (fun ex s1=>out=(ex,s1)) s) {gf:FuncId} {first caps:List D} {ob ob':Obs} (h:Zcs tab (go P tab n) gf first caps ob=some ob') :
  CallD P .returning (.func (.func gf) first caps) ob fun u' ob0=>u'= .returning/\ob0=ob':=by
 unfold Zcs at h
 split at h
 ·rename_i N t ops sb hT
  obtain⟨hf,hp⟩:=htab.T gf _ _ _ hT
  split at h
  ·rename_i hlen
   split at h
   ·rename_i s1 hops
    split at h
    ·rename_i e s hg
     split at h
     ·rename_i hfin
      simp only[Option.some.injEq] at h
      refine CallD.fn Z7 hf (Obs.top ob) (Nat.le_refl _) hlen rfl (Z0o (P:=P) (fn:=noFn) (cl:=noCl) (fun _ _ _ h=>by cases h) (fun _ _ _ _ _ h=>by cases h) hops ?_)
      refine ZK (hgo _ _ _ _ hg) fun ex s1 hr=> ?_
      simp only[Prod.mk.injEq] at hr
      obtain⟨rfl,rfl⟩:=hr
      refine⟨?_,rfl,h⟩
      cases e <;> first | exact .inl rfl | exact .inr rfl | cases hfin
     ·cases h
    ·cases h
   ·cases h
  ·cases h
 ·cases h
theorem Z6a [CodesOf P] (Z7:DrawSound P) (htab:tab.OK P) {n:Nat}
  (hgo: ∀ bs c s out,go P tab n bs [.sc c] s=some out->sw P bs c (fun ex s1=>out=(ex,s1)) s) {k:Nat} {rs:List SR} {r:D} {ob':Obs}: ∀ (sc:SC) (s:St),Z8l tab (go P tab n) k rs sc s=some (r,ob') →
  swD P k (EndQ rs (RetL k fun r0 ob0=>r0=r/\ob0=ob')) (KDef P k rs fun r0 ob0=>r0=r/\ob0=ob') sc s:=by
 intro sc
 induction sc with
 | seq a b iha ihb =>
  intro s h
  have usual:(match go P tab n k [.sc a] s with
   | some (.normal,s')=>Z8l tab (go P tab n) k rs b s'
   | some (.ret,s')=>finR k rs s'
   | _=>none)=some (r,ob')->sw P k a (thenS (swD P k (EndQ rs (RetL k fun r0 ob0=>r0=r/\ob0=ob')) (KDef P k rs fun r0 ob0=>r0=r/\ob0=ob') b) (EndQ rs (RetL k fun r0 ob0=>r0=r/\ob0=ob'))) s:=fun h=>by
   split at h
   ·rename_i s' hg
    refine ZK (hgo _ _ _ _ hg) fun ex s1 hr=> ?_
    simp only[Prod.mk.injEq] at hr
    obtain⟨rfl,rfl⟩:=hr
    exact ihb _ h
   ·rename_i s' hg
    refine ZK (hgo _ _ _ _ hg) fun ex s1 hr=> ?_
    simp only[Prod.mk.injEq] at hr
    obtain⟨rfl,rfl⟩:=hr
    exact Z4v h
   ·cases h
  cases a with
  | spec kk =>
   cases kk with
   | dfr ops x =>
    simp only[Z8l] at h
    split at h
    ·rename_i s1 hops
     refine Z0o (P:=P) (fn:=noFn) (cl:=noCl) (fun _ _ _ h=>by cases h) (fun _ _ _ _ _ h=>by cases h) hops ?_
     split at h
     ·rename_i gf fa fc hcl
      split at h
      ·rename_i e s2 hg
       split at h
       ·rename_i hfin
        split at h
        ·rename_i hnd
         split at h
         ·rename_i ob1 hr
          obtain⟨x0,hx0⟩: ∃ x0,tab.T gf=some x0:=by
           unfold Zcs at hr
           split at hr
           ·rename_i hT; exact⟨_,hT⟩
           ·cases hr
          have hpg:=(htab.T gf x0.1 x0.2.1 x0.2.2 hx0).2
          refine⟨gf,fa,fc,max k (max s1.top (D.top (s1.get x))),hcl,hpg,by omega,by omega,by omega, ?_⟩
          refine ZK (hgo _ _ _ _ hg) fun ex s3 hr3=> ?_
          simp only[Prod.mk.injEq] at hr3
          obtain⟨rfl,rfl⟩:=hr3
          have hD:DQ P k (max k (max s1.top (D.top (s1.get x)))) rs (s1.get x) (fun r0 ob0=>r0=r/\ob0=ob') .returning s2:=by
           refine⟨_,fun u' ob0=>u'= .returning/\ob0=ob1,max (max k (max s1.top (D.top (s1.get x)))) s2.top,Zx hnd,fun i hi=>ZR i hi,by omega,by omega, ?_, ?_⟩
           ·have:=Z69 Z7 htab hgo hr
            rw[hcl] at this ⊢
            exact this
           ·rintro u' ob0 ⟨rfl,rfl⟩
            exact⟨rfl,Z4v h⟩
          cases e <;> first | exact hD | cases hfin
         ·cases h
        ·cases h
       ·cases h
      ·cases h
     ·cases h
    ·cases h
   | frg ts=>exact ihb _ h
   | rng _ _ _=>exact usual h
   | nxt _ _ _=>exact usual h
   | rcv _ _=>exact usual h
   | pan _=>exact usual h
   | ord _ _=>exact usual h
  | _=>exact usual h
 | _=>intro s h; cases h
theorem Z3d [CodesOf P] (Z7:DrawSound P) (htab:tab.OK P) {n:Nat}
  (hgo: ∀ bs c s out,go P tab n bs [.sc c] s=some out->sw P bs c (fun ex s1=> ∃ m,m<n/\Z2J P tab m bs [] ex s1 out) s) :
  ∀ d az ob r ob',Z3u tab (go P tab n) d az ob=some (r,ob')->CallL P d az ob fun r0 ob0=>r0=r/\ob0=ob':=by
 have hnil: ∀ {m bs:Nat} {s:St} {out:Exit × St},go P tab m bs [] s=some out->out=(.normal,s):=fun {m bs s out} h=>by
  cases m with
  | zero=>cases h
  | succ m=>rw[Zah] at h; simp only[Z1m,Option.some.injEq] at h; exact h.symm
 have hres: ∀ {m bs:Nat} {ex:Exit} {s:St} {out:Exit × St},Z2J P tab m bs [] ex s out->out=(ex,s):=fun {m bs ex s out} h=>by
  cases ex <;> simp only[Z2J,Z0X] at h
  ·exact hnil h
  ·exact h
  ·exact h
 intro d az ob r ob' h
 unfold Z3u at h
 split at h
 ·rename_i f first caps
  split at h
  ·rename_i x hC
   cases h
   obtain⟨hp,hc⟩:=htab.C f _ ob r ob' hC
   exact hc.split hp
  ·split at h
   ·rename_i N sc rs hT
    obtain⟨hf,hp⟩:=htab.T f N sc rs hT
    split at h
    ·rename_i hlen
     split at h
     ·exact CallL.fnD Z7 hf hp (Obs.top ob) (Nat.le_refl _) hlen (Z6a Z7 htab (fun bs c s out hg=>ZK (hgo _ _ _ _ hg) fun ex s1 ⟨m,_,hr⟩=>hres hr) _ _ h)
     split at h
     ·rename_i e s hg
      split at h
      ·rename_i hfin
       split at h
       ·rename_i ds hds
        simp only[Option.some.injEq,Prod.mk.injEq] at h
        obtain⟨rfl,rfl⟩:=h
        refine CallL.fn Z7 hf hp (Obs.top ob) (Nat.le_refl _) hlen (ZK (hgo _ _ _ _ hg) fun ex s1 ⟨m,_,hr⟩=> ?_)
        have:=hres hr
        simp only[Prod.mk.injEq] at this
        obtain⟨rfl,rfl⟩:=this
        cases e <;> first | exact⟨ds,hds,rfl,rfl⟩ | cases hfin
       ·cases h
      ·cases h
     ·cases h
    ·cases h
   ·cases h
 ·rename_i rid
  split at h
  ·rename_i ps a b N keys ds hrec
   split at h
   ·rename_i hc
    split at h
    ·rename_i s1 hg1
     split at h
     ·rename_i e s2 hg2
      split at h
      ·rename_i pend hpe
       split at h
       ·rename_i hn
        simp only[Option.some.injEq,Prod.mk.injEq] at h
        obtain⟨rfl,rfl⟩:=h
        refine CallL.yld Z7 (Obs.top ob) (Nat.le_refl _) hrec hc.1 (fun t ht=>by simpa using List.all_eq_true.1 hc.2 t ht) (ZK (hgo _ _ _ _ hg1) fun ex s ⟨m,_,hr⟩=> ?_)
        have:=hres hr
        simp only[Prod.mk.injEq] at this
        obtain⟨rfl,rfl⟩:=this
        refine ZK (hgo _ _ _ _ hg2) fun ex s ⟨m,_,hr⟩=> ?_
        have:=hres hr
        simp only[Prod.mk.injEq] at this
        obtain⟨rfl,rfl⟩:=this
        refine⟨by simpa using hn, ?_⟩
        cases e <;> simp only[Zc6,Option.some.injEq,reduceCtorEq] at hpe <;> (subst hpe; exact⟨rfl,rfl⟩)
       ·cases h
      ·cases h
     ·cases h
    ·cases h
   ·cases h
  ·cases h
 ·cases h
theorem Z5a {g:GoF} (htab:tab.OK P) (hpf: ∀ f,(tab.T f).isSome=true->QE P f=true) (hcl: ∀ d az ob r ob',Z3u tab g d az ob=some (r,ob')->CallL P d az ob fun r0 ob0=>r0=r/\ob0=ob') :
  ∀ f az r,fnE tab g f az=some r->FnOK P f az r:=by
 intro f az r h
 unfold fnE at h
 split at h
 ·rename_i r0 hF
  cases h
  exact htab.F _ _ _ hF
 split at h
 ·rename_i r0 ob hc
  have hp:QE P f=true:=by
   unfold Z3u at hc
   simp only at hc
   split at hc
   ·rename_i x hC; exact (htab.C f _ _ x.1 x.2 hC).1
   ·split at hc
    ·rename_i N sc rs hT; exact (htab.T f N sc rs hT).2
    ·cases hc
  refine FnOK.of_call hp ((hcl _ _ _ _ _ hc).mono ?_)
  rintro r1 ob1 ⟨rfl,rfl⟩
  unfold retE at h
  split at h
  ·rename_i id
   split at h
   ·rename_i sz e es hl
    cases h
    exact .inl ⟨id,sz,e,es,rfl,hl,rfl⟩
   ·cases h
  ·split at h
   ·rename_i hclo
    cases h
    exact .inr ⟨hclo,rfl⟩
   ·cases h
 ·cases h
theorem Zcq [CodesOf P] (Z7:DrawSound P) (htab:tab.OK P): ∀ (n bs:Nat) (c:SC) (K:List Fr) (s:St) (out:Exit × St),go P tab n bs (.sc c::K) s=some out->sw P bs c (fun ex s1=> ∃ m,m<n/\Z2J P tab m bs K ex s1 out) s:=by
 intro n
 induction n using Nat.strongRecOn with
 | _ n ih =>
  intro bs c K s out h
  cases n with
  | zero=>cases h
  | succ n =>
   have hcl:=Z3d (n:=n) Z7 htab fun bs c s out h=>ih n (Nat.lt_succ_self n) bs c [] s out h
   have hfn:=Z5a (g:=go P tab n) htab (fun f hf=>by
    obtain⟨x,hx⟩:=Option.isSome_iff_exists.1 hf
    exact (htab.T f x.1 x.2.1 x.2.2 hx).2) hcl
   rw[Zah] at h
   cases c with
   | spec k =>
    cases k with
    | frg ts=>exact⟨n,Nat.lt_succ_self n,h⟩
    | pan ops =>
     simp only[Z1m] at h
     split at h
     ·rename_i s' ho
      exact Z6S (Z0o hfn hcl ho ⟨n,Nat.lt_succ_self n,h⟩)
     ·cases h
    | _=>cases h
   | skip=>exact⟨n,Nat.lt_succ_self n,h⟩
   | ret=>simp only[Z1m,Option.some.injEq] at h; exact⟨n,Nat.lt_succ_self n,h.symm⟩
   | exit i =>
    refine⟨n,Nat.lt_succ_self n, ?_⟩
    simp only[Z1m] at h
    simp only[Z2J]
    split at h
    ·exact h
    ·simp only[Option.some.injEq] at h; exact h.symm
   | reg ops =>
    simp only[Z1m] at h
    split at h
    ·rename_i s' ho
     exact Z0o hfn hcl ho ⟨n,Nat.lt_succ_self n,h⟩
    ·cases h
   | drw pre ops =>
    simp only[Z1m] at h
    split at h
    ·rename_i es s' ho
     split at h
     ·rename_i hd
      exact⟨es,s',Z3U hfn hcl ho,hd,n,Nat.lt_succ_self n,h⟩
     ·cases h
    ·cases h
   | seq a b =>
    show sw P bs a (thenS (sw P bs b _) _) s
    refine ZK (ih n (Nat.lt_succ_self n) bs a _ s out h) fun ex s1 ⟨m,hm,hr⟩=> ?_
    cases ex <;> simp only[thenS]
    ·exact ZK (ih m (by omega) bs b K s1 out hr) fun ex s2 ⟨m',hm',hr'⟩=>⟨m',by omega,hr'⟩
    ·exact⟨m,by omega,hr⟩
    ·exact hr.elim
    ·exact⟨m,by omega,hr⟩
    all_goals exact hr.elim
   | cond x a b =>
    simp only[Z1m] at h
    simp only[sw]
    split at h
    ·rename_i t hx
     rw[hx]
     simp only
     cases t
     ·rw[if_neg (by simp)]
      exact ZK (ih n (Nat.lt_succ_self n) bs b K s out h) fun ex s1 ⟨m,hm,hr⟩=>⟨m,by omega,hr⟩
     ·rw[if_pos rfl]
      exact ZK (ih n (Nat.lt_succ_self n) bs a K s out h) fun ex s1 ⟨m,hm,hr⟩=>⟨m,by omega,hr⟩
    ·cases h
   | block id c =>
    show sw P bs c (Z0y id _) s
    refine ZK (ih n (Nat.lt_succ_self n) bs c _ s out h) fun ex s1 ⟨m,hm,hr⟩=> ?_
    cases ex <;> simp only[Z0y]
    ·cases m with
     | zero=>cases hr
     | succ m=>exact⟨m,by omega,hr⟩
    ·rename_i i
     simp only[Z2J,Z0X] at hr
     split
     ·rename_i hi; rw[if_pos hi] at hr; exact⟨m,by omega,hr⟩
     ·rename_i hi; rw[if_neg hi] at hr; exact⟨m,by omega,hr⟩
    ·exact hr.elim
    ·exact⟨m,by omega,hr⟩
    all_goals exact hr.elim
   | loop ts c =>
    refine⟨ts,fun k s'=>k<=n/\go P tab k bs (.sc c:: .sc (.loop ts c)::K) s'=some out,⟨n,Nat.le_refl _,h⟩,fun k s' hk=> ?_⟩
    refine ZK (ih k (by omega) bs c _ s' out hk.2) fun ex s1 ⟨m,hm,hr⟩=> ?_
    cases ex <;> simp only[thenS]
    ·cases m with
     | zero=>cases hr
     | succ m=>exact⟨m,by omega,by omega,hr⟩
    ·exact⟨m,by omega,hr⟩
    ·exact hr.elim
    ·exact⟨m,by omega,hr⟩
    all_goals exact hr.elim
   | rangeF N g ps a b =>
    simp only[Z1m] at h
    split at h
    ·rename_i f fa fc hg
     split at h
     ·rename_i hc
      split at h
      ·rename_i r ob' hcall
       split at h
       ·cases h
       rename_i hpn
       split at h
       ·rename_i st pend _ _ _ _ _ _ hl
        split at h
        ·cases h
        ·rename_i hst
         obtain⟨x,hx⟩:=Option.isSome_iff_exists.1 hc.2
         refine⟨_,_,Zx hc.1,fun i hi=>ZR (s:=⟨s.tm,rngS P s (s.nx bs) N ps a b⟩) i hi,⟨f,fa,fc,hg,(htab.T f x.1 x.2.1 x.2.2 hx).2⟩,hcl _ _ _ _ _ hcall, ?_⟩
         rintro r0 ob0 ⟨rfl,rfl⟩
         refine .inr ⟨by simpa using hpn,st,pend,_,_,_,_,_,_,hl,hst, ?_⟩
         split at h
         ·exact⟨n,Nat.lt_succ_self n,h⟩
         ·simp only[Option.some.injEq] at h; exact⟨n,Nat.lt_succ_self n,h.symm⟩
         ·refine⟨n,Nat.lt_succ_self n, ?_⟩
          simp only[Z2J]
          split at h
          ·exact h
          ·simp only[Option.some.injEq] at h; exact h.symm
         ·cases h
       ·cases h
      ·cases h
     ·cases h
    ·cases h
theorem ZcG [CodesOf P] (Z7:DrawSound P) (htab:tab.OK P) (n:Nat) {d:D} {az:List D} {ob:Obs} {r:D} {ob':Obs} (h:Z3u tab (go P tab n) d az ob=some (r,ob')):CallL P d az ob fun r0 ob0=>r0=r/\ob0=ob' :=
 Z3d Z7 htab (fun bs c s out h=>Zcq Z7 htab n bs c [] s out h) d az ob r ob' h
theorem Zak [CodesOf P] (Z7:DrawSound P) (htab:tab.OK P) (n:Nat) {f:FuncId} {az:List D} {r:D} (h:fnE tab (go P tab n) f az=some r):FnOK P f az r :=
 Z5a htab (fun f hf=>by
    obtain⟨x,hx⟩:=Option.isSome_iff_exists.1 hf
    exact (htab.T f x.1 x.2.1 x.2.2 hx).2) (fun _ _ _ _ _ h=>ZcG Z7 htab n h) f az r h
end
end Go.Sx
namespace Go.Sx
open Go.RowKit
variable [Globs] [Codes]
variable {P:Program} {f:FuncId}
/- CONTRACTS OF LIBRARY FUNCTIONS,TURNED INTO THIS LAYER's. -/
theorem FnOK.quiet {args:List D} {r:D} (hr: ∀ sz e es,r≠ .own sz e es)
  (hc: ∀ (φ:Mem) (h:Nat->Value) (w:World) (vs:Array Value),GlobC φ w (fun _=>False)->Sub φ w->RVL φ h vs.toList args →
   Calls P f vs w fun e w'=> ∃ v,e= .returned v/\(∀ h',RV φ h' v r)/\Below w.heap.size w w'):FnOK P f args r:=by
 intro φ h w vs hone hgl hsub hsz hargs
 have hvs:RVL φ h vs.toList args:=ZB _ _ (by simpa using hsz) fun j d hd=>by have:=hargs j d hd; simpa [Array.getD_eq_getD_getElem?,List.getD] using this
 refine (hc φ h w vs hgl hsub hvs).mono ?_
 rintro e w' ⟨v,rfl,hrv,hb⟩
 refine⟨v,φ,rfl, ?_,hb,fun _ _ _ h=>h,fun b o u hu=> ?_,fun b o u h1 h2=>by rw[h1] at h2; cases h2⟩
 ·cases r with
  | own sz e es=>exact absurd rfl (hr sz e es)
  | _=>exact hrv
 ·have hlt:b<w.heap.size:=Sub.lt (w:=w) hsub hu
  have:=hb.cell (p:=⟨b,o,none⟩) hlt
  rw[this]
  exact hsub b o u hu
theorem vs1 {φ:Mem} {h:Nat->Value} {vs:Array Value} {a:D} (hv:RVL φ h vs.toList [a]): ∃ v,vs= #[v]/\RV φ h v a:=by
 match hl:vs.toList,hv with
 | [v],hv=>exact⟨v,by rw[<- hl],hv.1⟩
 | [],hv=>exact hv.elim
 | _::_::_,hv=>exact hv.2.elim
theorem vs2 {φ:Mem} {h:Nat->Value} {vs:Array Value} {a b:D} (hv:RVL φ h vs.toList [a,b]): ∃ u v,vs= #[u,v]/\RV φ h u a/\RV φ h v b:=by
 match hl:vs.toList,hv with
 | [u,v],hv=>exact⟨u,v,by rw[<- hl],hv.1,hv.2.1⟩
 | [],hv=>exact hv.elim
 | [_],hv=>exact hv.2.elim
 | _::_::_::_,hv=>exact hv.2.2.elim
theorem FnOK.indexByte (H: ∀ (s:ByteArray) (c:Int) (w:World),Calls P f #[.string s,.int .u8 c] w fun e w'=>e= .returned (.int .i64 (Lib.indexByte s.data.toList c.toNat.toUInt8))/\w'=w) (s:List UInt8) (n:Int) :
  FnOK P f [.str s,.int .u8 n] (.int .i64 (Lib.indexByte s (UInt8.ofNat n.toNat))):=by
 refine FnOK.quiet (by intros; simp) fun φ h w vs hgl hsub hv=> ?_
 obtain⟨u,v,rfl,hu,hv⟩:=vs2 hv
 rw[hu.str_inv,hv.int_inv]
 refine (H ⟨s.toArray⟩ n w).mono ?_
 rintro e w' ⟨rfl,rfl⟩
 exact⟨_,rfl,fun h'=> .pure (.int _ _),Below.refl _ _⟩
theorem FnOK.contains {g:Nat} (hI:Globs.I g=true) (H: ∀ (s sub:ByteArray) (m:Int) (w:World),s.size<4294967281->w.cell? ⟨g,0,none⟩=some (.int .i64 m)->Calls P f #[.string s,.string sub] w fun e w'=>e= .returned (.bool (Lib.contains s.data.toList sub.data.toList))/\w'=w)
  (s sub:List UInt8) (hs:s.length<4294967281):FnOK P f [.str s,.str sub] (.bool (Lib.contains s sub)):=by
 refine FnOK.quiet (by intros; simp) fun φ h w vs hgl hsub hv=> ?_
 obtain⟨u,v,rfl,hu,hv⟩:=vs2 hv
 rw[hu.str_inv,hv.str_inv]
 obtain⟨⟨arr,ty,fr,m,h1,h2⟩,_⟩:=hgl.i g hI
 refine (H ⟨s.toArray⟩ ⟨sub.toArray⟩ m w (by simpa [ByteArray.size] using hs) (by simp[World.cell?,h1,h2])).mono ?_
 rintro e w' ⟨rfl,rfl⟩
 exact⟨_,rfl,fun h'=> .pure (.bool _),Below.refl _ _⟩
theorem FnOK.strcmp (H: ∀ (a b:ByteArray) (w:World),Calls P f #[.string a,.string b] w fun e w'=>e= .returned (.int .i64 (Lib.compareBytes a.data.toList b.data.toList))/\w'=w) (a b:List UInt8) :
  FnOK P f [.str a,.str b] (.int .i64 (Lib.compareBytes a b)):=by
 refine FnOK.quiet (by intros; simp) fun φ h w vs hgl hsub hv=> ?_
 obtain⟨u,v,rfl,hu,hv⟩:=vs2 hv
 rw[hu.str_inv,hv.str_inv]
 refine (H ⟨a.toArray⟩ ⟨b.toArray⟩ w).mono ?_
 rintro e w' ⟨rfl,rfl⟩
 exact⟨_,rfl,fun h'=> .pure (.int _ _),Below.refl _ _⟩
theorem FnOK.atoiOK (s:List UInt8) (n:Int) (H: ∀ w:World,Calls P f #[.string ⟨s.toArray⟩] w fun e w'=>e= .returned (.tuple #[.int .i64 n,.nilIface])/\(w'=w\/ ∃ (b:TypeId) (t:ByteArray),w'=Lib.bytesWorld w b t)) :
  FnOK P f [.str s] (.tuple [.int .i64 n,.raw .nilIface]):=by
 refine FnOK.quiet (by intros; simp) fun φ h w vs hgl hsub hv=> ?_
 obtain⟨u,rfl,hu⟩:=vs1 hv
 rw[hu.str_inv]
 refine (H w).mono ?_
 rintro e w' ⟨rfl,hw⟩
 refine⟨_,rfl,fun h'=> .tuple _ _ rfl fun j d hd=> ?_, ?_⟩
 ·match j with
  | 0=>simp at hd; subst hd; exact .pure (.int _ _)
  | 1=>simp at hd; subst hd; exact .pure (.raw _ rfl)
  | j+2=>simp at hd
 ·rcases hw with rfl | ⟨b,t,rfl⟩
  ·exact Below.refl _ _
  ·exact Lib.bytesWorld_below w b t
theorem FnOK.atoiNo {g:Nat} (hG:Globs.G g=some [.ifc]) (s:List UInt8) (n:Int) (H: ∀ (ev:Value) (w:World) (hv:w.cell? ⟨g,0,none⟩=some ev) (hev:ev= .nilIface\/ ∃ te pe,ev= .iface te pe),
   Calls P f #[.string ⟨s.toArray⟩] w fun e w'=> ∃ (t:TypeId) (N:Nat),e= .returned (.tuple #[.int .i64 n,.iface t (.pointer (some ⟨N,0,none⟩))])/\Below w.heap.size w w'):FnOK P f [.str s] (.tuple [.int .i64 n,.ifc]):=by
 refine FnOK.quiet (by intros; simp) fun φ h w vs hgl hsub hv=> ?_
 obtain⟨u,rfl,hu⟩:=vs1 hv
 rw[hu.str_inv]
 obtain⟨b,o,vals,he,hm,hr⟩:=(hgl.ok g _ hG).fptr_inv
 simp only[Value.pointer.injEq,Option.some.injEq,Addr.mk.injEq,and_true] at he
 obtain⟨rfl,rfl⟩:=he
 have hc:=hsub _ _ _ (hm 0 .ifc rfl)
 obtain⟨te,pe,hi⟩:=(RV.pure (h:=h) (hr 0 .ifc rfl)).ifc_inv
 refine (H _ w hc (.inr ⟨te,pe,hi⟩)).mono ?_
 rintro e w' ⟨t,N,rfl,hb⟩
 refine⟨_,rfl,fun h'=> .tuple _ _ rfl fun j d hd=> ?_,hb⟩
 match j with
 | 0=>simp at hd; subst hd; exact .pure (.int _ _)
 | 1=>simp at hd; subst hd; exact .pure (.ifc _ _)
 | j+2=>simp at hd
theorem FnOK.itoa {g:Nat} {name:String} (hX:Globs.X g=some (Lib.pow10Tab.map fun z=>Value.int .u64 z).toArray) (hn:P.globalNamed name=some g)
  (H: ∀ (n:Int) (h0: -9223372036854775808<=n) (h1:n<=9223372036854775807) (w:World) (htab:Lib.TabIs P w name .u64 Lib.pow10Tab),Calls P f #[.int .i64 n] w fun e w'=>e= .returned (.string ⟨(Lib.itoa n).toArray⟩)/\ ∃ k os,w'=Sort.grow (w.drewN k) os)
  (n:Int) (h0: -9223372036854775808<=n) (h1:n<=9223372036854775807):FnOK P f [.int .i64 n] (.str (Lib.itoa n)):=by
 refine FnOK.quiet (by intros; simp) fun φ h w vs hgl hsub hv=> ?_
 obtain⟨u,rfl,hu⟩:=vs1 hv
 rw[hu.int_inv]
 obtain⟨⟨ty,fr,hh⟩,_⟩:=hgl.x g _ hX
 have htab:Lib.TabIs P w name .u64 Lib.pow10Tab:=by
  unfold Lib.TabIs World.var?
  rw[hn]
  simp only[Option.bind_some,hh]
 refine (H n h0 h1 w htab).mono ?_
 rintro e w' ⟨rfl,k,os,rfl⟩
 refine⟨_,rfl,fun h'=> .pure (.str _), ?_⟩
 refine⟨rfl,rfl,rfl,by simp[Sort.grow],fun i hi=> ?_⟩
 show ((w.drewN k).heap++os)[i]? = _
 rw[Array.getElem?_append_left (by show i<w.heap.size; omega)]
 rfl
theorem FnOK.join (H0: ∀ (a:Option Addr) (c:Nat) (sep:ByteArray) (w:World),Calls P f #[.slice a 0 c,.string sep] w fun e w'=>e= .returned (.string ⟨#[]⟩)/\w'=w)
  (H: ∀ (bk o c:Nat) (xs:List ByteArray) (sep:ByteArray) (w:World) (hcells: ∀ (j:Nat) x,xs[j]? = some x->w.cell? ⟨bk,o+j,none⟩=some (.string x)) (hbk:bk<w.heap.size) (hN:xs.length<=140737488355328) (hcap:xs.length<=c) (hlen:(Lib.join (xs.map (·.data.toList)) sep.data.toList).length<=140737488355328),
   Calls P f #[.slice (some ⟨bk,o,none⟩) xs.length c,.string sep] w fun e w'=>e= .returned (.string ⟨(Lib.join (xs.map (·.data.toList)) sep.data.toList).toArray⟩)/\Below w.heap.size w w')
  (ts:List (List UInt8)) (ext:List (List D)) (sep:List UInt8) (hn:ts.length<=140737488355328) (hj:(Lib.join ts sep).length<=140737488355328) :
  FnOK P f [.slice (ts.map fun t=>[.str t]) ext,.str sep] (.str (Lib.join ts sep)):=by
 refine FnOK.quiet (by intros; simp) fun φ h w vs hgl hsub hv=> ?_
 obtain⟨u,v,rfl,hu,hv⟩:=vs2 hv
 rw[hv.str_inv]
 have hnone: ∀ a c,ts=[]->Calls P f #[.slice a 0 c,.string ⟨sep.toArray⟩] w fun e w'=> ∃ v,e= .returned v/\(∀ h',RV φ h' v (.str (Lib.join ts sep)))/\Below w.heap.size w w':=by
  rintro a c rfl
  refine (H0 a c ⟨sep.toArray⟩ w).mono ?_
  rintro e w' ⟨rfl,rfl⟩
  exact⟨_,rfl,fun h'=>by rw[Lib.join_nil]; exact .pure (.str []),Below.refl _ _⟩
 rcases hu.slice_inv.slice_inv with ⟨⟨a,c,rfl,_⟩,he,_⟩ | ⟨b,off,cap,sz,vals,rfl,hcap,hsz,hmem,hrep⟩
 ·exact hnone a c (by simpa using he)
 ·cases hts:ts with
  | nil=>rw[<- hts]; simpa [hts] using hnone (some ⟨b,off,none⟩) cap hts
  | cons t0 tr =>
   have hsz1:sz=1:=by have:=hsz [.str t0] (by simp[hts]); simpa using this.symm
   subst hsz1
   have hcell: ∀ (j:Nat) (t:List UInt8),ts[j]? = some t->w.cell? ⟨b,off+j,none⟩=some (.string ⟨t.toArray⟩):=fun j t ht=>by
    have hjl:j<ts.length:=by
     rcases Nat.lt_or_ge j ts.length with h | h
     ·exact h
     ·rw[List.getElem?_eq_none h] at ht; cases ht
    have h1:((ts.map fun t=>([.str t]:List D))++ext)[j]? = some [.str t]:=by
     rw[List.getElem?_append_left (by simpa using hjl)]; simp[ht]
    have h2:=hsub _ _ _ (hmem j _ 0 _ h1 rfl)
    have h3:=(RV.pure (h:=h) (hrep j _ 0 _ h1 rfl)).str_inv
    rw[h3] at h2
    simpa using h2
   have hb:b<w.heap.size:=World.block_lt_of_cell? _ _ (hcell 0 t0 (by simp[hts]))
   have hm:(ts.map fun t=>(⟨t.toArray⟩:ByteArray)).map (·.data.toList)=ts:=by simp[List.map_map,Function.comp_def]
   have:=H b off cap (ts.map fun t=>⟨t.toArray⟩) ⟨sep.toArray⟩ w (fun j x hx=>by
     simp only[List.getElem?_map,Option.map_eq_some_iff] at hx
     obtain⟨t,ht,rfl⟩:=hx
     exact hcell j t ht) hb (by simpa using hn) (by simp at hcap ⊢; omega) (by rw[hm]; exact hj)
   rw[hm] at this
   rw[<- hts]
   simp only[List.length_map] at this ⊢
   refine this.mono ?_
   rintro e w' ⟨rfl,hbel⟩
   exact⟨_,rfl,fun h'=> .pure (.str _),hbel⟩
theorem FnOK.fields {g:Nat} {ty:TypeId} {cs:List D} (hG:Globs.G g=some cs) (hcs: ∀ c:Nat,c<256->cs[c]? = some (.int .u8 (if Lib.isSp (UInt8.ofNat c) then 1 else 0)))
  (H: ∀ (s:ByteArray) (w:World) (hs:s.size<4294967281) (hascii: ∀ (j:Nat) b,s.data.toList[j]? = some b->b.toNat<128)
   (hT: ∀ c:Nat,c<256->w.cell? ⟨g,c,none⟩=some (.int .u8 (if Lib.isSp (UInt8.ofNat c) then 1 else 0))),
   Calls P f #[.string s] w fun e w' =>
    e= .returned (.slice (some ⟨w.heap.size,0,none⟩) (Lib.fields s.data.toList).length (Lib.fields s.data.toList).length)/\w'=w.alloc (.cells ((Lib.fields s.data.toList).map fun l=>Value.string ⟨l.toArray⟩).toArray ty))
  (s:List UInt8) (hs:s.length<4294967281) (ha: ∀ b∈s,b.toNat<128):FnOK P f [.str s] (.slice ((Lib.fields s).map fun x=>[.str x]) []):=by
 intro φ h w vs hone hgl hsub hsz hargs
 have hvs:RVL φ h vs.toList [.str s]:=ZB _ _ (by simpa using hsz) fun j d hd=>by have:=hargs j d hd; simpa [Array.getD_eq_getD_getElem?,List.getD] using this
 obtain⟨u,rfl,hu⟩:=vs1 hvs
 rw[hu.str_inv]
 obtain⟨b,o,vals,he,hm,hr⟩:=(hgl.ok g _ hG).fptr_inv
 simp only[Value.pointer.injEq,Option.some.injEq,Addr.mk.injEq,and_true] at he
 obtain⟨rfl,rfl⟩:=he
 have hT: ∀ c:Nat,c<256->w.cell? ⟨g,c,none⟩=some (.int .u8 (if Lib.isSp (UInt8.ofNat c) then 1 else 0)):=fun c hc=>by
  have h1:=hm c _ (hcs c hc)
  have h2:=(RV.pure (h:=h) (hr c _ (hcs c hc))).int_inv
  rw[h2] at h1
  simpa using hsub _ _ _ h1
 refine (H ⟨s.toArray⟩ w (by simpa [ByteArray.size] using hs) (fun j b hb=>ha b (List.mem_of_getElem? (by simpa using hb))) hT).mono ?_
 rintro e w' ⟨rfl,rfl⟩
 simp only
 have hB:=(Below.refl w.heap.size w).alloc (Nat.le_refl _) (.cells ((Lib.fields s).map fun l=>Value.string ⟨l.toArray⟩).toArray ty)
 have hold: ∀ b o u,φ b o=some u->b<w.heap.size:=fun b o u hu=>Sub.lt (w:=w) hsub hu
 refine⟨_,fun b o=>if b=w.heap.size then (if o<(Lib.fields s).length then some (.string ⟨((Lib.fields s).getD o []).toArray⟩) else none) else φ b o,rfl,fun h'=> .pure ?_,hB, ?_, ?_, ?_⟩
 ·have hl:(Lib.fields s).length=((Lib.fields s).map fun x=>([.str x]:List D)).length:=by simp
  conv=>lhs; rw[hl]
  have key: ∀ i (e:List D) j d,(((Lib.fields s).map fun x=>([.str x]:List D))++[])[i]? = some e->e[j]? = some d->j=0/\i<(Lib.fields s).length/\d= .str ((Lib.fields s).getD i []):=by
   intro i e j d he hd
   simp only[List.append_nil,List.getElem?_map,Option.map_eq_some_iff] at he
   obtain⟨x,hx,rfl⟩:=he
   have hj:j=0:=by
    cases j with
    | zero=>rfl
    | succ j=>simp at hd
   subst hj
   simp at hd
   subst hd
   have:i<(Lib.fields s).length:=by
    rcases Nat.lt_or_ge i (Lib.fields s).length with h | h
    ·exact h
    ·rw[List.getElem?_eq_none h] at hx; cases hx
   exact⟨rfl,this,by simp[hx]⟩
  refine .slice w.heap.size 0 _ 1 _ _ (fun i _=> .string ⟨((Lib.fields s).getD i []).toArray⟩) (by simp) (fun e he=> ?_) (fun i e j d he hd=> ?_) (fun i e j d he hd=> ?_)
  ·simp only[List.append_nil,List.mem_map] at he
   obtain⟨x,_,rfl⟩:=he; rfl
  ·obtain⟨rfl,hi,rfl⟩:=key i e j d he hd
   simp[hi]
  ·obtain⟨rfl,hi,rfl⟩:=key i e j d he hd
   exact .str _
 ·intro b o u hu
  have:=hold b o u hu
  simp only
  rw[if_neg (by omega)]
  exact hu
 ·intro b o u hu
  simp only at hu
  split at hu
  ·rename_i hb
   split at hu
   ·rename_i ho
    cases hu
    subst hb
    rw[World.cell?_alloc_new]
    simp[List.getD,ho]
   ·cases hu
  ·rw[World.cell?_alloc_lt _ _ _ (hold b o u hu)]
   exact hsub b o u hu
 ·intro b o u hu hn
  simp only at hu
  split at hu
  ·omega
  ·rw[hu] at hn; cases hn
end Go.Sx
namespace Go.Sx
open Go.RowKit Go.Deep
/- WHAT COMES IN: a value that a row's reading goes through,as plain data. -/
inductive Sh where
 | bool
 | int (k:IntKind)
 | str
 | slice (e:List Sh)
mutual
def Sh.fit (B:Nat):Sh->D->Prop
 | .bool,d=> ∃ b,d= .bool b
 | .int k,d=> ∃ n,d= .int k n/\(Lit.int k n).wf=true
 | .str,d=> ∃ s,d= .str s/\s.length<=B
 | .slice l,d=> ∃ es,d= .slice es []/\es.length<=B/\ ∀ e,e∈es->Sh.fits B l e
def Sh.fits (B:Nat):List Sh->List D->Prop
 | [],ds=>ds=[]
 | s::r,ds=> ∃ d t,ds=d::t/\Sh.fit B s d/\Sh.fits B r t
end
def fsh (P:Program) (sh:TypeId->Option (List Sh)):List Field->Nat->Option (List Sh)
 | [],_=>some []
 | f::r,off=>if f.offset=off then match sh f.type with
  | some l=>if l.length=P.cellsOf f.type then match fsh P sh r (off+l.length) with
   | some m=>some (l++m)
   | none=>none
   else none
  | none=>none
  else none
def shOf (P:Program):Nat->TypeId->Option (List Sh)
 | 0,_=>none
 | n+1,t=>match P.underlying t with
  | some .bool=>some [.bool]
  | some (.int k)=>some [.int k]
  | some .string=>some [.str]
  | some (.slice e)=>if 0<P.bytesOf e then match shOf P n e with
   | some l=>if l.length=P.cellsOf e/\0<l.length then some [.slice l] else none
   | none=>none
   else none
  | some (.struct fs)=>match fsh P (shOf P n) fs.toList 0 with
   | some l=>if l.length=P.cellsOf t then some l else none
   | none=>none
  | _=>none
theorem Z7o {B:Nat}: ∀ {l:List Sh} {ds:List D},Sh.fits B l ds->ds.length=l.length
 | [],ds,h=>by simp only[Sh.fits] at h; simp[h]
 | s::r,ds,h=>by
  simp only[Sh.fits] at h
  obtain⟨d,t,rfl,_,h2⟩:=h
  simp[Z7o h2]
theorem Z32 {B:Nat}: ∀ {l m:List Sh} {ds es:List D},Sh.fits B l ds->Sh.fits B m es->Sh.fits B (l++m) (ds++es)
 | [],m,ds,es,h,k=>by simp only[Sh.fits] at h; simpa [h] using k
 | s::r,m,ds,es,h,k=>by
  simp only[Sh.fits] at h
  obtain⟨d,t,rfl,h1,h2⟩:=h
  simp only[List.cons_append,Sh.fits]
  exact⟨d,t++es,rfl,h1,Z32 h2 k⟩
def memW (w:World):Mem:=fun b o=>w.cell? ⟨b,o,none⟩
def CRp (φ:Mem) (cs:List Value) (ds:List D):Prop:=cs.length=ds.length/\ ∀ (j:Nat) (v:Value) (d:D),cs[j]? = some v->ds[j]? = some d->Rep φ v d
theorem CRp.append {φ:Mem} {a b:List Value} {d e:List D} (h:CRp φ a d) (k:CRp φ b e):CRp φ (a++b) (d++e):=by
 refine⟨by simp[h.1,k.1],fun j v x hv hx=> ?_⟩
 rcases Nat.lt_or_ge j a.length with hj | hj
 ·rw[List.getElem?_append_left hj] at hv
  rw[List.getElem?_append_left (by rw[<- h.1]; exact hj)] at hx
  exact h.2 j v x hv hx
 ·rw[List.getElem?_append_right hj] at hv
  rw[List.getElem?_append_right (by rw[<- h.1]; exact hj),<- h.1] at hx
  exact k.2 _ v x hv hx
theorem addP (b off n:Nat):Addr.add ⟨b,off,none⟩ n=⟨b,off+n,none⟩:=by
 unfold Addr.add
 split
 ·rename_i h; subst h; rfl
 ·rfl
def Zlk (v:Value):Prop:= ∀ a n c,v= .slice (some a) n c->a.spot=none
variable {H:Type} {enc:TypeId × Value->H} {P:Program} {w:World}
def wOK (B:Nat) (l:List Nat):Prop:= ∀ x∈l,x<=B
theorem Z5T (B:Nat): ∀ (n fuel:Nat) (t:TypeId) (cs:List Value) (x:DataW H × List MemPlace) (l:List Sh),shOf P n t=some l →
  DataW.trod enc P w 0 (fun _=>true) true fuel t cs=some x->wOK B (x.1.weights P t)-> ∃ ds,Sh.fits B l ds/\CRp (memW w) cs ds
 | 0,_,_,_,_,_,h,_,_=>by simp[shOf] at h
 | n+1,fuel,t,cs,x,l,h,ht,hw=>by
  unfold shOf at h
  split at h
  ·rename_i hu
   cases h
   obtain⟨b,rfl,_⟩:=DataW.trod_bool hu ht
   exact⟨[.bool b],⟨_,_,rfl,⟨b,rfl⟩,rfl⟩,rfl,fun j v d hv hd=>by
    cases j with
    | zero=>simp at hv hd; subst hv; subst hd; exact .bool b
    | succ j=>simp at hv⟩
  ·rename_i k hu
   cases h
   obtain⟨m,rfl,_,hwf⟩:=DataW.trod_int hu ht
   exact⟨[.int k m],⟨_,_,rfl,⟨m,rfl,hwf⟩,rfl⟩,rfl,fun j v d hv hd=>by
    cases j with
    | zero=>simp at hv hd; subst hv; subst hd; exact .int k m
    | succ j=>simp at hv⟩
  ·rename_i hu
   cases h
   obtain⟨s,rfl,rfl,_⟩:=DataW.trod_string hu ht
   refine⟨[.str s.data.toList],⟨_,_,rfl,⟨_,rfl, ?_⟩,rfl⟩,rfl,fun j v d hv hd=> ?_⟩
   ·exact hw _ (by simp[DataW.weights])
   ·cases j with
    | zero =>
     simp at hv hd; subst hv; subst hd
     have:=Rep.str (φ:=memW w) s.data.toList
     simpa using this
    | succ j=>simp at hv
  ·rename_i e hu
   split at h
   ·rename_i hby
    split at h
    ·rename_i le hle
     split at h
     ·rename_i hlen
      cases h
      rcases open_slice hu ht with ⟨rfl,rfl⟩ | ⟨a,len,cap,m,n',D',Pl,rfl,_,hlc,_,hm,rfl,hx⟩
      ·refine⟨[.slice [] []],⟨_,_,rfl,⟨[],rfl,Nat.zero_le _,fun _ h=>by cases h⟩,rfl⟩,rfl,fun j v d hv hd=> ?_⟩
       cases j with
       | zero=>simp at hv hd; subst hv; subst hd; exact .nil
       | succ j=>simp at hv
      ·by_cases hl0:len=0
       ·subst hl0
        refine⟨[.slice [] []],⟨_,_,rfl,⟨[],rfl,Nat.zero_le _,fun _ h=>by cases h⟩,rfl⟩,rfl,fun j v d hv hd=> ?_⟩
        cases j with
        | zero=>simp at hv hd; subst hv; subst hd; exact .nilA _ _
        | succ j=>simp at hv
       simp only[if_true] at hm
       subst hm
       have hspot:a.spot=none:=by
        obtain⟨cs',h1,_⟩:=hx 0 (by omega)
        obtain⟨_,hl',hc'⟩:=World.cells?_some h1
        have h3:=hc' 0 (by omega)
        rw[List.getElem?_eq_getElem (by omega)] at h3
        cases hs:a.spot with
        | none=>rfl
        | some q =>
         exfalso
         have e1:(a.add (0*P.cellsOf e)).add 0=a:=by simp[Addr.add]
         rw[e1] at h3
         unfold World.cell? at h3
         split at h3
         ·rw[hs] at h3; simp at h3
         ·cases h3
       obtain⟨b,off,spot⟩:=a
       simp only at hspot
       subst hspot
       have hwl:len<=B/\ ∀ i,i<len->wOK B ((D' i).weights P e):=by
        simp only[DataW.weights,hu] at hw
        refine⟨?_,fun i hi y hy=> ?_⟩
        ·have:=hw _ (List.mem_cons_self ..)
         simp only[List.length_map,List.length_range] at this
         have h2:len<=(len+(m-len))*P.bytesOf e:=Nat.le_trans (Nat.le_add_right _ _) (Nat.le_mul_of_pos_right _ hby)
         omega
        ·refine hw y (List.mem_cons_of_mem _ (List.mem_append_left _ ?_))
         have key: ∀ (l:List (DataW H)) (d:DataW H),d∈l-> ∀ y∈d.weights P e,y∈DataW.weightsAll P e l:=by
          intro l
          induction l with
          | nil=>intro d hd; cases hd
          | cons z r ih =>
           intro d hd y hy
           simp only[DataW.weightsAll]
           rcases List.mem_cons.1 hd with rfl | hd
           ·exact List.mem_append_left _ hy
           ·exact List.mem_append_right _ (ih d hd y hy)
         exact key _ _ (List.mem_map.2 ⟨i,List.mem_range.2 hi,rfl⟩) y hy
       have hone: ∀ i,i<len-> ∃ ds,Sh.fits B le ds/\ ∃ cs',w.cells? 0 (Addr.add ⟨b,off,none⟩ (i*P.cellsOf e)) (P.cellsOf e)=some cs'/\CRp (memW w) cs' ds:=fun i hi=>by
        obtain⟨cs',h1,h2⟩:=hx i (by omega)
        obtain⟨ds,h3,h4⟩:=Z5T B n n' e cs' _ le hle h2 (hwl.2 i hi)
        exact⟨ds,h3,cs',h1,h4⟩
       obtain⟨ds,hds⟩:=choose_lt (α:=List D) (p:=fun i ds=>Sh.fits B le ds/\ ∃ cs',w.cells? 0 (Addr.add ⟨b,off,none⟩ (i*P.cellsOf e)) (P.cellsOf e)=some cs'/\CRp (memW w) cs' ds) hone
       have hget: ∀ (i:Nat) (q:List D),((List.range len).map ds++[])[i]? = some q->i<len/\q=ds i:=by
        intro i q hq
        simp only[List.append_nil,List.getElem?_map,Option.map_eq_some_iff] at hq
        obtain⟨i',hi',rfl⟩:=hq
        have h1:=List.getElem?_eq_some_iff.1 hi'
        obtain⟨h2,h3⟩:=h1
        simp at h2 h3
        subst h3
        exact⟨h2,rfl⟩
       refine⟨[.slice ((List.range len).map ds) []],⟨_,_,rfl,⟨_,rfl,by simpa using hwl.1,fun q hq=> ?_⟩,rfl⟩,rfl,fun j v d hv hd=> ?_⟩
       ·obtain⟨i,hi,rfl⟩:=List.mem_map.1 hq
        exact (hds i (List.mem_range.1 hi)).1
       ·cases j with
        | succ j=>simp at hv
        | zero =>
         simp at hv hd
         subst hv; subst hd
         have hl:len=((List.range len).map ds).length:=by simp
         have hcell: ∀ i j x,i<len->(ds i)[j]? = some x-> ∃ v,w.cell? ⟨b,off+i*P.cellsOf e+j,none⟩=some v/\Rep (memW w) v x:=fun i j x hi hjx=>by
          obtain⟨_,cs',h1,h2⟩:=hds i hi
          obtain⟨_,hl',hc'⟩:=World.cells?_some h1
          have hj:j<cs'.length:=by
           rcases Nat.lt_or_ge j cs'.length with h | h
           ·exact h
           ·rw[List.getElem?_eq_none (by rw[<- h2.1]; exact h)] at hjx; cases hjx
          have h3:=hc' j (by omega)
          rw[List.getElem?_eq_getElem hj] at h3
          have h4:w.cell? ⟨b,off+i*P.cellsOf e+j,none⟩=some cs'[j]:=by rw[addP,addP] at h3; exact h3
          exact⟨_,h4,h2.2 j _ x (List.getElem?_eq_getElem hj) hjx⟩
         conv=>lhs; rw[hl]
         refine .slice b off m (P.cellsOf e) _ _ (fun i j=>(w.cell? ⟨b,off+i*P.cellsOf e+j,none⟩).getD Go.undef) (by simp; omega) (fun q hq=> ?_) (fun i q j x hq hjx=> ?_) (fun i q j x hq hjx=> ?_)
         ·simp only[List.append_nil] at hq
          obtain⟨i,hi,rfl⟩:=List.mem_map.1 hq
          rw[Z7o (hds i (List.mem_range.1 hi)).1,hlen.1]
         ·obtain⟨hi,rfl⟩:=hget i q hq
          obtain⟨v,h1,_⟩:=hcell i j x hi hjx
          show w.cell? _=_
          rw[h1]; rfl
         ·obtain⟨hi,rfl⟩:=hget i q hq
          obtain⟨v,h1,h2⟩:=hcell i j x hi hjx
          rw[h1]; exact h2
     ·cases h
    ·cases h
   ·cases h
  ·rename_i fs hu
   split at h
   ·rename_i lf hlf
    split at h
    ·rename_i hlen
     cases h
     obtain⟨xs,n',_,rfl,hcl,hxl,hx⟩:=DataW.trod_struct hu ht
     have key: ∀ (r:List Field) (i off:Nat) (m:List Sh),(∀ k f,r[k]? = some f->fs[i+k]? = some f)->fsh P (shOf P n) r off=some m->wOK B (DataW.weightsEach P (r.map (·.type)) ((xs.drop i).map (·.1))) →
       ∃ ds,Sh.fits B m ds/\((off+m.length<=cs.length)->CRp (memW w) ((cs.drop off).take m.length) ds):=by
      intro r
      induction r with
      | nil=>intro i off m _ hm _; simp only[fsh,Option.some.injEq] at hm; subst hm; exact⟨[],rfl,fun _=>⟨by simp,fun j v d hv=>by simp at hv⟩⟩
      | cons f r ih =>
       intro i off m hr hm hw'
       simp only[fsh] at hm
       split at hm
       ·rename_i hoff
        split at hm
        ·rename_i l1 hl1
         split at hm
         ·rename_i hl1c
          split at hm
          ·rename_i m1 hm1
           cases hm
           have hf:fs[i]? = some f:=by simpa using hr 0 f rfl
           have hxi:=hx i f hf
           have hil:i<xs.length:=by
            have:=(Array.getElem?_eq_some_iff.1 hf).1
            omega
           rw[List.getElem?_eq_getElem hil] at hxi
           have hdrop:xs.drop i=xs[i]::xs.drop (i+1):=List.drop_eq_getElem_cons hil
           rw[hdrop] at hw'
           simp only[List.map_cons,DataW.weightsEach] at hw'
           obtain⟨d1,hd1,hc1⟩:=Z5T B n n' f.type _ _ l1 hl1 hxi (fun y hy=>hw' y (List.mem_append_left _ hy))
           obtain⟨d2,hd2,hc2⟩:=ih (i+1) (off+l1.length) m1 (fun k g hg=>by have:=hr (k+1) g (by simpa using hg); rwa [show i+1+k=i+(k+1) by omega]) hm1 (fun y hy=>hw' y (List.mem_append_right _ hy))
           refine⟨d1++d2,Z32 hd1 hd2,fun hle=> ?_⟩
           rw[List.length_append] at hle
           have:=hc2 (by omega)
           have hsplit:(cs.drop off).take (l1++m1).length=(cs.drop off).take l1.length++(cs.drop (off+l1.length)).take m1.length:=by
            rw[List.length_append,List.take_add,List.drop_drop]
           rw[hsplit]
           rw[hoff,<- hl1c] at hc1
           exact hc1.append this
          ·cases hm
         ·cases hm
        ·cases hm
       ·cases hm
     obtain⟨ds,h1,h2⟩:=key fs.toList 0 0 l (fun k f hk=>by simpa using hk) hlf (by simpa [DataW.weights,hu] using hw)
     refine⟨ds,h1, ?_⟩
     have:=h2 (by omega)
     simpa [hlen,<- hcl] using this
    ·cases h
   ·cases h
  ·cases h
end Go.Sx
/- From a law's walk to its contract,for any parameters that are read. -/
namespace Go.Sx
open Go.RowKit Go.ChangeShapes Go.WideShapes
theorem Z8b {H:Type} {enc:TypeId × Value->H} {P:Program} {f:Func} {s:ChangeSpec} {apart fresh handsOn:Bool} {W W':World} {args:Array Value} {v:Value} {ds gs:List (DataW H)} {before pa pv:List MemPlace}
  (hW:DataW.Whole enc P f.params.toList s.vars apart W args.toList ds gs before)
  (hres: ∀ (b:Nat) (sp:Nat->Bool) (hd:Bool),DataW.TrodAll enc P W' b sp hd f.resultTypes.toList (v.resultList f.resultTypes.size) (s.fn H (ds++gs)).results [])
  (hargs:DataW.TrodAll enc P W' 0 (fun b=>decide (b<W.heap.size)) true f.params.toList args.toList (s.fn H (ds++gs)).args pa)
  (hvars:DataW.TrodVars enc P W' (fun b=>decide (b<W.heap.size)) s.vars (s.fn H (ds++gs)).vars pv)
  (hps:before=pa++pv) (hb:Below W.heap.size W W'):s.post enc P f apart fresh handsOn false W args v W':=by
 refine⟨ds,gs,before,[],pa,pv,hW,hres _ _ _,hargs,hvars,World.keptBut_mono (fun p hp=>⟨hp, ?_⟩) (hb.frame (· ∈ before)),fun h=>by cases h⟩
 rw[hps,List.mem_append] at hp
 exact Or.inr hp
variable {P:Program}
def FitA (P:Program) (B:Nat):List TypeId->List D->Prop
 | [],[]=>True
 | t::ts,a::as'=>(∃ l cs,shOf P 6 t=some l/\Sh.fits B l cs/\(if aggB P t=some true then a= .agg cs else cs=[a]))/\FitA P B ts as'
 | _,_=>False
theorem Z8c {w:World} {r:Reach} {base n:Nat} {t:TypeId} {v:Value} {l:List Sh} (hs:shOf P n t=some l) (h:Value.okWide P w r base t v) :
  (aggB P t=some true/\ ∃ cs,v= .agg cs)\/(aggB P t=some false/\v.cells= #[v]):=by
 cases n with
 | zero=>simp[shOf] at hs
 | succ n =>
  unfold shOf at hs
  unfold aggB
  unfold Value.okWide at h
  split at hs
  ·rename_i hu
   rw[hu] at h ⊢
   simp only[Cell.okWide,hu] at h
   refine .inr ⟨rfl, ?_⟩
   cases v <;> simp_all [Cell.ok,Value.cells]
  ·rename_i k hu
   rw[hu] at h ⊢
   simp only[Cell.okWide,hu] at h
   refine .inr ⟨rfl, ?_⟩
   cases v <;> simp_all [Cell.ok,Value.cells]
  ·rename_i hu
   rw[hu] at h ⊢
   simp only[Cell.okWide,hu] at h
   refine .inr ⟨rfl, ?_⟩
   cases v <;> simp_all [Cell.ok,Value.cells]
  ·rename_i e hu
   rw[hu] at h ⊢
   simp only[Cell.okWide,hu] at h
   refine .inr ⟨rfl, ?_⟩
   cases v <;> simp_all [Cell.ok,Value.cells]
  ·rename_i fs hu
   rw[hu] at h ⊢
   simp only at h
   obtain⟨cs,rfl,_⟩:=h
   exact .inl ⟨rfl,cs,rfl⟩
  ·cases hs
variable {H:Type} {enc:TypeId × Value->H} {w:World}
variable [Globs] [Codes]
theorem Z50 (B:Nat) {r:Reach} {base:Nat}: ∀ (ts:List TypeId) (vs:List Value) (ds:List (DataW H)) (ps:List MemPlace),DataW.TrodAll enc P w 0 (fun _=>true) true ts vs ds ps->wOK B (DataW.weightsEach P ts ds) →
  (∀ t∈ts,(shOf P 6 t).isSome=true)->(∀ (j:Nat) t v,ts[j]? = some t->vs[j]? = some v->Value.okWide P w r base t v)-> ∃ as',RVL (memW w) noH vs as'/\FitA P B ts as'
 | [],vs,ds,ps,h,_,_,_=>by
  obtain⟨rfl,rfl,rfl⟩:=trodAll_nil h
  exact⟨[],trivial,trivial⟩
 | t::ts,vs,ds,ps,h,hw,hs,hv=>by
  obtain⟨v,vs',d,ds',p,q,rfl,rfl,rfl,h0,hr⟩:=trodAll_cons h
  simp only[DataW.weightsEach] at hw
  obtain⟨as',h1,h2⟩:=Z50 B ts vs' ds' q hr (fun x hx=>hw x (List.mem_append_right _ hx)) (fun t ht=>hs t (List.mem_cons_of_mem _ ht)) (fun j t v hj hv'=>hv (j+1) t v (by simpa using hj) (by simpa using hv'))
  obtain⟨l,hl⟩:=Option.isSome_iff_exists.1 (hs t (List.mem_cons_self ..))
  obtain⟨fuel,hf⟩:=h0
  obtain⟨cs,h3,h4⟩:=Z5T B 6 fuel t _ _ l hl hf (fun x hx=>hw x (List.mem_append_left _ hx))
  rcases Z8c hl (hv 0 t v rfl rfl) with ⟨ha,vs2,rfl⟩ | ⟨ha,hc⟩
  ·refine⟨.agg cs::as',⟨.agg vs2 cs (by simpa [Value.cells] using h4.1) fun j d hd=> ?_,h1⟩,⟨l,cs,hl,h3,by rw[if_pos ha]⟩,h2⟩
   simp only[Value.cells] at h4
   have hjl:j<vs2.size:=by
    have:=(List.getElem?_eq_some_iff.1 hd).1
    rw[<- h4.1] at this
    simpa using this
   have hj:vs2.toList[j]? = some (vs2.getD j Go.undef):=by
    rw[List.getElem?_eq_getElem (by simpa using hjl)]
    simp[Array.getD,hjl]
   exact .pure (h4.2 j _ d hj hd)
  ·rw[hc] at h4
   have h5:=h4.1
   simp only[List.length_cons,List.length_nil] at h5
   match cs,h5,h3,h4 with
   | [a],_,h3,h4 =>
    exact⟨a::as',⟨.pure (h4.2 0 v a rfl rfl),h1⟩,⟨l,[a],hl,h3,by rw[if_neg (by rw[ha]; simp)]⟩,h2⟩
theorem ZaJ {f:FuncId} {fn:Func} {s:ChangeSpec} {ts:List TypeId} {tb:TypeId} (hp:fn.params.toList=ts) (hr:fn.resultTypes.toList=[tb]) (hub:P.underlying tb=some .bool) (hvars:s.vars=[]) (hvt:s.plain.varTypes P=[])
  (hfn: ∀ (H:Type) (ds:List (DataW H)),ds.length=ts.length->s.fn H ds={ results:=[.lit (.bool true)],args:=ds }) (hsh: ∀ t∈ts,(shOf P 6 t).isSome=true) (hlaid:laidOutB P=true)
  (hread: ∀ t∈ts,P.readableRec t=true/\t<P.types.size) (hlaw: ∀ as',FitA P 281474976710656 ts as'->FnOK P f as' (.bool true))
  {W:World} {base:Nat} {args:Array Value} {ds gs:List (DataW H)} {before:List MemPlace}
  (hval: ∀ (j:Nat) t v,fn.params[j]? = some t->args[j]? = some v->Value.okWide P W .any base t v)
  (hW:DataW.Whole enc P fn.params.toList s.vars false W args.toList ds gs before)
  (hsz:(DataW.weightsEach P (fn.params.toList++s.plain.varTypes P) (ds++gs)).all (· <= reachBytes)=true)
  (hg:GlobC (memW W) W (fun _=>False)) :
  Calls P f args W fun e W'=> ∃ v,e= .returned v/\s.post enc P fn false true false false W args v W':=by
 have hW':=hW
 obtain⟨p,q,hA0,hV,rfl,hfz,hnd⟩:=hW
 have hA:DataW.TrodAll enc P W 0 (fun _=>true) true fn.params.toList args.toList ds p:=hA0
 rw[hvars] at hV
 obtain⟨rfl,rfl⟩:=trodVars_none hV
 rw[hp] at hA
 rw[hvt,hp,List.append_nil,List.append_nil] at hsz
 have hwt:wOK 281474976710656 (DataW.weightsEach P ts ds):=fun x hx=>by
  simp only[List.all_eq_true,decide_eq_true_eq] at hsz
  have:=hsz x hx
  unfold reachBytes at this
  omega
 have hval': ∀ (j:Nat) t v,ts[j]? = some t->args.toList[j]? = some v->Value.okWide P W .any base t v:=fun j t v hj hv=>hval j t v (by rw[<- hp] at hj; simpa using hj) (by simpa using hv)
 obtain⟨as',hrv,hfit⟩:=Z50 281474976710656 ts args.toList ds p hA hwt hsh hval'
 have hlen: ∀ (ts:List TypeId) (vs:List Value) (ds:List (DataW H)) (p:List MemPlace),DataW.TrodAll enc P W 0 (fun _=>true) true ts vs ds p->ds.length=ts.length:=by
  intro ts
  induction ts with
  | nil=>intro vs ds p h; obtain⟨rfl,rfl,rfl⟩:=trodAll_nil h; rfl
  | cons t ts ih=>intro vs ds p h; obtain⟨v,vs',d,ds',p,q,rfl,rfl,rfl,_,hr⟩:=trodAll_cons h; simp[ih _ _ _ hr]
 have hdl:=hlen _ _ _ _ hA
 have hcall:=hlaw as' hfit (memW W) noH W args (fun _=>rfl) hg (fun b o v h=>h) (by simpa using hrv.length) (fun j d hd=>by
  have:=hrv.get j d hd
  simpa [Array.getD_eq_getD_getElem?,List.getD] using this)
 simp only[List.append_nil] at hW'
 refine hcall.mono fun e W' ⟨v,φ',he,hret,hb,_⟩=> ?_
 subst he
 have hv:v= .bool true:=(hret noH).bool_inv
 subst hv
 have hlt: ∀ x∈p,x.block<W.heap.size:=fun x hx=>by simpa using hW'.lt x (by simpa using hx)
 have key: ∀ (ts:List TypeId) (vs:List Value) (ds:List (DataW H)) (p:List MemPlace),(∀ t∈ts,P.readableRec t=true/\t<P.types.size)->(∀ x∈p,x.block<W.heap.size)->DataW.TrodAll enc P W 0 (fun _=>true) true ts vs ds p →
   DataW.TrodAll enc P W' 0 (fun b=>decide (b<W.heap.size)) true ts vs ds p:=by
  intro ts
  induction ts with
  | nil=>intro vs ds p _ _ h; obtain⟨rfl,rfl,rfl⟩:=trodAll_nil h; exact trodAll_mk0
  | cons t ts ih =>
   intro vs ds p hrd hx h
   obtain⟨v,vs',d,ds',p,q,rfl,rfl,rfl,h0,hr⟩:=trodAll_cons h
   have ht:=hrd t (List.mem_cons_self ..)
   exact trodAll_cons_mk (Below.trod hlaid ht.1 ht.2 h0 hb (fun x h=>hx x (List.mem_append_left _ h))) (ih _ _ _ (fun t ht=>hrd t (List.mem_cons_of_mem _ ht)) (fun x h=>hx x (List.mem_append_right _ h)) hr)
 have hsp:=hfn H ds hdl
 refine⟨_,rfl,Z8b (pa:=p) (pv:=[]) hW' (fun _ _ _=> ?_) ?_ ?_ (by simp) hb⟩
 ·rw[List.append_nil,hsp,hr]
  have:fn.resultTypes.size=1:=by rw[<- Array.length_toList,hr]; rfl
  rw[this]
  exact trodAll_cons_mk (shut_bool hub _) trodAll_mk0
 ·rw[List.append_nil,hsp,hp]
  exact key _ _ _ _ hread hlt hA
 ·rw[List.append_nil,hsp,hvars]
  rfl
end Go.Sx
namespace Go.Sx
variable {P:Program}
theorem ZgD {B:Nat} {as':List D} (h:FitA P B [] as'):as'=[]:=by
 cases as' with
 | nil=>rfl
 | cons a r=>exact h.elim
theorem Zam {B:Nat} {t:TypeId} {ts:List TypeId} {as':List D} (h:FitA P B (t::ts) as') (hs:shOf P 6 t=some [.str]) (ha:aggB P t=some false): ∃ s as2,as'= .str s::as2/\s.length<=B/\FitA P B ts as2:=by
 cases as' with
 | nil=>exact h.elim
 | cons a r =>
  obtain⟨⟨l,cs,hl,hf,hc⟩,hr⟩:=h
  obtain rfl:=Option.some.inj (hs.symm.trans hl)
  rw[if_neg (by rw[ha]; simp)] at hc
  subst hc
  simp only[Sh.fits,Sh.fit] at hf
  obtain⟨d,ds,he,⟨s,rfl,hb⟩,rfl⟩:=hf
  cases he
  exact⟨s,r,rfl,hb,hr⟩
end Go.Sx
/- TERMS: A TYPE THAT RECURS,AS PLAIN DATA. -/
namespace Go.Sx
open Go.RowKit Go.Deep Go.ChangeShapes Go.WideShapes
inductive Tm where
 | mk (k:Nat) (n:Int) (s:List UInt8) (l:List Tm)
 deriving Inhabited
mutual
def Tm.cells:Tm->List D
 | .mk k n s l=>[.int .u8 (k:Int),.int .i64 n,.str s,.slice (Tm.cellsL l) []]
def Tm.cellsL:List Tm->List (List D)
 | []=>[]
 | a::r=>a.cells::Tm.cellsL r
end
mutual
def Tm.wf (B:Nat):Tm->Prop
 | .mk k n s l=>k<=255/\ -9223372036854775808<=n/\n<=9223372036854775807/\s.length<=B/\l.length<=B/\Tm.wfL B l
def Tm.wfL (B:Nat):List Tm->Prop
 | []=>True
 | a::r=>a.wf B/\Tm.wfL B r
end
theorem Z01: ∀ l:List Tm,Tm.cellsL l=l.map Tm.cells
 | []=>rfl
 | a::r=>by rw[Tm.cellsL,Z01 r]; rfl
theorem Z0C (l:List Tm):(Tm.cellsL l).length=l.length:=by rw[Z01]; simp
theorem Qb (t:Tm):t.cells.length=4:=by cases t; rfl
theorem Z5s {B:Nat}: ∀ {l:List Tm},Tm.wfL B l ↔ ∀ t∈l,t.wf B
 | []=>by simp[Tm.wfL]
 | a::r=>by simp[Tm.wfL,Z5s (l:=r)]
structure IsTm (P:Program) (T:TypeId) (fs:Array Field) (f0 f1 f2 f3:Field):Prop where
 u:P.underlying T=some (.struct fs)
 l:fs.toList=[f0,f1,f2,f3]
 o0:f0.offset=0
 o1:f1.offset=1
 o2:f2.offset=2
 o3:f3.offset=3
 c0:P.cellsOf f0.type=1
 c1:P.cellsOf f1.type=1
 c2:P.cellsOf f2.type=1
 c3:P.cellsOf f3.type=1
 c:P.cellsOf T=4
 b:0<P.bytesOf T
 u0:P.underlying f0.type=some (.int .u8)
 u1:P.underlying f1.type=some (.int .i64)
 u2:P.underlying f2.type=some .string
 u3:P.underlying f3.type=some (.slice T)
variable {H:Type} {enc:TypeId × Value->H} {P:Program} {w:World}
section
variable [Globs] [Codes]
end
end Go.Sx
namespace Go.Sx
open Go.RowKit
variable [Globs] [Codes]
/- THE WALK BY TREES: all ways through a text at once,up to the heads of loops; calls by contracts. -/
inductive RT where
 | ok (p:Prop) (r:D) (ob:Obs)
 | br (b:Bool) (x y:RT)
def RT.says (C:D->Obs->Prop):RT->Prop
 | .ok p r ob=>p->C r ob
 | .br b x y=>match b with
  | true=>x.says C
  | false=>y.says C
structure Ctr where
 F:Nat->FuncId->List D->Option RT:=fun _ _ _=>none
 C:Nat->D->List D->Obs->Option RT:=fun _ _ _ _=>none
 E:Nat->Int->List D:=fun _ _=>[]
structure Ctr.OK (tb:Ctr) (P:Program):Prop where
 F: ∀ t f az rt,tb.F t f az=some rt->rt.says fun r _=>FnOK P f az r
 C: ∀ t d az ob rt,tb.C t d az ob=some rt->rt.says fun r ob'=>CallL P d az ob fun r0 ob0=>r0=r/\ob0=ob'
inductive Tr where
 | ret (r:D) (ob:Obs)
 | jmp (K:List Fr) (s:St)
 | owe (p:Prop) (x:Tr)
 | bad
def brT (b:Bool) (x y:Tr):Tr:=match b with
 | true=>x
 | false=>y
def Tr.ok (R:D->Obs->Prop) (J:List Fr->St->Prop):Tr->Prop
 | .ret r ob=>R r ob
 | .jmp K s=>J K s
 | .owe p x=>p/\x.ok R J
 | .bad=>False
section
variable {R:D->Obs->Prop} {J:List Fr->St->Prop}
theorem Q3 {r:D} {ob:Obs}:(Tr.ret r ob).ok R J=R r ob:=rfl
theorem Z0Y {K:List Fr} {s:St}:(Tr.jmp K s).ok R J=J K s:=rfl
theorem Qh {p:Prop} {x:Tr}:(Tr.owe p x).ok R J=(p/\x.ok R J):=rfl
theorem Z07 {b:Bool} {x y:Tr}:(brT b x y).ok R J=((b=true->x.ok R J)/\(b=false->y.ok R J)):=by
 cases b <;> simp[brT]
end
theorem SS:(∀ {R:D->Obs->Prop} {J:List Fr->St->Prop} {b:Bool} {x y:Tr},(brT b x y).ok R J=((b=true->x.ok R J)/\(b=false->y.ok R J))) ∧
  (∀ {R:D->Obs->Prop} {J:List Fr->St->Prop} {p:Prop} {x:Tr},(Tr.owe p x).ok R J=(p/\x.ok R J)) ∧
  (∀ {R:D->Obs->Prop} {J:List Fr->St->Prop} {r:D} {ob:Obs},(Tr.ret r ob).ok R J=R r ob) ∧
  (∀ {R:D->Obs->Prop} {J:List Fr->St->Prop} {K:List Fr} {s:St},(Tr.jmp K s).ok R J=J K s) ∧
  (∀ {p:Prop} [Decidable p],(decide p=true)=p)/\(∀ {p:Prop} [Decidable p],decide p=false ↔ ¬ p)/\(∀ n:Nat,(n:Int).toNat=n) ∧
  (∀ p:Prop,(True/\p)=p)/\(∀ p:Prop,(p/\True)=p)/\(∀ b:Bool,((!b)=true)=(b=false))/\(∀ b:Bool,((!b)=false)=(b=true)) ∧
  (∀ {α:Type} {l:List α},l.drop 0=l)/\(∀ {α:Type} {l:List α},l.take l.length=l) ∧
  (∀ {a b:Bool},(D.bool a=D.bool b)=(a=b))/\(∀ {k l:IntKind} {a b:Int},(D.int k a=D.int l b)=(k=l/\a=b))/\(∀ {a b:List UInt8},(D.str a=D.str b)=(a=b)) ∧
  (∀ p:Prop,(True->p)=p)/\(∀ a:Int,a<=a) :=
 ⟨Z07,Qh,Q3,Z0Y,decide_eq_true_eq,decide_eq_false_iff_not,Int.toNat_natCast,true_and,and_true,Bool.not_eq_true',Bool.not_eq_false',List.drop_zero,List.take_length,by simp only[D.bool.injEq,implies_true],by simp only[D.int.injEq,implies_true],by simp only[D.str.injEq,implies_true],fun p=>true_implies p,Int.le_refl⟩
def Zr (sz:Nat) (es:List (List D)):Prop:= ∀ q∈es,q.length=sz
theorem Z3W (sz:Nat):Zr sz []:=fun q hq=>by cases hq
theorem Z3j {sz:Nat} {e:List D} {es:List (List D)}:Zr sz (e::es) ↔ e.length=sz/\Zr sz es:=by simp[Zr]
theorem Z8y {α:Type} {sz:Nat} {f:α->List D} (hf: ∀ a,(f a).length=sz) (l:List α):Zr sz (l.map f):=fun q hq=>by
 obtain⟨a,_,rfl⟩:=List.mem_map.1 hq
 exact hf a
def arT (k:IntKind) (n:Int) (K:D->Tr):Tr:=match k with
 | .i64=> .owe (-9223372036854775808<=n/\n<=9223372036854775807) (K (.int .i64 n))
 | k=>K (.int k (k.wrap n))
def oneT (d:Option D) (K:D->Tr):Tr:=match d with
 | some d=>K d
 | none=> .bad
def binT (op:BinOp) (k:IntKind) (a b:Int) (K:D->Tr):Tr:=match op with
 | .add=>arT k (a+b) K
 | .sub=>arT k (a-b) K
 | .mul=>arT k (a*b) K
 | .quo=> .owe (b≠0) (arT k (a.tdiv b) K)
 | .rem=> .owe (b≠0) (K (.int k (a.tmod b)))
 | op=>oneT (ZcL op k a b) K
def ZgS (op:BinOp) (a b:List UInt8) (K:D->Tr):Tr:=match op with
 | .add=> .owe (a.length+b.length<=4611686018427387904) (K (.str (a++b)))
 | op=>oneT (ZcJ op a b) K
def iaT (c:List D) (sz:Nat) (es:List (List D)) (n:Int) (K:D->Tr):Tr:=match c with
 | []=> .owe (0<=n/\n<es.length/\(es.getD n.toNat []).length=sz) (K (.fptr (es.getD n.toNat [])))
 | c::cs=>if (c::cs).length=sz then .owe (0<=n/\es[n.toNat]? = some (c::cs)) (K (.fptr (c::cs))) else .bad
def rtT:RT->(D->Obs->Tr)->Tr
 | .ok p r ob,K=> .owe p (K r ob)
 | .br b x y,K=>brT b (rtT x K) (rtT y K)
def mfT (key:D):List D->List D->(Option D->Tr)->Tr
 | [],[],K=>K none
 | k::ks,d::ds,K=>match keqD key k with
  | some b=>brT b (K (some d)) (mfT key ks ds K)
  | none=> .bad
 | _,_,_=> .bad
def evT (tb:Ctr) (t dst:Nat) (o:AOp) (xs:List D) (obs:Nat->Option Ob) (K:D->Option Ob->Tr):Tr :=
 match o,xs with
 | .pick,[.bool c,a,b]=>brT c (K a none) (K b none)
 | .bin op,[.int k a,.int k' b]=>if k=k' then binT op k a b (fun d=>K d none) else .bad
 | .bin op,[.str a,.str b]=>ZgS op a b (fun d=>K d none)
 | .un .neg,[.int k a]=>arT k (0-a) (fun d=>K d none)
 | .conv k,[.int _ n]=>arT k n (fun d=>K d none)
 | .iaddr sz,[.slice es _,.int _ n]=>iaT (tb.E t n) sz es n (fun d=>K d none)
 | .iaddr sz,[.vec id,.int _ n]=>match obs id with
  | some (.arr true _ _ es)=>iaT (tb.E t n) sz es n (fun d=>K d none)
  | some (.arr false sz' _ es)=>if sz'=sz then .owe (0<=n/\n<es.length) (K (.vptr id n.toNat 0 sz) none) else .bad
  | _=> .bad
 | .index,[.str s,.int _ n]=> .owe (0<=n/\n<s.length) (K (.int .u8 (s.getD n.toNat 0).toNat) none)
 | .sliceS lo hi,.str s::bs=>match Z0c lo hi s.length bs with
  | some (a,b)=> .owe (0<=a/\a<=b/\b<=s.length) (K (.str ((s.take b.toNat).drop a.toNat)) none)
  | none=> .bad
 | .slice sz lo hi,d::bs=>match Z05 obs d with
  | some (es,ext)=>match Z0c lo hi es.length bs with
   | some (a,b)=> .owe (Zr sz (es++ext)/\0<=a/\a<=b/\b<=(es++ext).length) (match tb.E t 0 with
    | [.slice A X]=> .owe (((es++ext).take b.toNat).drop a.toNat=A/\(es++ext).drop b.toNat=X) (K (.slice A X) none)
    | _=>K (.slice (((es++ext).take b.toNat).drop a.toNat) ((es++ext).drop b.toNat)) none)
   | none=> .bad
  | none=>(match d,bs with
   | .vec id,[.int _ n]=>(match lo,hi with
    | true,false=>(match obs id with
     | some (.arr false sz' _ es)=>if sz'=sz then .owe (es≠[]/\0<=n/\n<=es.length) (K (.vwin id n.toNat sz) none) else .bad
     | _=> .bad)
    | _,_=> .bad)
   | _,_=> .bad)
 | .call f,ds=>match tb.F t f (ds.map (dv obs)) with
  | some rt=>rtT rt fun r _=>K (ZcF dst r).1 (ZcF dst r).2
  | none=> .bad
 | .iaddrA len sz,[.fptr cs,.int _ n]=> .owe (0<=n/\n<len) (K (.fptr (cs.drop (n.toNat*sz))) none)
 | .iaddrA len sz,[.ptr id off,.int _ n]=> .owe (0<=n/\n<len) (K (.ptr id (off+n.toNat*sz)) none)
 | .sh left,[.int k a,.int _ b]=> .owe (0<=b) (K (.int k (shI left k a b)) none)
 | .b2s,[d]=>match Z1Y obs d with
  | some es=> .owe (es=byC (QC es)) (K (.str (QC es)) none)
  | none=> .bad
 | .mks fz sz e z bt,[.int _ n]=>if z.all D.pur=true then .owe (0<=n/\n*bt<=281474976710656/\n<=1073741824) (K (.vec dst) (some (.arr fz sz e (List.replicate n.toNat z)))) else .bad
 | .mlook kd z,[.map id,key]=>match obs id with
  | some (.gen (.map ks) ds)=>if isKD kd key=true then mfT key ks ds (fun r=>K (r.getD z) none) else .bad
  | _=> .bad
 | .load agg sz,[.vptr id i j sz']=>match tb.E t (i:Int) with
  | []=>(match evE (fun _ _=>none) dst (.load agg sz) [.vptr id i j sz'] obs with
   | some (d,nb)=>K d nb
   | none=> .bad)
  | c::cs=>match obs id with
   | some (.arr false sz2 _ es)=>if sz2=sz'/\j+sz<=sz' then .owe (es[i]? = some (c::cs)) (match agg with
    | true=>K (.agg (((c::cs).drop j).take sz)) none
    | false=>oneT ((c::cs)[j]?) fun d=>K d none) else .bad
   | _=> .bad
 | .ext (.eqs3 ng),xs=>(match extD (.eqs3 ng) xs obs with
  | some d=>K d none
  | none=> .bad)
 | .ext k,xs=>match tb.E t 0 with
  | d::_=> .owe (extD k xs obs=some d) (K d none)
  | []=>(match extD k xs obs with
   | some d=>K d none
   | none=> .bad)
 | .mm big,.int k a::ds=>match mmI big k a ds with
  | some r=>(match tb.E t 0 with
   | [.int .i64 q]=> .owe (k= .i64/\r=q) (K (.int .i64 q) none)
   | _=>K (.int k r) none)
  | none=> .bad
 | o,xs=>match evE (fun _ _=>none) dst o xs obs with
  | some (d,nb)=>K d nb
  | none=> .bad
theorem Zbv {n:Int} (h: -9223372036854775808<=n/\n<=9223372036854775807):IntKind.i64.wrap n=n:=by
 rw[IntKind.wrap_i64]; omega
section
variable {R:D->Obs->Prop} {J:List Fr->St->Prop} {P:Program}
theorem Z3V {k:IntKind} {n:Int} {K:D->Tr} (h:(arT k n K).ok R J):(K (.int k (k.wrap n))).ok R J:=by
 unfold arT at h
 split at h
 ·rw[Zbv h.1]; exact h.2
 ·exact h
theorem Z5V {d:Option D} {K:D->Tr} (h:(oneT d K).ok R J): ∃ r,d=some r/\(K r).ok R J:=by
 cases d with
 | none=>exact h.elim
 | some d=>exact⟨d,rfl,h⟩
theorem ZgR {op:BinOp} {k:IntKind} {a b:Int} {K:D->Tr} (h:(binT op k a b K).ok R J):binI op k a b fun d=>(K d).ok R J:=by
 unfold binT at h
 split at h
 ·exact Z3V h
 ·exact Z3V h
 ·exact Z3V h
 ·exact⟨h.1,Z3V h.2⟩
 ·exact⟨h.1,h.2⟩
 ·obtain⟨r,hr,hk⟩:=Z5V h
  exact Z3f hr hk
theorem ZcI {op:BinOp} {a b:List UInt8} {K:D->Tr} (h:(ZgS op a b K).ok R J):binS op a b fun d=>(K d).ok R J:=by
 unfold ZgS at h
 split at h
 ·exact⟨h.1,h.2⟩
 ·obtain⟨r,hr,hk⟩:=Z5V h
  exact Z3e hr hk
theorem ZdU {c:List D} {sz:Nat} {es:List (List D)} {n:Int} {K:D->Tr} (h:(iaT c sz es n K).ok R J):0<=n/\n<es.length/\(es.getD n.toNat []).length=sz/\(K (.fptr (es.getD n.toNat []))).ok R J:=by
 unfold iaT at h
 split at h
 ·exact⟨h.1.1,h.1.2.1,h.1.2.2,h.2⟩
 ·rename_i c cs
  split at h
  ·rename_i hsz
   obtain⟨⟨h0,h1⟩,h2⟩:=h
   have hlt:=(List.getElem?_eq_some_iff.1 h1).1
   have hg:es.getD n.toNat []=c::cs:=by simp[List.getD,h1]
   rw[hg]
   exact⟨h0,by omega,hsz,h2⟩
  ·exact h.elim
theorem Z2d {C:D->Obs->Prop} {K:D->Obs->Tr}: ∀ {rt:RT},rt.says C->(rtT rt K).ok R J-> ∃ r ob,C r ob/\(K r ob).ok R J
 | .ok p r ob,hs,h=>⟨r,ob,hs h.1,h.2⟩
 | .br b x y,hs,h=>by
  cases b
  ·exact Z2d (rt:=y) hs h
  ·exact Z2d (rt:=x) hs h
theorem Z5j {b:Bool} {x y:Tr} (h:(brT b x y).ok R J):(b=true/\x.ok R J)\/(b=false/\y.ok R J):=by
 cases b
 ·exact .inr ⟨rfl,h⟩
 ·exact .inl ⟨rfl,h⟩
theorem ZdS {key:D}: ∀ {ks ds:List D} {K:Option D->Tr},(mfT key ks ds K).ok R J-> ∃ r,Z2n key ks ds=some r/\(K r).ok R J
 | [],[],K,h=>⟨none,rfl,h⟩
 | [],_::_,K,h=>h.elim
 | _::_,[],K,h=>h.elim
 | k::ks,d::ds,K,h=>by
  simp only[mfT] at h
  simp only[Z2n]
  cases hq:keqD key k with
  | none=>rw[hq] at h; exact h.elim
  | some b =>
   rw[hq] at h
   rcases Z5j h with ⟨rfl,h⟩ | ⟨rfl,h⟩
   ·exact⟨some d,rfl,h⟩
   ·exact ZdS h
theorem ZdX {tb:Ctr} (htb:tb.OK P) {t dst:Nat} {op:AOp} {xs:List D} {obs:Nat->Option Ob} {K:D->Option Ob->Tr} (h:(evT tb t dst op xs obs K).ok R J):evl P dst op xs obs fun d nb=>(K d nb).ok R J:=by
 unfold evT at h
 split at h
 case h_1=> 
  rcases Z5j h with ⟨rfl,h⟩ | ⟨rfl,h⟩
  ·exact h
  ·exact h
 case h_2 =>
  split at h
  ·rename_i hk; exact⟨hk,ZgR h⟩
  ·exact h.elim
 case h_3=>exact ZcI h
 case h_4=>exact Z3V h
 case h_5=>exact Z3V h
 case h_6=>exact ZdU h
 case h_7 =>
  simp only[evl]
  split at h
  ·rename_i heq; rw[heq]; exact ZdU h
  ·rename_i heq
   rw[heq]
   split at h
   ·rename_i hs; exact⟨hs,h.1.1,h.1.2,h.2⟩
   ·exact h.elim
  ·exact h.elim
 case h_8=>exact⟨h.1.1,h.1.2,h.2⟩
 case h_9 =>
  simp only[evl]
  split at h
  ·rename_i heq; simp only[heq]; exact⟨h.1.1,h.1.2.1,h.1.2.2,h.2⟩
  ·exact h.elim
 case h_10 =>
  simp only[evl]
  split at h
  ·rename_i heq
   rw[heq]
   simp only
   split at h
   ·rename_i heq2
    simp only[heq2]
    have h2:=h.2
    refine⟨h.1.1,h.1.2.1,h.1.2.2.1,h.1.2.2.2, ?_⟩
    split at h2
    ·rw[h2.1.1,h2.1.2]; exact h2.2
    ·exact h2
   ·exact h.elim
  ·rename_i heq
   rw[heq]
   simp only
   split at h
   ·split at h
    ·split at h
     ·rename_i heq2
      simp only[heq2]
      split at h
      ·rename_i hc
       exact⟨hc,h.1.1,h.1.2.1,h.1.2.2,h.2⟩
      ·exact h.elim
     ·exact h.elim
    ·exact h.elim
   ·exact h.elim
 case h_11 =>
  split at h
  ·rename_i rt hrt
   obtain⟨r,ob,hf,hk⟩:=Z2d (htb.F _ _ _ _ hrt) h
   refine⟨r,hf, ?_⟩
   cases r <;> exact hk
  ·exact h.elim
 case h_12=>exact⟨h.1.1,h.1.2,h.2⟩
 case h_13=>exact⟨h.1.1,h.1.2,h.2⟩
 case h_14=>exact⟨h.1,h.2⟩
 case h_15 =>
  simp only[evl]
  split at h
  ·rename_i heq; simp only[heq]; exact⟨h.1,h.2⟩
  ·exact h.elim
 case h_16 =>
  split at h
  ·rename_i hp; exact⟨hp,h.1.1,h.1.2.1,h.1.2.2,h.2⟩
  ·exact h.elim
 case h_17 =>
  simp only[evl]
  split at h
  ·rename_i heq
   rw[heq]
   split at h
   ·rename_i hc
    obtain⟨r,hr,hk⟩:=ZdS h
    simp only[hr]
    exact⟨hc,hk⟩
   ·exact h.elim
  ·exact h.elim
 case h_18 =>
  split at h
  ·split at h
   ·rename_i heq; exact Z0r (fn:=fun _ _=>none) (P:=P) (fun _ _ _ h=>by cases h) heq h
   ·exact h.elim
  ·rename_i c cs _
   simp only[evl]
   split at h
   ·rename_i heq
    rw[heq]
    split at h
    ·rename_i hc
     refine⟨hc.1,hc.2, ?_⟩
     rw[h.1]
     have h2:=h.2
     split at h2
     ·exact h2
     ·obtain⟨d,hd,hk⟩:=Z5V h2
      simp only[Bool.false_eq_true,if_false,hd]
      exact hk
    ·exact h.elim
   ·exact h.elim
 case h_19 =>
  split at h
  ·rename_i heq
   show evl P dst (.ext _) _ obs _
   unfold evl
   simp only[heq]
   exact h
  ·exact h.elim
 case h_20 =>
  split at h
  ·rename_i d _ _
   show evl P dst (.ext _) _ obs _
   unfold evl
   simp only[h.1]
   exact h.2
  ·unfold evl
   split at h
   ·rename_i heq; simp only[heq]; exact h
   ·exact h.elim
 case h_21 =>
  simp only[evl]
  split at h
  ·rename_i heq
   simp only[heq]
   split at h
   ·obtain⟨⟨rfl,rfl⟩,h⟩:=h; exact h
   ·exact h
  ·exact h.elim
 case h_22 =>
  split at h
  ·rename_i heq; exact Z0r (fn:=fun _ _=>none) (P:=P) (fun _ _ _ h=>by cases h) heq h
  ·exact h.elim
end
end Go.Sx
