/- Own work: a layer over the kit: plain data,a walk over it,its soundness. -/
import Derived.Lib.Join
import Derived.Lib.Fields
import Derived.Lib.Atoi
import Derived.Lib.ConvBytes
import Derived.Lib.AtoiErrMem
import Derived.Lib.Bytealg
import Derived.Lib.ItoaNum
import Derived.Lib.LaidTab
import Derived.Shelf.Strconv.Itoa3
import Derived.Sort.Grow
import Derived.Deep.Slices
import Derived.ChangeArms
import Derived.WalkKit
import Derived.OpenShut
import Derived.SevenTiedAt
import Derived.Carry
import Derived.Test.YtecgehidegnmnaaGreatDoorSx6
set_option linter.all false
namespace Go.Sx
open Go.RowKit
variable [Globs] [Codes]
theorem Z8B {P:Program} {b:Nat} {o:SOp} {s:St} {Kn Kn':St->Prop} {Kp Kp':Value->St->Prop} (h:stpX P b o s Kn Kp) (c: ∀ s,Kn s->Kn' s) (hp: ∀ v s,Kp v s->Kp' v s):stpX P b o s Kn' Kp':=by
 cases o with
 |st g sz x y=>exact Z1A (P:=P) (b:=b) (o:=.st g sz x y) h c
 |app dst g fz sz e x y=>exact Z1A (P:=P) (b:=b) (o:=.app dst g fz sz e x y) h c
 |cd dst g x xs =>
  refine Qj (λq=>?_) (c _) h;obtain⟨nm,R,base,h1,h2,l,m,n,p⟩:=q;refine⟨nm,R,base,h1,h2,l,m,n,λr ob' hr=>?_⟩;rcases p r ob' hr with⟨i,j⟩|⟨v,i,j⟩
  ·exact .inl ⟨i,c _ j⟩
  ·exact .inr ⟨v,i,hp _ _ j⟩
 |a dst g op xs =>
  by_cases k:dst=none/\op=.pnk/\ ∃ x,xs=[x]
  ·obtain⟨rfl,rfl,x,rfl⟩:=k;exact Qj (λ⟨t,u,h1,h2⟩=>⟨t,u,h1,hp _ _ h2⟩) (c _) h
  ·have e: ∀ Kn Kp,stpX P b (.a dst g op xs) s Kn Kp=stp P b (.a dst g op xs) s Kn:=λKn Kp=>by
    cases dst with
    |some d=>rfl
    |none=>cases op<;>first|rfl|(cases xs with
      |nil=>rfl
      |cons x r=>cases r with
       |nil=>exact absurd ⟨rfl,rfl,x,rfl⟩ k
       |cons _ _=>rfl)
   rw[e] at h ⊢;exact Z1A h c
theorem Z8A {P:Program} {b:Nat} {o:SOp} {s:St} {K:St->Prop} {Kp:Value->St->Prop} (h:stp P b o s K):stpX P b o s K Kp:=by
 cases o with
 |st g sz x y=>exact h
 |app dst g fz sz e x y=>exact h
 |cd dst g x xs =>
  refine Qj (λc=>?_) id h;obtain⟨nm,R,base,h1,h2,j,k,l,m⟩:=c;exact⟨nm,R,base,h1,h2,j,k,l,λr ob' hr=>.inl (m r ob' hr)⟩
 |a dst g op xs =>
  by_cases i:dst=none/\op=.pnk/\ ∃ x,xs=[x]
  ·obtain⟨rfl,rfl,x,rfl⟩:=i;exact Qj (λc=>c.elim) id h
  ·have e:stpX P b (.a dst g op xs) s K Kp=stp P b (.a dst g op xs) s K:=by
    cases dst with
    |some d=>rfl
    |none=>cases op<;>first|rfl|(cases xs with
      |nil=>rfl
      |cons x r=>cases r with
       |nil=>exact absurd ⟨rfl,rfl,x,rfl⟩ i
       |cons _ _=>rfl)
   rw[e];exact h
theorem Z3u {P:Program} {b:Nat}: ∀ {ops:List SOp} {s:St} {Kn Kn':St->Prop} {Kp Kp':Value->St->Prop},Z1U P b ops s Kn Kp->(∀ s,Kn s->Kn' s)->(∀ v s,Kp v s->Kp' v s)->Z1U P b ops s Kn' Kp'
 |[],_,_,_,_,_,h,a,_=>a _ h
 |_::_,_,_,_,_,_,h,a,hp=>Z8B h (λ_ hs=>Z3u hs a hp) hp
theorem Z6w {P:Program} {b:Nat}: ∀ {ops:List SOp} {s:St} {K:St->Prop} {Kp:Value->St->Prop},stps P b ops s K->Z1U P b ops s K Kp
 |[],_,_,_,h=>h
 |_::_,_,_,_,h=>Z8A (Z1A h λ_ hs=>Z6w hs)
theorem Z41 {P:Program} {bs:Nat} {k:Sp} {Q Q':Exit->St->Prop} {s:St} (h:spS P bs k Q s) (d: ∀ e s,Q e s->Q' e s):spS P bs k Q' s:=by
 cases k with
 |frg ts=>exact d _ _ h
 |dfr _ _=>exact h.elim
 |rcv _ _=>exact h.elim
 |pan ops=>exact Z3u h (λs=>d _ s) (λv s=>d _ s)
 |ord pre ops =>
  obtain⟨pan,qs,s',h1,h2,m,g⟩:=h;refine⟨pan,qs,s',h1,h2,m,?_⟩;cases pan with
  |none=>exact d _ _ g
  |some q=>exact⟨g.1,d _ _ g.2⟩
 |rng ops dst x =>
  refine Z0U h λs' ⟨j,ks,ds,h1,h2,m,g,n⟩=>⟨j,ks,ds,h1,h2,m,g,λl cl a b c=>d _ _ (n l cl a b c)⟩
 |nxt it t1 t2 =>
  obtain⟨id,l,ix,cl,j,ks,ds,h1,h2,m,g,n,o⟩:=h;exact⟨id,l,ix,cl,j,ks,ds,h1,h2,m,g,λha=>d _ _ (n ha),λi hi p=>d _ _ (o i hi p)⟩
theorem ZI {P:Program} {bs:Nat}: ∀ {c:SC} {s:St} {Q Q':Exit->St->Prop},sw P bs c Q s->(∀ e s,Q e s->Q' e s)->sw P bs c Q' s:=by
 intro c;induction c with
 |skip=>intro s Q Q' h d;exact d _ _ h
 |ret=>intro s Q Q' h d;exact d _ _ h
 |exit id=>intro s Q Q' h d;exact d _ _ h
 |reg ops=>intro s Q Q' h d;exact Z0U h λs=>d _ s
 |spec k=>intro s Q Q' h d;exact Z41 h d
 |drw pre ops=>intro s Q Q' h d;obtain⟨es,s',h1,h2,p⟩:=h;exact⟨es,s',h1,h2,d _ _ p⟩
 |seq a b m n =>
  intro s Q Q' h d;refine m h λe s j=>?_;cases e<;>first|exact n j d|exact d _ _ j
 |cond x a b m n =>
  intro s Q Q' h d;simp only[sw] at h ⊢;split at h
  ·split at h
   ·rename_i u;rw[if_pos u];exact m h d
   ·rename_i u;rw[if_neg u];exact n h d
  ·exact h.elim
 |block id c y =>
  intro s Q Q' h d;refine y h λe s j=>?_;cases e<;>try exact d _ _ j
  rename_i i;simp only[Z0E] at j ⊢;split at j
  ·rename_i hi;rw[if_pos hi];exact d _ _ j
  ·rename_i hi;rw[if_neg hi];exact d _ _ j
 |loop ts c y =>
  intro s Q Q' h d;obtain⟨A,Inv,h1,h2⟩:=h;refine⟨A,Inv,h1,λk s' hi=>y (h2 k s' hi) λe s j=>?_⟩;cases e<;>first|exact j|exact d _ _ j
 |rangeF N g ps a b _ _ =>
  intro s Q Q' h d;obtain⟨nm,R,h1,h2,p,B,C⟩:=h;refine⟨nm,R,h1,h2,p,B,λr ob' hr=>?_⟩;rcases C r ob' hr with⟨v,hv,t⟩|⟨q,l⟩
  ·exact .inl ⟨v,hv,d _ _ t⟩
  refine .inr ⟨q,?_⟩;obtain⟨st,pend,z,asg,body,N',keys,ds,E,F,o⟩:=l;refine⟨st,pend,z,asg,body,N',keys,ds,E,F,?_⟩;split at o
  ·exact d _ _ o
  ·exact d _ _ o
  ·exact d _ _ o
  ·exact o.elim
inductive Fr where
 |sc (c:SC)
 |blk (id:Nat)
structure Tab where
 T:FuncId->Option (Nat × SC × List SR)
 C:FuncId->List D->Obs->Option (D × Obs)
 F:FuncId->List D->Option D:=λ_ _=>none
structure Tab.OK (tab:Tab) (P:Program):Prop where
 T: ∀ f N sc rs,tab.T f=some (N,sc,rs)->FnC P f N sc rs/\QE P f=true
 C: ∀ f az ob r ob',tab.C f az ob=some (r,ob')->QE P f=true/\CallL P (.func (.func f) [] []) az ob λr0 ob0=>r0=r/\ob0=ob'
 F: ∀ f az r,tab.F f az=some r->FnOK P f az r
abbrev GoF:=Nat->List Fr->St->Option (Exit × St)
def finB:Exit->Bool
 |.normal=>true
 |.ret=>true
 |_=>false
def ZbC:Exit->Option (Option Code)
 |.normal=>some none
 |.ret=>some (some .ret)
 |.exit i=>some (some (.exit i))
 |_=>none
def SC.hasD:SC->Bool
 |.seq a b=>(match a with
  |.spec (.dfr _ _)=>true
  |_=>false) ||b.hasD
 |_=>false
abbrev noCl:Z3s:=λ_ _ _=>none
abbrev noFn:FuncId->List D->Option D:=λ_ _=>none
def ZbZ (tab:Tab) (g:GoF) (a:FuncId) (first caps:List D) (ob:Obs):Option Obs:=match tab.T a with
 |some (N,.seq (.spec (.rcv t ops)) b,[])=>if (first++caps).length<=N then (match opsE noCl noFn (St.nx ⟨(t,.raw .nilIface)::Za t (Zu 0 (first++caps)),ob⟩ (Obs.top ob)) ops ⟨(t,.raw .nilIface)::Za t (Zu 0 (first++caps)),ob⟩ with
  |some s1=>match g (Obs.top ob) [.sc b] s1 with
   |some (e,s)=>if finB e=true then some ((s.fin (Obs.top ob) (.tuple [])).ob) else none
   |none=>none
  |none=>none) else none
 |_=>none
def finR (k:Nat) (rs:List SR) (s:St):Option (D × Obs):=match rs.mapM (resD s) with
 |some ds=>some ((s.fin k (Z0C ds)).get (.t 0),(s.fin k (Z0C ds)).ob)
 |none=>none
def Z7T (tab:Tab) (g:GoF) (k:Nat) (rs:List SR):SC->St->Option (D × Obs)
 |.seq a b,s=>match a with
  |.spec (.dfr ops x)=>match opsE noCl noFn (s.nx k) ops s with
   |some s1=>match s1.get x with
    |.func (.func h) fa d =>
     let cl:=s1.get x;let k2:=max k (max s1.top (D.top cl))
     (match g k2 [.sc b] s1 with
     |some (e,c)=>if finB e=true then
       (let nm:=Z1u c [cl]
       if Z0s nm=true then (match ZbZ tab g h (D.renL (idx · nm) fa) (D.renL (idx · nm) d) (Q4 c.ob (idx · nm) 0 nm) with
       |some ob'=>finR k rs (c.back (max k2 c.top) nm ob')
       |none=>none) else none) else none
     |none=>none)
    |_=>none
   |none=>none
  |.spec (.frg ts)=>Z7T tab g k rs b (s.canon k ts)
  |a=>match g k [.sc a] s with
   |some (.normal,s')=>Z7T tab g k rs b s'
   |some (.ret,s')=>finR k rs s'
   |_=>none
 |_,_=>none
def Z3r (tab:Tab) (g:GoF):Z3s:=λd args ob=>match d with
 |.func (.func f) first caps=>match tab.C f (first++args++caps) ob with
  |some x=>some x
  |none=>match tab.T f with
   |some (N,sc,rs)=>if (first++args++caps).length<=N then if sc.hasD=true then Z7T tab g (Obs.top ob) rs sc ⟨Zu 0 (first++args++caps),ob⟩ else
     (match g (Obs.top ob) [.sc sc] ⟨Zu 0 (first++args++caps),ob⟩ with
     |some (e,s)=>if finB e=true then (match rs.mapM (resD s) with
      |some ds=>some ((s.fin (Obs.top ob) (Z0C ds)).get (.t 0),(s.fin (Obs.top ob) (Z0C ds)).ob)
      |none=>none) else none
     |none=>none) else none
   |none=>none
 |.yld c=>match lk ob c with
  |some (.gen (.loop .ready none ps a b N keys) ds)=>if ps.size=args.length/\(ps.toList.all λt=>decide (t<N))=true then
    (match g (Obs.top ob) [.sc a] ⟨putP (ps.toList.zip args) (keys.zip ds),Za c ob⟩ with
    |some (.normal,s1)=>match g (Obs.top ob) [.sc b] s1 with
     |some (e,h)=>match ZbC e with
      |some pend=>if (lk h.ob c).isNone=true then some (.bool pend.isNone,(c,.gen (.loop (if pend.isNone then .ready else .done) pend ps a b N keys) ds)::(h.canon (Obs.top ob) []).ob) else none
      |none=>none
     |none=>none
    |_=>none) else none
  |_=>none
 |_=>none
def retE (r:D) (ob:Obs):Option D:=match r with
 |.vec id=>match lk (frzO ob) id with
  |some (.arr true sz e es)=>some (.own sz e es)
  |_=>none
 |r=>if D.clo (dvt (lk (frzO ob)) r)=true then some (dvt (lk (frzO ob)) r) else none
def fnE (tab:Tab) (g:GoF):FuncId->List D->Option D:=λf args=>match tab.F f args with
 |some r=>some r
 |none=>match Z3r tab g (.func (.func f) [] []) args [] with
  |some (r,ob)=>retE r ob
  |none=>none
def Z10 (i:Nat):List Fr->Option (List Fr)
 |[]=>none
 |.blk j::K=>if i=j then some K else Z10 i K
 |.sc _::K=>Z10 i K
def rngS (P:Program) (s:St) (c N:Nat) (ps:Array Tmp) (a b:SC):Obs:=(c,recd P .ready none N ps a b s.tm)::s.ob
def Z1o (P:Program) (tab:Tab) (d:GoF):GoF:=λbs K s=>match K with
 |[]=>some (.normal,s)
 |.blk _::K=>d bs K s
 |.sc c::K=>match c with
  |.skip=>d bs K s
  |.ret=>some (.ret,s)
  |.exit i=>match Z10 i K with
   |some K'=>d bs K' s
   |none=>some (.exit i,s)
  |.reg ops=>match opsE (Z3r tab d) (fnE tab d) (s.nx bs) ops s with
   |some s'=>d bs K s'
   |none=>none
  |.drw pre ops=>match canE (Z3r tab d) (fnE tab d) (s.nx bs) ops s with
   |some (es,s')=>if dchk (s.nx bs) pre ops es s=true then d bs K s' else none
   |none=>none
  |.seq a b=>d bs (.sc a:: .sc b::K) s
  |.cond x a b=>match s.get x with
   |.bool t=>d bs (.sc (if t then a else b)::K) s
   |_=>none
  |.block id c=>d bs (.sc c:: .blk id::K) s
  |.loop ts c=>d bs (.sc c:: .sc (.loop ts c)::K) (s.canon bs ts)
  |.spec k=>match k with
   |.frg ts=>d bs K (s.canon bs ts)
   |.pan ops=>(match opsE (Z3r tab d) (fnE tab d) (s.nx bs) ops s with
    |some s'=>d bs K s'
    |none=>none)
   |_=>none
  |.rangeF N g ps a b =>
   let ob1:=rngS P s (s.nx bs) N ps a b;let nm:=Z1u ⟨s.tm,ob1⟩ [s.get g,.yld (s.nx bs)]
   match s.get g with
   |.func (.func f) fa e=>if Z0s nm=true/\((tab.T f).isSome=true) then
     (match Z3r tab d ((s.get g).ren (idx · nm)) [(D.yld (s.nx bs)).ren (idx · nm)] (Q4 ob1 (idx · nm) 0 nm) with
     |some (r,ob')=>if r.isPan=true then none else
      let S:=St.back ⟨s.tm,ob1⟩ (s.nx bs+1) nm ob'
      match lk S.ob (s.nx bs) with
      |some (.gen (.loop st pend _ _ _ _ _) _)=>if st=.busy then none else (match pend with
       |none=>d bs K ⟨s.tm,Za (s.nx bs) S.ob⟩
       |some .ret=>some (.ret,⟨s.tm,Za (s.nx bs) S.ob⟩)
       |some (.exit i)=>match Z10 i K with
        |some K'=>d bs K' ⟨s.tm,Za (s.nx bs) S.ob⟩
        |none=>some (.exit i,⟨s.tm,Za (s.nx bs) S.ob⟩)
       |_=>none)
      |_=>none
     |none=>none) else none
   |_=>none
def go (P:Program) (tab:Tab) (n:Nat):GoF:=Nat.rec (λ_ _ _=>none) (λ_ a=>Z1o P tab a) n
theorem Z9L (P:Program) (tab:Tab) (n:Nat):go P tab (n+1)=Z1o P tab (go P tab n):=rfl
section
variable {P:Program} {tab:Tab}
def Z2J (P:Program) (tab:Tab) (m bs:Nat) (K:List Fr) (ex:Exit) (s:St) (out:Exit × St):Prop:=match ex with
 |.normal=>go P tab m bs K s=some out
 |.ret=>out=(.ret,s)
 |.exit i=>match Z10 i K with
  |some K'=>go P tab m bs K' s=some out
  |none=>out=(.exit i,s)
 |_=>False
theorem CallL.split {f:FuncId} (hp:QE P f=true) {first args caps:List D} {ob:Obs} {R:D->Obs->Prop} (h:CallL P (.func (.func f) [] []) (first++args++caps) ob R):CallL P (.func (.func f) first caps) args ob R:=by
 intro F i n φ hh w v vs hl hv g;obtain⟨va,vc,rfl,ha,hc,b,c⟩:=Sx.func_inv hv;rw[Q6 hp];have a:RVL φ hh (va++vs++vc).toList (first++args++caps):=by
  rw[Array.toList_append,Array.toList_append];exact QD (QD (ZB _ _ (by simpa using ha) λj d e=>by have:=b j d e;simpa [Array.getD_eq_getD_getElem?,List.getD] using this) g)
   (ZB _ _ (by simpa using hc) λj d e=>by have:=c j d e;simpa [Array.getD_eq_getD_getElem?,List.getD] using this)
 have:=h F i n φ hh w (.func (.func f) #[] #[]) (va++vs++vc) hl (.func _ _ _ _ _ rfl rfl (by simp) (by simp)) a;rw[Q6 hp] at this;simpa using this
theorem Z4k {k:Nat} {rs:List SR} {s:St} {r:D} {ob':Obs} (h:finR k rs s=some (r,ob')): ∃ ds,rs.mapM (resD s)=some ds/\RetL k (λr0 ob0=>r0=r/\ob0=ob') s (Z0C ds):=by
 unfold finR at h;split at h
 ·rename_i ds a;simp only[Option.some.injEq,Prod.mk.injEq] at h;exact⟨ds,a,h.1,h.2⟩
 ·cases h
theorem Z5R [CodesOf P] (Z5:DrawSound P) (g:tab.OK P) {n:Nat}
  (j: ∀ bs c s out,go P tab n bs [.sc c] s=some out->sw P bs c (λex s1=>out=(ex,s1)) s) {i:FuncId} {first caps:List D} {ob ob':Obs} (h:ZbZ tab (go P tab n) i first caps ob=some ob') :
  CallD P .returning (.func (.func i) first caps) ob λm ob0=>m=.returning/\ob0=ob':=by
 unfold ZbZ at h;split at h
 ·rename_i N t ops o k;obtain⟨hf,hp⟩:=g.T i _ _ _ k;split at h
  ·rename_i b;split at h
   ·rename_i s1 d;split at h
    ·rename_i e s l;split at h
     ·rename_i a;simp only[Option.some.injEq] at h;refine CallD.fn Z5 hf (Obs.top ob) (Nat.le_refl _) b rfl (Z0q (P:=P) (fn:=noFn) (cl:=noCl) (λ_ _ _ h=>by cases h) (λ_ _ _ _ _ h=>by cases h) d ?_);refine ZI (j _ _ _ _ l) λex s1 hr=>?_;simp only[Prod.mk.injEq] at hr;obtain⟨rfl,rfl⟩:=hr;refine⟨?_,rfl,h⟩;cases e<;>first|exact .inl rfl|exact .inr rfl|cases a
     ·cases h
    ·cases h
   ·cases h
  ·cases h
 ·cases h
theorem Z5S [CodesOf P] (Z5:DrawSound P) (j:tab.OK P) {n:Nat}
  (g: ∀ bs c s out,go P tab n bs [.sc c] s=some out->sw P bs c (λex s1=>out=(ex,s1)) s) {k:Nat} {rs:List SR} {r:D} {ob':Obs}: ∀ (sc:SC) (s:St),Z7T tab (go P tab n) k rs sc s=some (r,ob') →
  swD P k (EndQ rs (RetL k λr0 ob0=>r0=r/\ob0=ob')) (KDef P k rs λr0 ob0=>r0=r/\ob0=ob') sc s:=by
 intro sc;induction sc with
 |seq a b I t =>
  intro s h;have d:(match go P tab n k [.sc a] s with
   |some (.normal,s')=>Z7T tab (go P tab n) k rs b s'
   |some (.ret,s')=>finR k rs s'
   |_=>none)=some (r,ob')->sw P k a (thenS (swD P k (EndQ rs (RetL k λr0 ob0=>r0=r/\ob0=ob')) (KDef P k rs λr0 ob0=>r0=r/\ob0=ob') b) (EndQ rs (RetL k λr0 ob0=>r0=r/\ob0=ob'))) s:=λh=>by
   split at h
   ·rename_i s' o;refine ZI (g _ _ _ _ o) λex s1 hr=>?_;simp only[Prod.mk.injEq] at hr;obtain⟨rfl,rfl⟩:=hr;exact t _ h
   ·rename_i s' o;refine ZI (g _ _ _ _ o) λex s1 hr=>?_;simp only[Prod.mk.injEq] at hr;obtain⟨rfl,rfl⟩:=hr;exact Z4k h
   ·cases h
  cases a with
  |spec K =>
   cases K with
   |dfr ops x =>
    simp only[Z7T] at h;split at h
    ·rename_i s1 p;refine Z0q (P:=P) (fn:=noFn) (cl:=noCl) (λ_ _ _ h=>by cases h) (λ_ _ _ _ _ h=>by cases h) p ?_;split at h
     ·rename_i v fa E l;split at h
      ·rename_i e B o;split at h
       ·rename_i m;split at h
        ·rename_i y;split at h
         ·rename_i ob1 hr;obtain⟨u,A⟩: ∃ u,tab.T v=some u:=by
           unfold ZbZ at hr;split at hr
           ·rename_i G;exact⟨_,G⟩
           ·cases hr
          have z:=(j.T v u.1 u.2.1 u.2.2 A).2;refine⟨v,fa,E,max k (max s1.top (D.top (s1.get x))),l,z,by omega,by omega,by omega,?_⟩;refine ZI (g _ _ _ _ o) λex L q=>?_;simp only[Prod.mk.injEq] at q;obtain⟨rfl,rfl⟩:=q;have F:DQ P k (max k (max s1.top (D.top (s1.get x)))) rs (s1.get x) (λr0 ob0=>r0=r/\ob0=ob') .returning B:=by
           refine⟨_,λC ob0=>C=.returning/\ob0=ob1,max (max k (max s1.top (D.top (s1.get x)))) B.top,Zx y,λi hi=>ZO i hi,by omega,by omega,?_,?_⟩
           ·have:=Z5R Z5 j g hr;rw[l] at this ⊢;exact this
           ·rintro C ob0 ⟨rfl,rfl⟩;exact⟨rfl,Z4k h⟩
          cases e<;>first|exact F|cases m
         ·cases h
        ·cases h
       ·cases h
      ·cases h
     ·cases h
    ·cases h
   |frg ts=>exact t _ h
   |rng _ _ _=>exact d h
   |nxt _ _ _=>exact d h
   |rcv _ _=>exact d h
   |pan _=>exact d h
   |ord _ _=>exact d h
  |_=>exact d h
 |_=>intro s h;cases h
theorem Z39 [CodesOf P] (Z5:DrawSound P) (i:tab.OK P) {n:Nat}
  (j: ∀ bs c s out,go P tab n bs [.sc c] s=some out->sw P bs c (λex s1=>∃ m,m<n/\Z2J P tab m bs [] ex s1 out) s) :
  ∀ d u ob r ob',Z3r tab (go P tab n) d u ob=some (r,ob')->CallL P d u ob λr0 ob0=>r0=r/\ob0=ob':=by
 have o: ∀ {m bs:Nat} {s:St} {out:Exit × St},go P tab m bs [] s=some out->out=(.normal,s):=λ{m bs s out} h=>by
  cases m with
  |zero=>cases h
  |succ m=>rw[Z9L] at h;simp only[Z1o,Option.some.injEq] at h;exact h.symm
 have g: ∀ {m bs:Nat} {ex:Exit} {s:St} {out:Exit × St},Z2J P tab m bs [] ex s out->out=(ex,s):=λ{m bs ex s out} h=>by
  cases ex<;>simp only[Z2J,Z10] at h
  ·exact o h
  ·exact h
  ·exact h
 intro d u ob r ob' h;unfold Z3r at h;split at h
 ·rename_i f first caps
  split at h
  ·rename_i x B;cases h;obtain⟨hp,hc⟩:=i.C f _ ob r ob' B;exact hc.split hp
  ·split at h
   ·rename_i N sc rs C;obtain⟨hf,hp⟩:=i.T f N sc rs C;split at h
    ·rename_i k;split at h
     ·exact CallL.fnD Z5 hf hp (Obs.top ob) (Nat.le_refl _) k (Z5S Z5 i (λbs c s out y=>ZI (j _ _ _ _ y) λex s1 ⟨m,_,hr⟩=>g hr) _ _ h)
     split at h
     ·rename_i e s y;split at h
      ·rename_i l;split at h
       ·rename_i ds v;simp only[Option.some.injEq,Prod.mk.injEq] at h;obtain⟨rfl,rfl⟩:=h;refine CallL.fn Z5 hf hp (Obs.top ob) (Nat.le_refl _) k (ZI (j _ _ _ _ y) λex s1 ⟨m,_,hr⟩=>?_)
        have:=g hr;simp only[Prod.mk.injEq] at this;obtain⟨rfl,rfl⟩:=this;cases e<;>first|exact⟨ds,v,rfl,rfl⟩|cases l
       ·cases h
      ·cases h
     ·cases h
    ·cases h
   ·cases h
 ·rename_i G;split at h
  ·rename_i ps a b N keys ds q;split at h
   ·rename_i hc;split at h
    ·rename_i s1 z;split at h
     ·rename_i e I A;split at h
      ·rename_i pend p;split at h
       ·rename_i E;simp only[Option.some.injEq,Prod.mk.injEq] at h;obtain⟨rfl,rfl⟩:=h;refine CallL.yld Z5 (Obs.top ob) (Nat.le_refl _) q hc.1 (λt F=>by simpa using List.all_eq_true.1 hc.2 t F) (ZI (j _ _ _ _ z) λex s ⟨m,_,hr⟩=>?_)
        have:=g hr;simp only[Prod.mk.injEq] at this;obtain⟨rfl,rfl⟩:=this;refine ZI (j _ _ _ _ A) λex s ⟨m,_,hr⟩=>?_
        have:=g hr;simp only[Prod.mk.injEq] at this;obtain⟨rfl,rfl⟩:=this;refine⟨by simpa using E,?_⟩;cases e<;>simp only[ZbC,Option.some.injEq,reduceCtorEq] at p<;>(subst p;exact⟨rfl,rfl⟩)
       ·cases h
      ·cases h
     ·cases h
    ·cases h
   ·cases h
  ·cases h
 ·cases h
theorem Z4Z {g:GoF} (a:tab.OK P) (m: ∀ f,(tab.T f).isSome=true->QE P f=true) (i: ∀ d b ob r ob',Z3r tab g d b ob=some (r,ob')->CallL P d b ob λr0 ob0=>r0=r/\ob0=ob') :
  ∀ f b r,fnE tab g f b=some r->FnOK P f b r:=by
 intro f b r h;unfold fnE at h;split at h
 ·rename_i r0 k;cases h;exact a.F _ _ _ k
 split at h
 ·rename_i r0 ob hc;have hp:QE P f=true:=by
   unfold Z3r at hc;simp only at hc;split at hc
   ·rename_i x j;exact (a.C f _ _ x.1 x.2 j).1
   ·split at hc
    ·rename_i N sc rs l;exact (a.T f N sc rs l).2
    ·cases hc
  refine FnOK.of_call hp ((i _ _ _ _ _ hc).mono ?_);rintro r1 ob1 ⟨rfl,rfl⟩;unfold retE at h;split at h
  ·rename_i id;split at h
   ·rename_i sz e es hl;cases h;exact .inl ⟨id,sz,e,es,rfl,hl,rfl⟩
   ·cases h
  ·split at h
   ·rename_i c;cases h;exact .inr ⟨c,rfl⟩
   ·cases h
 ·cases h
theorem ZbX [CodesOf P] (Z5:DrawSound P) (d:tab.OK P): ∀ (n bs:Nat) (c:SC) (K:List Fr) (s:St) (out:Exit × St),go P tab n bs (.sc c::K) s=some out->sw P bs c (λex s1=>∃ m,m<n/\Z2J P tab m bs K ex s1 out) s:=by
 intro n;induction n using Nat.strongRecOn with
 |_ n o =>
  intro bs c K s out h;cases n with
  |zero=>cases h
  |succ n =>
   have e:=Z39 (n:=n) Z5 d λbs c s out h=>o n (Nat.lt_succ_self n) bs c [] s out h;have l:=Z4Z (g:=go P tab n) d (λf hf=>by
    obtain⟨x,hx⟩:=Option.isSome_iff_exists.1 hf;exact (d.T f x.1 x.2.1 x.2.2 hx).2) e
   rw[Z9L] at h;cases c with
   |spec k =>
    cases k with
    |frg ts=>exact⟨n,Nat.lt_succ_self n,h⟩
    |pan ops =>
     simp only[Z1o] at h;split at h
     ·rename_i s' p;exact Z6w (Z0q l e p ⟨n,Nat.lt_succ_self n,h⟩)
     ·cases h
    |_=>cases h
   |skip=>exact⟨n,Nat.lt_succ_self n,h⟩
   |ret=>simp only[Z1o,Option.some.injEq] at h;exact⟨n,Nat.lt_succ_self n,h.symm⟩
   |exit i =>
    refine⟨n,Nat.lt_succ_self n,?_⟩;simp only[Z1o] at h;simp only[Z2J];split at h
    ·exact h
    ·simp only[Option.some.injEq] at h;exact h.symm
   |reg ops =>
    simp only[Z1o] at h;split at h
    ·rename_i s' p;exact Z0q l e p ⟨n,Nat.lt_succ_self n,h⟩
    ·cases h
   |drw pre ops =>
    simp only[Z1o] at h;split at h
    ·rename_i es s' p;split at h
     ·rename_i z;exact⟨es,s',Z3P l e p,z,n,Nat.lt_succ_self n,h⟩
     ·cases h
    ·cases h
   |seq a b =>
    show sw P bs a (thenS (sw P bs b _) _) s;refine ZI (o n (Nat.lt_succ_self n) bs a _ s out h) λex s1 ⟨m,hm,hr⟩=>?_;cases ex<;>simp only[thenS]
    ·exact ZI (o m (by omega) bs b K s1 out hr) λex F ⟨E,C,u⟩=>⟨E,by omega,u⟩
    ·exact⟨m,by omega,hr⟩
    ·exact hr.elim
    ·exact⟨m,by omega,hr⟩
    all_goals exact hr.elim
   |cond x a b =>
    simp only[Z1o] at h;simp only[sw];split at h
    ·rename_i t hx;rw[hx];simp only;cases t
     ·rw[if_neg (by simp)];exact ZI (o n (Nat.lt_succ_self n) bs b K s out h) λex s1 ⟨m,hm,hr⟩=>⟨m,by omega,hr⟩
     ·rw[if_pos rfl];exact ZI (o n (Nat.lt_succ_self n) bs a K s out h) λex s1 ⟨m,hm,hr⟩=>⟨m,by omega,hr⟩
    ·cases h
   |block id c =>
    show sw P bs c (Z0E id _) s;refine ZI (o n (Nat.lt_succ_self n) bs c _ s out h) λex s1 ⟨m,hm,hr⟩=>?_;cases ex<;>simp only[Z0E]
    ·cases m with
     |zero=>cases hr
     |succ m=>exact⟨m,by omega,hr⟩
    ·rename_i i;simp only[Z2J,Z10] at hr;split
     ·rename_i hi;rw[if_pos hi] at hr;exact⟨m,by omega,hr⟩
     ·rename_i hi;rw[if_neg hi] at hr;exact⟨m,by omega,hr⟩
    ·exact hr.elim
    ·exact⟨m,by omega,hr⟩
    all_goals exact hr.elim
   |loop ts c =>
    refine⟨ts,λk s'=>k<=n/\go P tab k bs (.sc c:: .sc (.loop ts c)::K) s'=some out,⟨n,Nat.le_refl _,h⟩,λk s' B=>?_⟩;refine ZI (o k (by omega) bs c _ s' out B.2) λex s1 ⟨m,hm,hr⟩=>?_;cases ex<;>simp only[thenS]
    ·cases m with
     |zero=>cases hr
     |succ m=>exact⟨m,by omega,by omega,hr⟩
    ·exact⟨m,by omega,hr⟩
    ·exact hr.elim
    ·exact⟨m,by omega,hr⟩
    all_goals exact hr.elim
   |rangeF N g ps a b =>
    simp only[Z1o] at h;split at h
    ·rename_i f fa y A;split at h
     ·rename_i hc;split at h
      ·rename_i r ob' j;split at h
       ·cases h
       rename_i q;split at h
       ·rename_i st pend _ _ _ _ _ _ hl;split at h
        ·cases h
        ·rename_i v;obtain⟨x,hx⟩:=Option.isSome_iff_exists.1 hc.2;refine⟨_,_,Zx hc.1,λi hi=>ZO (s:=⟨s.tm,rngS P s (s.nx bs) N ps a b⟩) i hi,⟨f,fa,y,A,(d.T f x.1 x.2.1 x.2.2 hx).2⟩,e _ _ _ _ _ j,?_⟩;rintro r0 ob0 ⟨rfl,rfl⟩;refine .inr ⟨by simpa using q,st,pend,_,_,_,_,_,_,hl,v,?_⟩;split at h
         ·exact⟨n,Nat.lt_succ_self n,h⟩
         ·simp only[Option.some.injEq] at h;exact⟨n,Nat.lt_succ_self n,h.symm⟩
         ·refine⟨n,Nat.lt_succ_self n,?_⟩;simp only[Z2J];split at h
          ·exact h
          ·simp only[Option.some.injEq] at h;exact h.symm
         ·cases h
       ·cases h
      ·cases h
     ·cases h
    ·cases h
theorem Zcf [CodesOf P] (Z5:DrawSound P) (a:tab.OK P) (n:Nat) {d:D} {b:List D} {ob:Obs} {r:D} {ob':Obs} (h:Z3r tab (go P tab n) d b ob=some (r,ob')):CallL P d b ob λr0 ob0=>r0=r/\ob0=ob' :=
 Z39 Z5 a (λbs c s out h=>ZbX Z5 a n bs c [] s out h) d b ob r ob' h
theorem Z9N [CodesOf P] (Z5:DrawSound P) (a:tab.OK P) (n:Nat) {f:FuncId} {b:List D} {r:D} (h:fnE tab (go P tab n) f b=some r):FnOK P f b r :=
 Z4Z a (λf hf=>by
    obtain⟨x,hx⟩:=Option.isSome_iff_exists.1 hf;exact (a.T f x.1 x.2.1 x.2.2 hx).2) (λ_ _ _ _ _ h=>Zcf Z5 a n h) f b r h
end
end Go.Sx
namespace Go.Sx
open Go.RowKit
variable [Globs] [Codes]
variable {P:Program} {f:FuncId}
/- CONTRACTS OF LIBRARY FUNCTIONS,TURNED INTO THIS LAYER's. -/
theorem FnOK.quiet {args:List D} {r:D} (hr: ∀ sz e es,r≠ .own sz e es)
  (hc: ∀ (φ:Mem) (h:Nat->Value) (w:World) (vs:Array Value),GlobC φ w (λ_=>False)->Sub φ w->RVL φ h vs.toList args →
   Calls P f vs w λe w'=>∃ v,e=.returned v/\(∀ h',RV φ h' v r)/\Below w.heap.size w w'):FnOK P f args r:=by
 intro φ h w vs n g a hsz c;have l:RVL φ h vs.toList args:=ZB _ _ (by simpa using hsz) λj d s=>by have:=c j d s;simpa [Array.getD_eq_getD_getElem?,List.getD] using this
 refine (hc φ h w vs g a l).mono ?_;rintro e w' ⟨v,rfl,k,m⟩;refine⟨v,φ,rfl,?_,m,λ_ _ _ h=>h,λb o u q=>?_,λb o u h1 h2=>by rw[h1] at h2;cases h2⟩
 ·cases r with
  |own sz e es=>exact absurd rfl (hr sz e es)
  |_=>exact k
 ·have i:b<w.heap.size:=Sub.lt (w:=w) a q
  have:=m.cell (p:=⟨b,o,none⟩) i;rw[this];exact a b o u q
theorem vs1 {φ:Mem} {h:Nat->Value} {vs:Array Value} {a:D} (hv:RVL φ h vs.toList [a]): ∃ v,vs=#[v]/\RV φ h v a:=by
 match hl:vs.toList,hv with
 |[v],hv=>exact⟨v,by rw[<- hl],hv.1⟩
 |[],hv=>exact hv.elim
 |_::_::_,hv=>exact hv.2.elim
theorem vs2 {φ:Mem} {h:Nat->Value} {vs:Array Value} {a b:D} (hv:RVL φ h vs.toList [a,b]): ∃ u v,vs=#[u,v]/\RV φ h u a/\RV φ h v b:=by
 match hl:vs.toList,hv with
 |[u,v],hv=>exact⟨u,v,by rw[<- hl],hv.1,hv.2.1⟩
 |[],hv=>exact hv.elim
 |[_],hv=>exact hv.2.elim
 |_::_::_::_,hv=>exact hv.2.2.elim
theorem FnOK.indexByte (H: ∀ (s:ByteArray) (c:Int) (w:World),Calls P f #[.string s,.int .u8 c] w λe w'=>e=.returned (.int .i64 (Lib.indexByte s.data.toList c.toNat.toUInt8))/\w'=w) (s:List UInt8) (n:Int) :
  FnOK P f [.str s,.int .u8 n] (.int .i64 (Lib.indexByte s (UInt8.ofNat n.toNat))):=by
 refine FnOK.quiet (by intros;simp) fun φ h w vs b a hv=>?_;obtain⟨u,v,rfl,d,hv⟩:=vs2 hv;rw[d.str_inv,hv.int_inv];refine (H ⟨s.toArray⟩ n w).mono ?_;rintro e w' ⟨rfl,rfl⟩;exact⟨_,rfl,λh'=>.pure (.int _ _),Below.refl _ _⟩
theorem FnOK.contains {g:Nat} (c:Globs.I g=true) (H: ∀ (s sub:ByteArray) (m:Int) (w:World),s.size<4294967281->w.cell? ⟨g,0,none⟩=some (.int .i64 m)->Calls P f #[.string s,.string sub] w λe w'=>e=.returned (.bool (Lib.contains s.data.toList sub.data.toList))/\w'=w)
  (s sub:List UInt8) (hs:s.length<4294967281):FnOK P f [.str s,.str sub] (.bool (Lib.contains s sub)):=by
 refine FnOK.quiet (by intros;simp) fun φ h w vs a b hv=>?_;obtain⟨u,v,rfl,d,hv⟩:=vs2 hv;rw[d.str_inv,hv.str_inv];obtain⟨⟨arr,ty,fr,m,h1,h2⟩,_⟩:=a.i g c;refine (H ⟨s.toArray⟩ ⟨sub.toArray⟩ m w (by simpa [ByteArray.size] using hs) (by simp[World.cell?,h1,h2])).mono ?_;rintro e w' ⟨rfl,rfl⟩;exact⟨_,rfl,λh'=>.pure (.bool _),Below.refl _ _⟩
theorem FnOK.strcmp (H: ∀ (a b:ByteArray) (w:World),Calls P f #[.string a,.string b] w λe w'=>e=.returned (.int .i64 (Lib.compareBytes a.data.toList b.data.toList))/\w'=w) (a b:List UInt8) :
  FnOK P f [.str a,.str b] (.int .i64 (Lib.compareBytes a b)):=by
 refine FnOK.quiet (by intros;simp) fun φ h w vs d c hv=>?_;obtain⟨u,v,rfl,g,hv⟩:=vs2 hv;rw[g.str_inv,hv.str_inv];refine (H ⟨a.toArray⟩ ⟨b.toArray⟩ w).mono ?_;rintro e w' ⟨rfl,rfl⟩;exact⟨_,rfl,λh'=>.pure (.int _ _),Below.refl _ _⟩
theorem FnOK.atoiOK (s:List UInt8) (n:Int) (H: ∀ w:World,Calls P f #[.string ⟨s.toArray⟩] w λe w'=>e=.returned (.tuple #[.int .i64 n,.nilIface])/\(w'=w\/ ∃ (b:TypeId) (t:ByteArray),w'=Lib.bytesWorld w b t)) :
  FnOK P f [.str s] (.tuple [.int .i64 n,.raw .nilIface]):=by
 refine FnOK.quiet (by intros;simp) fun φ h w vs g c hv=>?_;obtain⟨u,rfl,i⟩:=vs1 hv;rw[i.str_inv];refine (H w).mono ?_;rintro e w' ⟨rfl,k⟩;refine⟨_,rfl,λh'=>.tuple _ _ rfl λj d a=>?_,?_⟩
 ·match j with
  |0=>simp at a;subst a;exact .pure (.int _ _)
  |1=>simp at a;subst a;exact .pure (.raw _ rfl)
  |j+2=>simp at a
 ·rcases k with rfl|⟨b,t,rfl⟩
  ·exact Below.refl _ _
  ·exact Lib.bytesWorld_below w b t
theorem FnOK.atoiNo {g:Nat} (q:Globs.G g=some [.ifc]) (s:List UInt8) (n:Int) (H: ∀ (i:Value) (w:World) (hv:w.cell? ⟨g,0,none⟩=some i) (v:i=.nilIface\/ ∃ m l,i=.iface m l),
   Calls P f #[.string ⟨s.toArray⟩] w λe w'=>∃ (t:TypeId) (N:Nat),e=.returned (.tuple #[.int .i64 n,.iface t (.pointer (some ⟨N,0,none⟩))])/\Below w.heap.size w w'):FnOK P f [.str s] (.tuple [.int .i64 n,.ifc]):=by
 refine FnOK.quiet (by intros;simp) fun φ h w vs k c hv=>?_;obtain⟨u,rfl,x⟩:=vs1 hv;rw[x.str_inv];obtain⟨b,o,vals,p,hm,hr⟩:=(k.ok g _ q).fptr_inv;simp only[Value.pointer.injEq,Option.some.injEq,Addr.mk.injEq,and_true] at p;obtain⟨rfl,rfl⟩:=p;have hc:=c _ _ _ (hm 0 .ifc rfl);obtain⟨m,l,hi⟩:=(RV.pure (h:=h) (hr 0 .ifc rfl)).ifc_inv;refine (H _ w hc (.inr ⟨m,l,hi⟩)).mono ?_;rintro e w' ⟨t,N,rfl,r⟩;refine⟨_,rfl,λh'=>.tuple _ _ rfl λj d a=>?_,r⟩
 match j with
 |0=>simp at a;subst a;exact .pure (.int _ _)
 |1=>simp at a;subst a;exact .pure (.ifc _ _)
 |j+2=>simp at a
theorem FnOK.itoa {g:Nat} {name:String} (d:Globs.X g=some (Lib.pow10Tab.map λz=>Value.int .u64 z).toArray) (j:P.globalNamed name=some g)
  (H: ∀ (n:Int) (h0: -9223372036854775808<=n) (h1:n<=9223372036854775807) (w:World) (a:Lib.TabIs P w name .u64 Lib.pow10Tab),Calls P f #[.int .i64 n] w λe w'=>e=.returned (.string ⟨(Lib.itoa n).toArray⟩)/\ ∃ k os,w'=Sort.grow (w.drewN k) os)
  (n:Int) (h0: -9223372036854775808<=n) (h1:n<=9223372036854775807):FnOK P f [.int .i64 n] (.str (Lib.itoa n)):=by
 refine FnOK.quiet (by intros;simp) fun φ h w vs b c hv=>?_;obtain⟨u,rfl,l⟩:=vs1 hv;rw[l.int_inv];obtain⟨⟨ty,fr,hh⟩,_⟩:=b.x g _ d;have a:Lib.TabIs P w name .u64 Lib.pow10Tab:=by
  unfold Lib.TabIs World.var?;rw[j];simp only[Option.bind_some,hh]
 refine (H n h0 h1 w a).mono ?_;rintro e w' ⟨rfl,k,os,rfl⟩;refine⟨_,rfl,λh'=>.pure (.str _),?_⟩;refine⟨rfl,rfl,rfl,by simp[Sort.grow],λi hi=>?_⟩;show ((w.drewN k).heap++os)[i]? = _;rw[Array.getElem?_append_left (by show i<w.heap.size;omega)];rfl
theorem FnOK.join (H0: ∀ (a:Option Addr) (c:Nat) (sep:ByteArray) (w:World),Calls P f #[.slice a 0 c,.string sep] w λe w'=>e=.returned (.string ⟨#[]⟩)/\w'=w)
  (H: ∀ (q o c:Nat) (xs:List ByteArray) (sep:ByteArray) (w:World) (p: ∀ (j:Nat) x,xs[j]? = some x->w.cell? ⟨q,o+j,none⟩=some (.string x)) (A:q<w.heap.size) (I:xs.length<=140737488355328) (hcap:xs.length<=c) (s:(Lib.join (xs.map (·.data.toList)) sep.data.toList).length<=140737488355328),
   Calls P f #[.slice (some ⟨q,o,none⟩) xs.length c,.string sep] w λe w'=>e=.returned (.string ⟨(Lib.join (xs.map (·.data.toList)) sep.data.toList).toArray⟩)/\Below w.heap.size w w')
  (ts:List (List UInt8)) (ext:List (List D)) (sep:List UInt8) (F:ts.length<=140737488355328) (E:(Lib.join ts sep).length<=140737488355328) :
  FnOK P f [.slice (ts.map λt=>[.str t]) ext,.str sep] (.str (Lib.join ts sep)):=by
 refine FnOK.quiet (by intros;simp) fun φ h w vs C l hv=>?_;obtain⟨u,v,rfl,G,hv⟩:=vs2 hv;rw[hv.str_inv];have i: ∀ a c,ts=[]->Calls P f #[.slice a 0 c,.string ⟨sep.toArray⟩] w λe w'=>∃ v,e=.returned v/\(∀ h',RV φ h' v (.str (Lib.join ts sep)))/\Below w.heap.size w w':=by
  rintro a c rfl;refine (H0 a c ⟨sep.toArray⟩ w).mono ?_;rintro e w' ⟨rfl,rfl⟩;exact⟨_,rfl,λh'=>by rw[Lib.join_nil];exact .pure (.str []),Below.refl _ _⟩
 rcases G.slice_inv.slice_inv with⟨⟨a,c,rfl,_⟩,B,_⟩|⟨b,off,cap,sz,vals,rfl,hcap,hsz,hmem,hrep⟩
 ·exact i a c (by simpa using B)
 ·cases d:ts with
  |nil=>rw[<- d];simpa [d] using i (some ⟨b,off,none⟩) cap d
  |cons t0 K =>
   have m:sz=1:=by have:=hsz [.str t0] (by simp[d]);simpa using this.symm
   subst m;have g: ∀ (j:Nat) (t:List UInt8),ts[j]? = some t->w.cell? ⟨b,off+j,none⟩=some (.string ⟨t.toArray⟩):=λj t n=>by
    have r:j<ts.length:=by
     rcases Nat.lt_or_ge j ts.length with h|h
     ·exact h
     ·rw[List.getElem?_eq_none h] at n;cases n
    have h1:((ts.map λt=>([.str t]:List D))++ext)[j]? = some [.str t]:=by
     rw[List.getElem?_append_left (by simpa using r)];simp[n]
    have h2:=l _ _ _ (hmem j _ 0 _ h1 rfl);have y:=(RV.pure (h:=h) (hrep j _ 0 _ h1 rfl)).str_inv;rw[y] at h2;simpa using h2
   have z:b<w.heap.size:=World.block_lt_of_cell? _ _ (g 0 t0 (by simp[d]));have hm:(ts.map λt=>(⟨t.toArray⟩:ByteArray)).map (·.data.toList)=ts:=by simp[List.map_map,Function.comp_def]
   have:=H b off cap (ts.map λt=>⟨t.toArray⟩) ⟨sep.toArray⟩ w (λj x hx=>by
     simp only[List.getElem?_map,Option.map_eq_some_iff] at hx;obtain⟨t,n,rfl⟩:=hx;exact g j t n) z (by simpa using F) (by simp at hcap ⊢;omega) (by rw[hm];exact E)
   rw[hm] at this;rw[<- d];simp only[List.length_map] at this ⊢;refine this.mono ?_;rintro e w' ⟨rfl,k⟩;exact⟨_,rfl,λh'=>.pure (.str _),k⟩
theorem FnOK.fields {g:Nat} {ty:TypeId} {cs:List D} (F:Globs.G g=some cs) (r: ∀ c:Nat,c<256->cs[c]? = some (.int .u8 (if Lib.isSp (UInt8.ofNat c) then 1 else 0)))
  (H: ∀ (s:ByteArray) (w:World) (hs:s.size<4294967281) (t: ∀ (j:Nat) b,s.data.toList[j]? = some b->b.toNat<128)
   (A: ∀ c:Nat,c<256->w.cell? ⟨g,c,none⟩=some (.int .u8 (if Lib.isSp (UInt8.ofNat c) then 1 else 0))),
   Calls P f #[.string s] w λe w' =>
    e=.returned (.slice (some ⟨w.heap.size,0,none⟩) (Lib.fields s.data.toList).length (Lib.fields s.data.toList).length)/\w'=w.alloc (.cells ((Lib.fields s.data.toList).map λl=>Value.string ⟨l.toArray⟩).toArray ty))
  (s:List UInt8) (hs:s.length<4294967281) (ha: ∀ b∈s,b.toNat<128):FnOK P f [.str s] (.slice ((Lib.fields s).map λx=>[.str x]) []):=by
 intro φ h w vs C y m hsz q;have z:RVL φ h vs.toList [.str s]:=ZB _ _ (by simpa using hsz) λj d n=>by have:=q j d n;simpa [Array.getD_eq_getD_getElem?,List.getD] using this
 obtain⟨u,rfl,a⟩:=vs1 z;rw[a.str_inv];obtain⟨b,o,vals,k,hm,hr⟩:=(y.ok g _ F).fptr_inv;simp only[Value.pointer.injEq,Option.some.injEq,Addr.mk.injEq,and_true] at k;obtain⟨rfl,rfl⟩:=k;have A: ∀ c:Nat,c<256->w.cell? ⟨g,c,none⟩=some (.int .u8 (if Lib.isSp (UInt8.ofNat c) then 1 else 0)):=λc hc=>by
  have h1:=hm c _ (r c hc);have h2:=(RV.pure (h:=h) (hr c _ (r c hc))).int_inv;rw[h2] at h1;simpa using m _ _ _ h1
 refine (H ⟨s.toArray⟩ w (by simpa [ByteArray.size] using hs) (λj b v=>ha b (List.mem_of_getElem? (by simpa using v))) A).mono ?_;rintro e w' ⟨rfl,rfl⟩;simp only;have E:=(Below.refl w.heap.size w).alloc (Nat.le_refl _) (.cells ((Lib.fields s).map λl=>Value.string ⟨l.toArray⟩).toArray ty);have p: ∀ b o u,φ b o=some u->b<w.heap.size:=λb o u a=>Sub.lt (w:=w) m a;refine⟨_,λb o=>if b=w.heap.size then (if o<(Lib.fields s).length then some (.string ⟨((Lib.fields s).getD o []).toArray⟩) else none) else φ b o,rfl,λh'=>.pure ?_,E,?_,?_,?_⟩
 ·have hl:(Lib.fields s).length=((Lib.fields s).map λx=>([.str x]:List D)).length:=by simp
  conv=>lhs;rw[hl]
  have key: ∀ i (e:List D) j d,(((Lib.fields s).map λx=>([.str x]:List D))++[])[i]? = some e->e[j]? = some d->j=0/\i<(Lib.fields s).length/\d=.str ((Lib.fields s).getD i []):=by
   intro i e j d k n;simp only[List.append_nil,List.getElem?_map,Option.map_eq_some_iff] at k;obtain⟨x,hx,rfl⟩:=k;have G:j=0:=by
    cases j with
    |zero=>rfl
    |succ j=>simp at n
   subst G;simp at n;subst n;have:i<(Lib.fields s).length:=by
    rcases Nat.lt_or_ge i (Lib.fields s).length with h|h
    ·exact h
    ·rw[List.getElem?_eq_none h] at hx;cases hx
   exact⟨rfl,this,by simp[hx]⟩
  refine .slice w.heap.size 0 _ 1 _ _ (λi _=>.string ⟨((Lib.fields s).getD i []).toArray⟩) (by simp) (λe k=>?_) (λi e j d k n=>?_) (λi e j d k n=>?_)
  ·simp only[List.append_nil,List.mem_map] at k;obtain⟨x,_,rfl⟩:=k;rfl
  ·obtain⟨rfl,hi,rfl⟩:=key i e j d k n;simp[hi]
  ·obtain⟨rfl,hi,rfl⟩:=key i e j d k n;exact .str _
 ·intro b o u a
  have:=p b o u a;simp only;rw[if_neg (by omega)];exact a
 ·intro b o u a;simp only at a;split at a
  ·rename_i v;split at a
   ·rename_i I;cases a;subst v;rw[World.cell?_alloc_new];simp[List.getD,I]
   ·cases a
  ·rw[World.cell?_alloc_lt _ _ _ (p b o u a)];exact m b o u a
 ·intro b o u a B;simp only at a;split at a
  ·omega
  ·rw[a] at B;cases B
end Go.Sx
namespace Go.Sx
open Go.RowKit Go.Deep
/- WHAT COMES IN: a value that a row's reading goes through,as plain data. -/
inductive Sh where
 |bool
 |int (k:IntKind)
 |str
 |slice (e:List Sh)
mutual
def Sh.fit (B:Nat):Sh->D->Prop
 |.bool,d=>∃ b,d=.bool b
 |.int k,d=>∃ n,d=.int k n/\(Lit.int k n).wf=true
 |.str,d=>∃ s,d=.str s/\s.length<=B
 |.slice l,d=>∃ es,d=.slice es []/\es.length<=B/\ ∀ e,e∈es->Sh.fits B l e
def Sh.fits (B:Nat):List Sh->List D->Prop
 |[],ds=>ds=[]
 |s::r,ds=>∃ d t,ds=d::t/\Sh.fit B s d/\Sh.fits B r t
end
def fsh (P:Program) (sh:TypeId->Option (List Sh)):List Field->Nat->Option (List Sh)
 |[],_=>some []
 |f::r,off=>if f.offset=off then match sh f.type with
  |some l=>if l.length=P.cellsOf f.type then match fsh P sh r (off+l.length) with
   |some m=>some (l++m)
   |none=>none
   else none
  |none=>none
  else none
def shOf (P:Program):Nat->TypeId->Option (List Sh)
 |0,_=>none
 |n+1,t=>match P.underlying t with
  |some .bool=>some [.bool]
  |some (.int k)=>some [.int k]
  |some .string=>some [.str]
  |some (.slice e)=>if 0<P.bytesOf e then match shOf P n e with
   |some l=>if l.length=P.cellsOf e/\0<l.length then some [.slice l] else none
   |none=>none
   else none
  |some (.struct fs)=>match fsh P (shOf P n) fs.toList 0 with
   |some l=>if l.length=P.cellsOf t then some l else none
   |none=>none
  |_=>none
theorem Z6X {B:Nat}: ∀ {l:List Sh} {ds:List D},Sh.fits B l ds->ds.length=l.length
 |[],ds,h=>by simp only[Sh.fits] at h;simp[h]
 |s::r,ds,h=>by
  simp only[Sh.fits] at h;obtain⟨d,t,rfl,_,h2⟩:=h;simp[Z6X h2]
theorem Z2X {B:Nat}: ∀ {l m:List Sh} {ds es:List D},Sh.fits B l ds->Sh.fits B m es->Sh.fits B (l++m) (ds++es)
 |[],m,ds,es,h,k=>by simp only[Sh.fits] at h;simpa [h] using k
 |s::r,m,ds,es,h,k=>by
  simp only[Sh.fits] at h;obtain⟨d,t,rfl,h1,h2⟩:=h;simp only[List.cons_append,Sh.fits];exact⟨d,t++es,rfl,h1,Z2X h2 k⟩
def memW (w:World):Mem:=λb o=>w.cell? ⟨b,o,none⟩
def CRp (φ:Mem) (cs:List Value) (ds:List D):Prop:=cs.length=ds.length/\ ∀ (j:Nat) (v:Value) (d:D),cs[j]? = some v->ds[j]? = some d->Rep φ v d
theorem CRp.append {φ:Mem} {a b:List Value} {d e:List D} (h:CRp φ a d) (k:CRp φ b e):CRp φ (a++b) (d++e):=by
 refine⟨by simp[h.1,k.1],λj v x hv hx=>?_⟩;rcases Nat.lt_or_ge j a.length with c|c
 ·rw[List.getElem?_append_left c] at hv;rw[List.getElem?_append_left (by rw[<- h.1];exact c)] at hx;exact h.2 j v x hv hx
 ·rw[List.getElem?_append_right c] at hv;rw[List.getElem?_append_right (by rw[<- h.1];exact c),<- h.1] at hx;exact k.2 _ v x hv hx
theorem addP (b off n:Nat):Addr.add ⟨b,off,none⟩ n=⟨b,off+n,none⟩:=by
 unfold Addr.add;split
 ·rename_i h;subst h;rfl
 ·rfl
def Zlz (v:Value):Prop:=∀ a n c,v=.slice (some a) n c->a.spot=none
variable {H:Type} {enc:TypeId × Value->H} {P:Program} {w:World}
def wOK (B:Nat) (l:List Nat):Prop:=∀ x∈l,x<=B
theorem Z5E (B:Nat): ∀ (n L:Nat) (t:TypeId) (cs:List Value) (x:DataW H × List MemPlace) (l:List Sh),shOf P n t=some l →
  DataW.trod enc P w 0 (λ_=>true) true L t cs=some x->wOK B (x.1.weights P t)-> ∃ ds,Sh.fits B l ds/\CRp (memW w) cs ds
 |0,_,_,_,_,_,h,_,_=>by simp[shOf] at h
 |n+1,L,t,cs,x,l,h,ht,hw=>by
  unfold shOf at h;split at h
  ·rename_i G;cases h;obtain⟨b,rfl,_⟩:=DataW.trod_bool G ht;exact⟨[.bool b],⟨_,_,rfl,⟨b,rfl⟩,rfl⟩,rfl,λj v d hv c=>by
    cases j with
    |zero=>simp at hv c;subst hv;subst c;exact .bool b
    |succ j=>simp at hv⟩
  ·rename_i k G;cases h;obtain⟨m,rfl,_,hwf⟩:=DataW.trod_int G ht;exact⟨[.int k m],⟨_,_,rfl,⟨m,rfl,hwf⟩,rfl⟩,rfl,λj v d hv c=>by
    cases j with
    |zero=>simp at hv c;subst hv;subst c;exact .int k m
    |succ j=>simp at hv⟩
  ·rename_i G;cases h;obtain⟨s,rfl,rfl,_⟩:=DataW.trod_string G ht;refine⟨[.str s.data.toList],⟨_,_,rfl,⟨_,rfl,?_⟩,rfl⟩,rfl,λj v d hv c=>?_⟩
   ·exact hw _ (by simp[DataW.weights])
   ·cases j with
    |zero =>
     simp at hv c;subst hv;subst c
     have:=Rep.str (φ:=memW w) s.data.toList;simpa using this
    |succ j=>simp at hv
  ·rename_i e G;split at h
   ·rename_i hby;split at h
    ·rename_i le T;split at h
     ·rename_i C;cases h;rcases open_slice G ht with⟨rfl,rfl⟩|⟨a,len,cap,m,n',D',Pl,rfl,_,hlc,_,hm,rfl,hx⟩
      ·refine⟨[.slice [] []],⟨_,_,rfl,⟨[],rfl,Nat.zero_le _,λ_ h=>by cases h⟩,rfl⟩,rfl,λj v d hv c=>?_⟩;cases j with
       |zero=>simp at hv c;subst hv;subst c;exact .nil
       |succ j=>simp at hv
      ·by_cases hl0:len=0
       ·subst hl0;refine⟨[.slice [] []],⟨_,_,rfl,⟨[],rfl,Nat.zero_le _,λ_ h=>by cases h⟩,rfl⟩,rfl,λj v d hv c=>?_⟩;cases j with
        |zero=>simp at hv c;subst hv;subst c;exact .nilA _ _
        |succ j=>simp at hv
       simp only[if_true] at hm;subst hm;have F:a.spot=none:=by
        obtain⟨cs',h1,_⟩:=hx 0 (by omega);obtain⟨_,hl',O⟩:=World.cells?_some h1;have o:=O 0 (by omega);rw[List.getElem?_eq_getElem (by omega)] at o;cases hs:a.spot with
        |none=>rfl
        |some q =>
         exfalso;have e1:(a.add (0*P.cellsOf e)).add 0=a:=by simp[Addr.add]
         rw[e1] at o;unfold World.cell? at o;split at o
         ·rw[hs] at o;simp at o
         ·cases o
       obtain⟨b,off,spot⟩:=a;simp only at F;subst F;have hwl:len<=B/\ ∀ i,i<len->wOK B ((D' i).weights P e):=by
        simp only[DataW.weights,G] at hw;refine⟨?_,λi hi y N=>?_⟩
        ·have:=hw _ (List.mem_cons_self ..);simp only[List.length_map,List.length_range] at this;have h2:len<=(len+(m-len))*P.bytesOf e:=Nat.le_trans (Nat.le_add_right _ _) (Nat.le_mul_of_pos_right _ hby);omega
        ·refine hw y (List.mem_cons_of_mem _ (List.mem_append_left _ ?_));have key: ∀ (l:List (DataW H)) (d:DataW H),d∈l-> ∀ y∈d.weights P e,y∈DataW.weightsAll P e l:=by
          intro l;induction l with
          |nil=>intro d c;cases c
          |cons z r ih =>
           intro d c y N;simp only[DataW.weightsAll];rcases List.mem_cons.1 c with rfl|c
           ·exact List.mem_append_left _ N
           ·exact List.mem_append_right _ (ih d c y N)
         exact key _ _ (List.mem_map.2 ⟨i,List.mem_range.2 hi,rfl⟩) y N
       have Y: ∀ i,i<len-> ∃ ds,Sh.fits B le ds/\ ∃ cs',w.cells? 0 (Addr.add ⟨b,off,none⟩ (i*P.cellsOf e)) (P.cellsOf e)=some cs'/\CRp (memW w) cs' ds:=λi hi=>by
        obtain⟨cs',h1,h2⟩:=hx i (by omega);obtain⟨ds,o,h4⟩:=Z5E B n n' e cs' _ le T h2 (hwl.2 i hi);exact⟨ds,o,cs',h1,h4⟩
       obtain⟨ds,S⟩:=choose_lt (α:=List D) (p:=λi ds=>Sh.fits B le ds/\ ∃ cs',w.cells? 0 (Addr.add ⟨b,off,none⟩ (i*P.cellsOf e)) (P.cellsOf e)=some cs'/\CRp (memW w) cs' ds) Y;have M: ∀ (i:Nat) (q:List D),((List.range len).map ds++[])[i]? = some q->i<len/\q=ds i:=by
        intro i q E;simp only[List.append_nil,List.getElem?_map,Option.map_eq_some_iff] at E;obtain⟨i',hi',rfl⟩:=E;have h1:=List.getElem?_eq_some_iff.1 hi';obtain⟨h2,o⟩:=h1;simp at h2 o;subst o;exact⟨h2,rfl⟩
       refine⟨[.slice ((List.range len).map ds) []],⟨_,_,rfl,⟨_,rfl,by simpa using hwl.1,λq E=>?_⟩,rfl⟩,rfl,λj v d hv c=>?_⟩
       ·obtain⟨i,hi,rfl⟩:=List.mem_map.1 E;exact (S i (List.mem_range.1 hi)).1
       ·cases j with
        |succ j=>simp at hv
        |zero =>
         simp at hv c;subst hv;subst c;have hl:len=((List.range len).map ds).length:=by simp
         have A: ∀ i j x,i<len->(ds i)[j]? = some x-> ∃ v,w.cell? ⟨b,off+i*P.cellsOf e+j,none⟩=some v/\Rep (memW w) v x:=λi j x hi u=>by
          obtain⟨_,cs',h1,h2⟩:=S i hi;obtain⟨_,hl',O⟩:=World.cells?_some h1;have hj:j<cs'.length:=by
           rcases Nat.lt_or_ge j cs'.length with h|h
           ·exact h
           ·rw[List.getElem?_eq_none (by rw[<- h2.1];exact h)] at u;cases u
          have o:=O j (by omega);rw[List.getElem?_eq_getElem hj] at o;have h4:w.cell? ⟨b,off+i*P.cellsOf e+j,none⟩=some cs'[j]:=by rw[addP,addP] at o;exact o
          exact⟨_,h4,h2.2 j _ x (List.getElem?_eq_getElem hj) u⟩
         conv=>lhs;rw[hl]
         refine .slice b off m (P.cellsOf e) _ _ (λi j=>(w.cell? ⟨b,off+i*P.cellsOf e+j,none⟩).getD Go.undef) (by simp;omega) (λq E=>?_) (λi q j x E u=>?_) (λi q j x E u=>?_)
         ·simp only[List.append_nil] at E;obtain⟨i,hi,rfl⟩:=List.mem_map.1 E;rw[Z6X (S i (List.mem_range.1 hi)).1,C.1]
         ·obtain⟨hi,rfl⟩:=M i q E;obtain⟨v,h1,_⟩:=A i j x hi u;show w.cell? _=_;rw[h1];rfl
         ·obtain⟨hi,rfl⟩:=M i q E;obtain⟨v,h1,h2⟩:=A i j x hi u;rw[h1];exact h2
     ·cases h
    ·cases h
   ·cases h
  ·rename_i fs G;split at h
   ·rename_i lf hlf;split at h
    ·rename_i C;cases h;obtain⟨xs,n',_,rfl,hcl,hxl,hx⟩:=DataW.trod_struct G ht;have key: ∀ (r:List Field) (i off:Nat) (m:List Sh),(∀ k f,r[k]? = some f->fs[i+k]? = some f)->fsh P (shOf P n) r off=some m->wOK B (DataW.weightsEach P (r.map (·.type)) ((xs.drop i).map (·.1))) →
       ∃ ds,Sh.fits B m ds/\((off+m.length<=cs.length)->CRp (memW w) ((cs.drop off).take m.length) ds):=by
      intro r;induction r with
      |nil=>intro i off m _ hm _;simp only[fsh,Option.some.injEq] at hm;subst hm;exact⟨[],rfl,λ_=>⟨by simp,λj v d hv=>by simp at hv⟩⟩
      |cons f r ih =>
       intro i off m hr hm K;simp only[fsh] at hm;split at hm
       ·rename_i X;split at hm
        ·rename_i l1 hl1;split at hm
         ·rename_i W;split at hm
          ·rename_i m1 hm1;cases hm;have hf:fs[i]? = some f:=by simpa using hr 0 f rfl
           have hxi:=hx i f hf;have V:i<xs.length:=by
            have:=(Array.getElem?_eq_some_iff.1 hf).1;omega
           rw[List.getElem?_eq_getElem V] at hxi;have Q:xs.drop i=xs[i]::xs.drop (i+1):=List.drop_eq_getElem_cons V;rw[Q] at K;simp only[List.map_cons,DataW.weightsEach] at K;obtain⟨d1,hd1,U⟩:=Z5E B n n' f.type _ _ l1 hl1 hxi (λy N=>K y (List.mem_append_left _ N));obtain⟨d2,hd2,hc2⟩:=ih (i+1) (off+l1.length) m1 (λk g hg=>by have:=hr (k+1) g (by simpa using hg);rwa [show i+1+k=i+(k+1) by omega]) hm1 (λy N=>K y (List.mem_append_right _ N));refine⟨d1++d2,Z2X hd1 hd2,λT=>?_⟩;rw[List.length_append] at T
           have:=hc2 (by omega);have I:(cs.drop off).take (l1++m1).length=(cs.drop off).take l1.length++(cs.drop (off+l1.length)).take m1.length:=by
            rw[List.length_append,List.take_add,List.drop_drop]
           rw[I];rw[X,<- W] at U;exact U.append this
          ·cases hm
         ·cases hm
        ·cases hm
       ·cases hm
     obtain⟨ds,h1,h2⟩:=key fs.toList 0 0 l (λk f hk=>by simpa using hk) hlf (by simpa [DataW.weights,G] using hw);refine⟨ds,h1,?_⟩
     have:=h2 (by omega);simpa [C,<- hcl] using this
    ·cases h
   ·cases h
  ·cases h
end Go.Sx
/- From a law's walk to its contract,for any parameters that are read. -/
namespace Go.Sx
open Go.RowKit Go.ChangeShapes Go.WideShapes
theorem Z7J {H:Type} {enc:TypeId × Value->H} {P:Program} {f:Func} {s:ChangeSpec} {c fresh d:Bool} {W W':World} {args:Array Value} {v:Value} {ds i:List (DataW H)} {a pa pv:List MemPlace}
  (l:DataW.Whole enc P f.params.toList s.vars c W args.toList ds i a)
  (j: ∀ (b:Nat) (sp:Nat->Bool) (n:Bool),DataW.TrodAll enc P W' b sp n f.resultTypes.toList (v.resultList f.resultTypes.size) (s.fn H (ds++i)).results [])
  (e:DataW.TrodAll enc P W' 0 (λb=>decide (b<W.heap.size)) true f.params.toList args.toList (s.fn H (ds++i)).args pa)
  (g:DataW.TrodVars enc P W' (λb=>decide (b<W.heap.size)) s.vars (s.fn H (ds++i)).vars pv)
  (k:a=pa++pv) (m:Below W.heap.size W W'):s.post enc P f c fresh d false W args v W':=by
 refine⟨ds,i,a,[],pa,pv,l,j _ _ _,e,g,World.keptBut_mono (λp hp=>⟨hp,?_⟩) (m.frame (· ∈ a)),λh=>by cases h⟩;rw[k,List.mem_append] at hp;exact Or.inr hp
variable {P:Program}
def FitA (P:Program) (B:Nat):List TypeId->List D->Prop
 |[],[]=>True
 |t::ts,a::b=>(∃ l cs,shOf P 6 t=some l/\Sh.fits B l cs/\(if aggB P t=some true then a=.agg cs else cs=[a]))/\FitA P B ts b
 |_,_=>False
theorem Z7K {w:World} {r:Reach} {base n:Nat} {t:TypeId} {v:Value} {l:List Sh} (hs:shOf P n t=some l) (h:Value.okWide P w r base t v) :
  (aggB P t=some true/\ ∃ cs,v=.agg cs)\/(aggB P t=some false/\v.cells=#[v]):=by
 cases n with
 |zero=>simp[shOf] at hs
 |succ n =>
  unfold shOf at hs;unfold aggB;unfold Value.okWide at h;split at hs
  ·rename_i a;rw[a] at h ⊢;simp only[Cell.okWide,a] at h;refine .inr ⟨rfl,?_⟩;cases v<;>simp_all [Cell.ok,Value.cells]
  ·rename_i k a;rw[a] at h ⊢;simp only[Cell.okWide,a] at h;refine .inr ⟨rfl,?_⟩;cases v<;>simp_all [Cell.ok,Value.cells]
  ·rename_i a;rw[a] at h ⊢;simp only[Cell.okWide,a] at h;refine .inr ⟨rfl,?_⟩;cases v<;>simp_all [Cell.ok,Value.cells]
  ·rename_i e a;rw[a] at h ⊢;simp only[Cell.okWide,a] at h;refine .inr ⟨rfl,?_⟩;cases v<;>simp_all [Cell.ok,Value.cells]
  ·rename_i fs a;rw[a] at h ⊢;simp only at h;obtain⟨cs,rfl,_⟩:=h;exact .inl ⟨rfl,cs,rfl⟩
  ·cases hs
variable {H:Type} {enc:TypeId × Value->H} {w:World}
variable [Globs] [Codes]
theorem Z4O (B:Nat) {r:Reach} {base:Nat}: ∀ (ts:List TypeId) (vs:List Value) (ds:List (DataW H)) (ps:List MemPlace),DataW.TrodAll enc P w 0 (λ_=>true) true ts vs ds ps->wOK B (DataW.weightsEach P ts ds) →
  (∀ t∈ts,(shOf P 6 t).isSome=true)->(∀ (j:Nat) t v,ts[j]? = some t->vs[j]? = some v->Value.okWide P w r base t v)-> ∃ b,RVL (memW w) noH vs b/\FitA P B ts b
 |[],vs,ds,ps,h,_,_,_=>by
  obtain⟨rfl,rfl,rfl⟩:=trodAll_nil h;exact⟨[],trivial,trivial⟩
 |t::ts,vs,ds,ps,h,o,hs,hv=>by
  obtain⟨v,s,d,k,p,q,rfl,rfl,rfl,h0,hr⟩:=trodAll_cons h;simp only[DataW.weightsEach] at o;obtain⟨b,h1,h2⟩:=Z4O B ts s k q hr (λx hx=>o x (List.mem_append_right _ hx)) (λt z=>hs t (List.mem_cons_of_mem _ z)) (λj t v m n=>hv (j+1) t v (by simpa using m) (by simpa using n));obtain⟨l,hl⟩:=Option.isSome_iff_exists.1 (hs t (List.mem_cons_self ..));obtain⟨e,hf⟩:=h0;obtain⟨cs,i,c⟩:=Z5E B 6 e t _ _ l hl hf (λx hx=>o x (List.mem_append_left _ hx));rcases Z7K hl (hv 0 t v rfl rfl) with⟨ha,vs2,rfl⟩|⟨ha,hc⟩
  ·refine⟨.agg cs::b,⟨.agg vs2 cs (by simpa [Value.cells] using c.1) λj d y=>?_,h1⟩,⟨l,cs,hl,i,by rw[if_pos ha]⟩,h2⟩;simp only[Value.cells] at c;have g:j<vs2.size:=by
    have:=(List.getElem?_eq_some_iff.1 y).1;rw[<- c.1] at this;simpa using this
   have m:vs2.toList[j]? = some (vs2.getD j Go.undef):=by
    rw[List.getElem?_eq_getElem (by simpa using g)];simp[Array.getD,g]
   exact .pure (c.2 j _ d m y)
  ·rw[hc] at c;have u:=c.1;simp only[List.length_cons,List.length_nil] at u
   match cs,u,i,c with
   |[a],_,i,c =>
    exact⟨a::b,⟨.pure (c.2 0 v a rfl rfl),h1⟩,⟨l,[a],hl,i,by rw[if_neg (by rw[ha];simp)]⟩,h2⟩
theorem Zaf {f:FuncId} {fn:Func} {s:ChangeSpec} {ts:List TypeId} {tb:TypeId} (hp:fn.params.toList=ts) (hr:fn.resultTypes.toList=[tb]) (Q:P.underlying tb=some .bool) (a:s.vars=[]) (S:s.plain.varTypes P=[])
  (M: ∀ (H:Type) (ds:List (DataW H)),ds.length=ts.length->s.fn H ds={results:=[.lit (.bool true)],args:=ds}) (O: ∀ t∈ts,(shOf P 6 t).isSome=true) (l:laidOutB P=true)
  (m: ∀ t∈ts,P.readableRec t=true/\t<P.types.size) (y: ∀ c,FitA P 281474976710656 ts c->FnOK P f c (.bool true))
  {W:World} {base:Nat} {args:Array Value} {ds X:List (DataW H)} {g:List MemPlace}
  (E: ∀ (j:Nat) t v,fn.params[j]? = some t->args[j]? = some v->Value.okWide P W .any base t v)
  (hW:DataW.Whole enc P fn.params.toList s.vars false W args.toList ds X g)
  (hsz:(DataW.weightsEach P (fn.params.toList++s.plain.varTypes P) (ds++X)).all (· <= reachBytes)=true)
  (hg:GlobC (memW W) W (λ_=>False)) :
  Calls P f args W λe W'=>∃ v,e=.returned v/\s.post enc P fn false true false false W args v W':=by
 have i:=hW;obtain⟨p,q,K,Y,rfl,hfz,hnd⟩:=hW;have F:DataW.TrodAll enc P W 0 (λ_=>true) true fn.params.toList args.toList ds p:=K;rw[a] at Y;obtain⟨rfl,rfl⟩:=trodVars_none Y;rw[hp] at F;rw[S,hp,List.append_nil,List.append_nil] at hsz;have T:wOK 281474976710656 (DataW.weightsEach P ts ds):=λx hx=>by
  simp only[List.all_eq_true,decide_eq_true_eq] at hsz
  have:=hsz x hx;unfold reachBytes at this;omega
 have r: ∀ (j:Nat) t v,ts[j]? = some t->args.toList[j]? = some v->Value.okWide P W .any base t v:=λj t v hj hv=>E j t v (by rw[<- hp] at hj;simpa using hj) (by simpa using hv);obtain⟨c,C,u⟩:=Z4O 281474976710656 ts args.toList ds p F T O r;have z: ∀ (ts:List TypeId) (vs:List Value) (ds:List (DataW H)) (p:List MemPlace),DataW.TrodAll enc P W 0 (λ_=>true) true ts vs ds p->ds.length=ts.length:=by
  intro ts;induction ts with
  |nil=>intro vs ds p h;obtain⟨rfl,rfl,rfl⟩:=trodAll_nil h;rfl
  |cons t ts U=>intro vs ds p h;obtain⟨v,V,d,I,p,q,rfl,rfl,rfl,_,hr⟩:=trodAll_cons h;simp[U _ _ _ hr]
 have L:=z _ _ _ _ F;have k:=y c u (memW W) noH W args (λ_=>rfl) hg (λb o v h=>h) (by simpa using C.length) (λj d hd=>by
  have:=C.get j d hd;simpa [Array.getD_eq_getD_getElem?,List.getD] using this)
 simp only[List.append_nil] at i;refine k.mono λe W' ⟨v,φ',he,B,hb,_⟩=>?_;subst he;have hv:v=.bool true:=(B noH).bool_inv;subst hv;have N: ∀ x∈p,x.block<W.heap.size:=λx hx=>by simpa using i.lt x (by simpa using hx)
 have key: ∀ (ts:List TypeId) (vs:List Value) (ds:List (DataW H)) (p:List MemPlace),(∀ t∈ts,P.readableRec t=true/\t<P.types.size)->(∀ x∈p,x.block<W.heap.size)->DataW.TrodAll enc P W 0 (λ_=>true) true ts vs ds p →
   DataW.TrodAll enc P W' 0 (λb=>decide (b<W.heap.size)) true ts vs ds p:=by
  intro ts;induction ts with
  |nil=>intro vs ds p _ _ h;obtain⟨rfl,rfl,rfl⟩:=trodAll_nil h;exact trodAll_mk0
  |cons t ts U =>
   intro vs ds p A hx h;obtain⟨v,V,d,I,p,q,rfl,rfl,rfl,h0,hr⟩:=trodAll_cons h;have G:=A t (List.mem_cons_self ..);exact trodAll_cons_mk (Below.trod l G.1 G.2 h0 hb (λx h=>hx x (List.mem_append_left _ h))) (U _ _ _ (λt G=>A t (List.mem_cons_of_mem _ G)) (λx h=>hx x (List.mem_append_right _ h)) hr)
 have n:=M H ds L;refine⟨_,rfl,Z7J (pa:=p) (pv:=[]) i (λ_ _ _=>?_) ?_ ?_ (by simp) hb⟩
 ·rw[List.append_nil,n,hr];have:fn.resultTypes.size=1:=by rw[<- Array.length_toList,hr];rfl
  rw[this];exact trodAll_cons_mk (shut_bool Q _) trodAll_mk0
 ·rw[List.append_nil,n,hp];exact key _ _ _ _ m N F
 ·rw[List.append_nil,n,a];rfl
end Go.Sx
namespace Go.Sx
variable {P:Program}
theorem Zg1 {B:Nat} {b:List D} (h:FitA P B [] b):b=[]:=by
 cases b with
 |nil=>rfl
 |cons a r=>exact h.elim
theorem Zg0 {B:Nat} {t:TypeId} {ts:List TypeId} {b:List D} (h:FitA P B (t::ts) b) (hs:shOf P 6 t=some [.str]) (ha:aggB P t=some false): ∃ s c,b=.str s::c/\s.length<=B/\FitA P B ts c:=by
 cases b with
 |nil=>exact h.elim
 |cons a r =>
  obtain⟨⟨l,cs,hl,hf,hc⟩,hr⟩:=h;obtain rfl:=Option.some.inj (hs.symm.trans hl);rw[if_neg (by rw[ha];simp)] at hc;subst hc;simp only[Sh.fits,Sh.fit] at hf;obtain⟨d,ds,g,⟨s,rfl,e⟩,rfl⟩:=hf;cases g;exact⟨s,r,rfl,e,hr⟩
end Go.Sx
/- TERMS: A TYPE THAT RECURS,AS PLAIN DATA. -/
namespace Go.Sx
open Go.RowKit Go.Deep Go.ChangeShapes Go.WideShapes
inductive Tm where
 |mk (k:Nat) (n:Int) (s:List UInt8) (l:List Tm)
 deriving Inhabited
mutual
def Tm.cells:Tm->List D
 |.mk k n s l=>[.int .u8 (k:Int),.int .i64 n,.str s,.slice (Tm.cellsL l) []]
def Tm.cellsL:List Tm->List (List D)
 |[]=>[]
 |a::r=>a.cells::Tm.cellsL r
end
mutual
def Tm.wf (B:Nat):Tm->Prop
 |.mk k n s l=>k<=255/\ -9223372036854775808<=n/\n<=9223372036854775807/\s.length<=B/\l.length<=B/\Tm.wfL B l
def Tm.wfL (B:Nat):List Tm->Prop
 |[]=>True
 |a::r=>a.wf B/\Tm.wfL B r
end
theorem Ql: ∀ l:List Tm,Tm.cellsL l=l.map Tm.cells
 |[]=>rfl
 |a::r=>by rw[Tm.cellsL,Ql r];rfl
theorem QJ (l:List Tm):(Tm.cellsL l).length=l.length:=by rw[Ql];simp
theorem Z0i (t:Tm):t.cells.length=4:=by cases t;rfl
theorem Z5f {B:Nat}: ∀ {l:List Tm},Tm.wfL B l ↔ ∀ t∈l,t.wf B
 |[]=>by simp[Tm.wfL]
 |a::r=>by simp[Tm.wfL,Z5f (l:=r)]
structure IsTm (P:Program) (T:TypeId) (fs:Array Field) (f0 f1 f2 f3:Field):Prop where
 u:P.underlying T=some (.struct fs)
 l:fs.toList=[f0,f1,f2,f3]
 o0:f0.offset=0
 o1:f1.offset=1
 o2:f2.offset=2
 o3:f3.offset=3
 c0:P.cellsOf f0.type=1
 c1:P.cellsOf f1.type=1
 c2:P.cellsOf f2.type=1
 c3:P.cellsOf f3.type=1
 c:P.cellsOf T=4
 b:0<P.bytesOf T
 u0:P.underlying f0.type=some (.int .u8)
 u1:P.underlying f1.type=some (.int .i64)
 u2:P.underlying f2.type=some .string
 u3:P.underlying f3.type=some (.slice T)
variable {H:Type} {enc:TypeId × Value->H} {P:Program} {w:World}
section
variable [Globs] [Codes]
end
end Go.Sx
namespace Go.Sx
open Go.RowKit
variable [Globs] [Codes]
/- THE WALK BY TREES: all ways through a text at once,up to the heads of loops;calls by contracts. -/
inductive RT where
 |ok (p:Prop) (r:D) (ob:Obs)
 |br (b:Bool) (x y:RT)
def RT.says (C:D->Obs->Prop):RT->Prop
 |.ok p r ob=>p->C r ob
 |.br b x y=>match b with
  |true=>x.says C
  |false=>y.says C
structure Ctr where
 F:Nat->FuncId->List D->Option RT:=λ_ _ _=>none
 C:Nat->D->List D->Obs->Option RT:=λ_ _ _ _=>none
 E:Nat->Int->List D:=λ_ _=>[]
structure Ctr.OK (tb:Ctr) (P:Program):Prop where
 F: ∀ t f az rt,tb.F t f az=some rt->rt.says λr _=>FnOK P f az r
 C: ∀ t d az ob rt,tb.C t d az ob=some rt->rt.says λr ob'=>CallL P d az ob λr0 ob0=>r0=r/\ob0=ob'
inductive Tr where
 |ret (r:D) (ob:Obs)
 |jmp (K:List Fr) (s:St)
 |owe (p:Prop) (x:Tr)
 |bad
def brT (b:Bool) (x y:Tr):Tr:=match b with
 |true=>x
 |false=>y
def Tr.ok (R:D->Obs->Prop) (J:List Fr->St->Prop):Tr->Prop
 |.ret r ob=>R r ob
 |.jmp K s=>J K s
 |.owe p x=>p/\x.ok R J
 |.bad=>False
section
variable {R:D->Obs->Prop} {J:List Fr->St->Prop}
theorem Zn {r:D} {ob:Obs}:(Tr.ret r ob).ok R J=R r ob:=rfl
theorem Z0r {K:List Fr} {s:St}:(Tr.jmp K s).ok R J=J K s:=rfl
theorem Zs {p:Prop} {x:Tr}:(Tr.owe p x).ok R J=(p/\x.ok R J):=rfl
theorem Qw {b:Bool} {x y:Tr}:(brT b x y).ok R J=((b=true->x.ok R J)/\(b=false->y.ok R J)):=by
 cases b<;>simp[brT]
theorem QF {x y:Tr}:(brT true x y)=x:=rfl
theorem Q8 {x y:Tr}:(brT false x y)=y:=rfl
end
theorem SS:(∀ {R:D->Obs->Prop} {J:List Fr->St->Prop} {b:Bool} {x y:Tr},(brT b x y).ok R J=((b=true->x.ok R J)/\(b=false->y.ok R J))) ∧
  (∀ {R:D->Obs->Prop} {J:List Fr->St->Prop} {p:Prop} {x:Tr},(Tr.owe p x).ok R J=(p/\x.ok R J)) ∧
  (∀ {R:D->Obs->Prop} {J:List Fr->St->Prop} {r:D} {ob:Obs},(Tr.ret r ob).ok R J=R r ob) ∧
  (∀ {R:D->Obs->Prop} {J:List Fr->St->Prop} {K:List Fr} {s:St},(Tr.jmp K s).ok R J=J K s) ∧
  (∀ {p:Prop} [Decidable p],(decide p=true)=p)/\(∀ {p:Prop} [Decidable p],decide p=false ↔ ¬ p)/\(∀ n:Nat,(n:Int).toNat=n) ∧
  (∀ p:Prop,(True/\p)=p)/\(∀ p:Prop,(p/\True)=p)/\(∀ b:Bool,((!b)=true)=(b=false))/\(∀ b:Bool,((!b)=false)=(b=true)) ∧
  (∀ {α:Type} {l:List α},l.drop 0=l)/\(∀ {α:Type} {l:List α},l.take l.length=l) ∧
  (∀ {a b:Bool},(D.bool a=D.bool b)=(a=b))/\(∀ {k l:IntKind} {a b:Int},(D.int k a=D.int l b)=(k=l/\a=b))/\(∀ {a b:List UInt8},(D.str a=D.str b)=(a=b)) ∧
  (∀ p:Prop,(True->p)=p)/\(∀ a:Int,a<=a) :=
 ⟨Qw,Zs,Zn,Z0r,decide_eq_true_eq,decide_eq_false_iff_not,Int.toNat_natCast,true_and,and_true,Bool.not_eq_true',Bool.not_eq_false',List.drop_zero,List.take_length,by simp only[D.bool.injEq,implies_true],by simp only[D.int.injEq,implies_true],by simp only[D.str.injEq,implies_true],λp=>true_implies p,Int.le_refl⟩
def Zk (sz:Nat) (es:List (List D)):Prop:=∀ q∈es,q.length=sz
theorem Z1k (sz:Nat):Zk sz []:=λq a=>by cases a
theorem Z0d {sz:Nat} {e:List D} {es:List (List D)}:Zk sz (e::es) ↔ e.length=sz/\Zk sz es:=by simp[Zk]
theorem Z3R {α:Type} {sz:Nat} {f:α->List D} (hf: ∀ a,(f a).length=sz) (l:List α):Zk sz (l.map f):=λq b=>by
 obtain⟨a,_,rfl⟩:=List.mem_map.1 b;exact hf a
def arT (k:IntKind) (n:Int) (K:D->Tr):Tr:=match k with
 |.i64=>.owe (-9223372036854775808<=n/\n<=9223372036854775807) (K (.int .i64 n))
 |k=>K (.int k (k.wrap n))
def oneT (d:Option D) (K:D->Tr):Tr:=match d with
 |some d=>K d
 |none=>.bad
def binT (op:BinOp) (k:IntKind) (a b:Int) (K:D->Tr):Tr:=match op with
 |.add=>arT k (a+b) K
 |.sub=>arT k (a-b) K
 |.mul=>arT k (a*b) K
 |.quo=>.owe (b≠0) (arT k (a.tdiv b) K)
 |.rem=>.owe (b≠0) (K (.int k (a.tmod b)))
 |op=>oneT (Zck op k a b) K
def Zgh (op:BinOp) (a b:List UInt8) (K:D->Tr):Tr:=match op with
 |.add=>.owe (a.length+b.length<=4611686018427387904) (K (.str (a++b)))
 |op=>oneT (Zci op a b) K
def iaT (c:List D) (sz:Nat) (es:List (List D)) (n:Int) (K:D->Tr):Tr:=match c with
 |[]=>.owe (0<=n/\n<es.length/\(es.getD n.toNat []).length=sz) (K (.fptr (es.getD n.toNat [])))
 |c::cs=>if (c::cs).length=sz then .owe (0<=n/\es[n.toNat]? = some (c::cs)) (K (.fptr (c::cs))) else .bad
def rtT:RT->(D->Obs->Tr)->Tr
 |.ok p r ob,K=>.owe p (K r ob)
 |.br b x y,K=>brT b (rtT x K) (rtT y K)
def mfT (key:D):List D->List D->(Option D->Tr)->Tr
 |[],[],K=>K none
 |k::ks,d::ds,K=>match keqD key k with
  |some b=>brT b (K (some d)) (mfT key ks ds K)
  |none=>.bad
 |_,_,_=>.bad
def evT (tb:Ctr) (t dst:Nat) (o:AOp) (xs:List D) (obs:Nat->Option Ob) (K:D->Option Ob->Tr):Tr :=
 match o,xs with
 |.pick,[.bool c,a,b]=>brT c (K a none) (K b none)
 |.bin op,[.int k a,.int l b]=>if k=l then binT op k a b (λd=>K d none) else .bad
 |.bin op,[.str a,.str b]=>Zgh op a b (λd=>K d none)
 |.un .neg,[.int k a]=>arT k (0-a) (λd=>K d none)
 |.conv k,[.int _ n]=>arT k n (λd=>K d none)
 |.iaddr sz,[.slice es _,.int _ n]=>iaT (tb.E t n) sz es n (λd=>K d none)
 |.iaddr sz,[.vec id,.int _ n]=>match obs id with
  |some (.arr true _ _ es)=>iaT (tb.E t n) sz es n (λd=>K d none)
  |some (.arr false g _ es)=>if g=sz then .owe (0<=n/\n<es.length) (K (.vptr id n.toNat 0 sz) none) else .bad
  |_=>.bad
 |.index,[.str s,.int _ n]=>.owe (0<=n/\n<s.length) (K (.int .u8 (s.getD n.toNat 0).toNat) none)
 |.sliceS lo hi,.str s::bs=>match Z0c lo hi s.length bs with
  |some (a,b)=>.owe (0<=a/\a<=b/\b<=s.length) (K (.str ((s.take b.toNat).drop a.toNat)) none)
  |none=>.bad
 |.slice sz lo hi,d::bs=>match Z05 obs d with
  |some (es,ext)=>match Z0c lo hi es.length bs with
   |some (a,b)=>.owe (Zk sz (es++ext)/\0<=a/\a<=b/\b<=(es++ext).length) (match tb.E t 0 with
    |[.slice A X]=>.owe (((es++ext).take b.toNat).drop a.toNat=A/\(es++ext).drop b.toNat=X) (K (.slice A X) none)
    |_=>K (.slice (((es++ext).take b.toNat).drop a.toNat) ((es++ext).drop b.toNat)) none)
   |none=>.bad
  |none=>(match d,bs with
   |.vec id,[.int _ n]=>(match lo,hi with
    |true,false=>(match obs id with
     |some (.arr false g _ es)=>if g=sz then .owe (es≠[]/\0<=n/\n<=es.length) (K (.vwin id n.toNat sz) none) else .bad
     |_=>.bad)
    |_,_=>.bad)
   |_,_=>.bad)
 |.call f,ds=>match tb.F t f (ds.map (dv obs)) with
  |some rt=>rtT rt λr _=>K (Zce dst r).1 (Zce dst r).2
  |none=>.bad
 |.iaddrA len sz,[.fptr cs,.int _ n]=>.owe (0<=n/\n<len) (K (.fptr (cs.drop (n.toNat*sz))) none)
 |.iaddrA len sz,[.ptr id off,.int _ n]=>.owe (0<=n/\n<len) (K (.ptr id (off+n.toNat*sz)) none)
 |.sh left,[.int k a,.int _ b]=>.owe (0<=b) (K (.int k (shI left k a b)) none)
 |.b2s,[d]=>match Z1Z obs d with
  |some es=>.owe (es=byC (QC es)) (K (.str (QC es)) none)
  |none=>.bad
 |.mks fz sz e z bt,[.int _ n]=>if z.all D.pur=true then .owe (0<=n/\n*bt<=281474976710656/\n<=1073741824) (K (.vec dst) (some (.arr fz sz e (List.replicate n.toNat z)))) else .bad
 |.mlook kd z,[.map id,key]=>match obs id with
  |some (.gen (.map ks) ds)=>if isKD kd key=true then mfT key ks ds (λr=>K (r.getD z) none) else .bad
  |_=>.bad
 |.load agg sz,[.vptr id i j g]=>match tb.E t (i:Int) with
  |[]=>(match evE (λ_ _=>none) dst (.load agg sz) [.vptr id i j g] obs with
   |some (d,nb)=>K d nb
   |none=>.bad)
  |c::cs=>match obs id with
   |some (.arr false h _ es)=>if h=g/\j+sz<=g then .owe (es[i]? = some (c::cs)) (match agg with
    |true=>K (.agg (((c::cs).drop j).take sz)) none
    |false=>oneT ((c::cs)[j]?) λd=>K d none) else .bad
   |_=>.bad
 |.ext (.eqs3 m),xs=>(match extD (.eqs3 m) xs obs with
  |some d=>K d none
  |none=>.bad)
 |.ext k,xs=>match tb.E t 0 with
  |d::_=>.owe (extD k xs obs=some d) (K d none)
  |[]=>(match extD k xs obs with
   |some d=>K d none
   |none=>.bad)
 |.mm big,.int k a::ds=>match mmI big k a ds with
  |some r=>(match tb.E t 0 with
   |[.int .i64 q]=>.owe (k=.i64/\r=q) (K (.int .i64 q) none)
   |_=>K (.int k r) none)
  |none=>.bad
 |o,xs=>match evE (λ_ _=>none) dst o xs obs with
  |some (d,nb)=>K d nb
  |none=>.bad
theorem Zb3 {n:Int} (h: -9223372036854775808<=n/\n<=9223372036854775807):IntKind.i64.wrap n=n:=by
 rw[IntKind.wrap_i64];omega
section
variable {R:D->Obs->Prop} {J:List Fr->St->Prop} {P:Program}
theorem Z3Q {k:IntKind} {n:Int} {K:D->Tr} (h:(arT k n K).ok R J):(K (.int k (k.wrap n))).ok R J:=by
 unfold arT at h;split at h
 ·rw[Zb3 h.1];exact h.2
 ·exact h
theorem Z5G {d:Option D} {K:D->Tr} (h:(oneT d K).ok R J): ∃ r,d=some r/\(K r).ok R J:=by
 cases d with
 |none=>exact h.elim
 |some d=>exact⟨d,rfl,h⟩
theorem Zgg {op:BinOp} {k:IntKind} {a b:Int} {K:D->Tr} (h:(binT op k a b K).ok R J):binI op k a b λd=>(K d).ok R J:=by
 unfold binT at h;split at h
 ·exact Z3Q h
 ·exact Z3Q h
 ·exact Z3Q h
 ·exact⟨h.1,Z3Q h.2⟩
 ·exact⟨h.1,h.2⟩
 ·obtain⟨r,hr,c⟩:=Z5G h;exact Z3b hr c
theorem Zch {op:BinOp} {a b:List UInt8} {K:D->Tr} (h:(Zgh op a b K).ok R J):binS op a b λd=>(K d).ok R J:=by
 unfold Zgh at h;split at h
 ·exact⟨h.1,h.2⟩
 ·obtain⟨r,hr,c⟩:=Z5G h;exact Z3a hr c
theorem Zdp {c:List D} {sz:Nat} {es:List (List D)} {n:Int} {K:D->Tr} (h:(iaT c sz es n K).ok R J):0<=n/\n<es.length/\(es.getD n.toNat []).length=sz/\(K (.fptr (es.getD n.toNat []))).ok R J:=by
 unfold iaT at h;split at h
 ·exact⟨h.1.1,h.1.2.1,h.1.2.2,h.2⟩
 ·rename_i c cs;split at h
  ·rename_i hsz;obtain⟨⟨h0,h1⟩,h2⟩:=h;have b:=(List.getElem?_eq_some_iff.1 h1).1;have a:es.getD n.toNat []=c::cs:=by simp[List.getD,h1]
   rw[a];exact⟨h0,by omega,hsz,h2⟩
  ·exact h.elim
theorem Z2i {C:D->Obs->Prop} {K:D->Obs->Tr}: ∀ {rt:RT},rt.says C->(rtT rt K).ok R J-> ∃ r ob,C r ob/\(K r ob).ok R J
 |.ok p r ob,hs,h=>⟨r,ob,hs h.1,h.2⟩
 |.br b x y,hs,h=>by
  cases b
  ·exact Z2i (rt:=y) hs h
  ·exact Z2i (rt:=x) hs h
theorem Z57 {b:Bool} {x y:Tr} (h:(brT b x y).ok R J):(b=true/\x.ok R J)\/(b=false/\y.ok R J):=by
 cases b
 ·exact .inr ⟨rfl,h⟩
 ·exact .inl ⟨rfl,h⟩
theorem Zdm {key:D}: ∀ {ks ds:List D} {K:Option D->Tr},(mfT key ks ds K).ok R J-> ∃ r,Z2r key ks ds=some r/\(K r).ok R J
 |[],[],K,h=>⟨none,rfl,h⟩
 |[],_::_,K,h=>h.elim
 |_::_,[],K,h=>h.elim
 |k::ks,d::ds,K,h=>by
  simp only[mfT] at h;simp only[Z2r];cases a:keqD key k with
  |none=>rw[a] at h;exact h.elim
  |some b =>
   rw[a] at h;rcases Z57 h with⟨rfl,h⟩|⟨rfl,h⟩
   ·exact⟨some d,rfl,h⟩
   ·exact Zdm h
theorem Zdr {tb:Ctr} (g:tb.OK P) {t dst:Nat} {op:AOp} {xs:List D} {obs:Nat->Option Ob} {K:D->Option Ob->Tr} (h:(evT tb t dst op xs obs K).ok R J):evl P dst op xs obs λd nb=>(K d nb).ok R J:=by
 unfold evT at h;split at h
 case h_1=> 
  rcases Z57 h with⟨rfl,h⟩|⟨rfl,h⟩
  ·exact h
  ·exact h
 case h_2 =>
  split at h
  ·rename_i b;exact⟨b,Zgg h⟩
  ·exact h.elim
 case h_3=>exact Zch h
 case h_4=>exact Z3Q h
 case h_5=>exact Z3Q h
 case h_6=>exact Zdp h
 case h_7 =>
  simp only[evl];split at h
  ·rename_i heq;rw[heq];exact Zdp h
  ·rename_i heq;rw[heq];split at h
   ·rename_i hs;exact⟨hs,h.1.1,h.1.2,h.2⟩
   ·exact h.elim
  ·exact h.elim
 case h_8=>exact⟨h.1.1,h.1.2,h.2⟩
 case h_9 =>
  simp only[evl];split at h
  ·rename_i heq;simp only[heq];exact⟨h.1.1,h.1.2.1,h.1.2.2,h.2⟩
  ·exact h.elim
 case h_10 =>
  simp only[evl];split at h
  ·rename_i heq;rw[heq];simp only;split at h
   ·rename_i a;simp only[a];have h2:=h.2;refine⟨h.1.1,h.1.2.1,h.1.2.2.1,h.1.2.2.2,?_⟩;split at h2
    ·rw[h2.1.1,h2.1.2];exact h2.2
    ·exact h2
   ·exact h.elim
  ·rename_i heq;rw[heq];simp only;split at h
   ·split at h
    ·split at h
     ·rename_i a;simp only[a];split at h
      ·rename_i hc;exact⟨hc,h.1.1,h.1.2.1,h.1.2.2,h.2⟩
      ·exact h.elim
     ·exact h.elim
    ·exact h.elim
   ·exact h.elim
 case h_11 =>
  split at h
  ·rename_i rt e;obtain⟨r,ob,hf,b⟩:=Z2i (g.F _ _ _ _ e) h;refine⟨r,hf,?_⟩;cases r<;>exact b
  ·exact h.elim
 case h_12=>exact⟨h.1.1,h.1.2,h.2⟩
 case h_13=>exact⟨h.1.1,h.1.2,h.2⟩
 case h_14=>exact⟨h.1,h.2⟩
 case h_15 =>
  simp only[evl];split at h
  ·rename_i heq;simp only[heq];exact⟨h.1,h.2⟩
  ·exact h.elim
 case h_16 =>
  split at h
  ·rename_i hp;exact⟨hp,h.1.1,h.1.2.1,h.1.2.2,h.2⟩
  ·exact h.elim
 case h_17 =>
  simp only[evl];split at h
  ·rename_i heq;rw[heq];split at h
   ·rename_i hc;obtain⟨r,hr,b⟩:=Zdm h;simp only[hr];exact⟨hc,b⟩
   ·exact h.elim
  ·exact h.elim
 case h_18 =>
  split at h
  ·split at h
   ·rename_i heq;exact Z0u (fn:=λ_ _=>none) (P:=P) (λ_ _ _ h=>by cases h) heq h
   ·exact h.elim
  ·rename_i c cs _;simp only[evl];split at h
   ·rename_i heq;rw[heq];split at h
    ·rename_i hc;refine⟨hc.1,hc.2,?_⟩;rw[h.1];have h2:=h.2;split at h2
     ·exact h2
     ·obtain⟨d,i,b⟩:=Z5G h2;simp only[Bool.false_eq_true,if_false,i];exact b
    ·exact h.elim
   ·exact h.elim
 case h_19 =>
  split at h
  ·rename_i heq;show evl P dst (.ext _) _ obs _;unfold evl;simp only[heq];exact h
  ·exact h.elim
 case h_20 =>
  split at h
  ·rename_i d _ _;show evl P dst (.ext _) _ obs _;unfold evl;simp only[h.1];exact h.2
  ·unfold evl;split at h
   ·rename_i heq;simp only[heq];exact h
   ·exact h.elim
 case h_21 =>
  simp only[evl];split at h
  ·rename_i heq;simp only[heq];split at h
   ·obtain⟨⟨rfl,rfl⟩,h⟩:=h;exact h
   ·exact h
  ·exact h.elim
 case h_22 =>
  split at h
  ·rename_i heq;exact Z0u (fn:=λ_ _=>none) (P:=P) (λ_ _ _ h=>by cases h) heq h
  ·exact h.elim
end
end Go.Sx
