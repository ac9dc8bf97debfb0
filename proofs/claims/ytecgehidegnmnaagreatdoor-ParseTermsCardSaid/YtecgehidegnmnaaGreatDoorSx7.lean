/- Own work: a layer over the kit: plain data,a walk over it,its soundness. -/
import Derived.Lib.Join
import Derived.Lib.Fields
import Derived.Lib.Atoi
import Derived.Lib.ConvBytes
import Derived.Lib.AtoiErrMem
import Derived.Lib.Bytealg
import Derived.Lib.ItoaNum
import Derived.Lib.LaidTab
import Derived.Shelf.Strconv.Itoa3
import Derived.Sort.Grow
import Derived.Deep.Slices
import Derived.ChangeArms
import Derived.WalkKit
import Derived.OpenShut
import Derived.SevenTiedAt
import Derived.Carry
import Derived.Test.YtecgehidegnmnaaGreatDoorSx6
set_option linter.all false
namespace Go.Sx
open Go.RowKit
variable [Globs] [Codes]
theorem Z9e {P:Program} {b:Nat} {o:SOp} {s:St} {Kn Kn':St->Prop} {Kp Kp':Value->St->Prop} (h:stpX P b o s Kn Kp) (c: ∀ s,Kn s->Kn' s) (hp: ∀ v s,Kp v s->Kp' v s):stpX P b o s Kn' Kp':=by
 cases o with
 |st g sz x y=>exact Z1L (P:=P) (b:=b) (o:=.st g sz x y) h c
 |app dst g fz sz e x y=>exact Z1L (P:=P) (b:=b) (o:=.app dst g fz sz e x y) h c
 |cd dst g x xs =>
  refine Qv (λq=>?_) (c _) h;obtain⟨nm,R,base,h1,h2,l,m,n,p⟩:=q;refine⟨nm,R,base,h1,h2,l,m,n,λr ob' hr=>?_⟩;rcases p r ob' hr with⟨i,j⟩|⟨v,i,j⟩
  ·exact .inl ⟨i,c _ j⟩
  ·exact .inr ⟨v,i,hp _ _ j⟩
 |a dst g op xs =>
  by_cases k:dst=none/\op=.pnk/\ ∃ x,xs=[x]
  ·obtain⟨rfl,rfl,x,rfl⟩:=k;exact Qv (λ⟨t,u,h1,h2⟩=>⟨t,u,h1,hp _ _ h2⟩) (c _) h
  ·have e: ∀ Kn Kp,stpX P b (.a dst g op xs) s Kn Kp=stp P b (.a dst g op xs) s Kn:=λKn Kp=>by
    cases dst with
    |some d=>rfl
    |none=>cases op<;>first|rfl|(cases xs with
      |nil=>rfl
      |cons x r=>cases r with
       |nil=>exact absurd ⟨rfl,rfl,x,rfl⟩ k
       |cons _ _=>rfl)
   rw[e] at h ⊢;exact Z1L h c
theorem Z9d {P:Program} {b:Nat} {o:SOp} {s:St} {K:St->Prop} {Kp:Value->St->Prop} (h:stp P b o s K):stpX P b o s K Kp:=by
 cases o with
 |st g sz x y=>exact h
 |app dst g fz sz e x y=>exact h
 |cd dst g x xs =>
  refine Qv (λc=>?_) id h;obtain⟨nm,R,base,h1,h2,j,k,l,m⟩:=c;exact⟨nm,R,base,h1,h2,j,k,l,λr ob' hr=>.inl (m r ob' hr)⟩
 |a dst g op xs =>
  by_cases i:dst=none/\op=.pnk/\ ∃ x,xs=[x]
  ·obtain⟨rfl,rfl,x,rfl⟩:=i;exact Qv (λc=>c.elim) id h
  ·have e:stpX P b (.a dst g op xs) s K Kp=stp P b (.a dst g op xs) s K:=by
    cases dst with
    |some d=>rfl
    |none=>cases op<;>first|rfl|(cases xs with
      |nil=>rfl
      |cons x r=>cases r with
       |nil=>exact absurd ⟨rfl,rfl,x,rfl⟩ i
       |cons _ _=>rfl)
   rw[e];exact h
theorem Z3N {P:Program} {b:Nat}: ∀ {ops:List SOp} {s:St} {Kn Kn':St->Prop} {Kp Kp':Value->St->Prop},Z23 P b ops s Kn Kp->(∀ s,Kn s->Kn' s)->(∀ v s,Kp v s->Kp' v s)->Z23 P b ops s Kn' Kp'
 |[],_,_,_,_,_,h,a,_=>a _ h
 |_::_,_,_,_,_,_,h,a,hp=>Z9e h (λ_ hs=>Z3N hs a hp) hp
theorem Z70 {P:Program} {b:Nat}: ∀ {ops:List SOp} {s:St} {K:St->Prop} {Kp:Value->St->Prop},stps P b ops s K->Z23 P b ops s K Kp
 |[],_,_,_,h=>h
 |_::_,_,_,_,h=>Z9d (Z1L h λ_ hs=>Z70 hs)
theorem Z4k {P:Program} {bs:Nat} {k:Sp} {Q Q':Exit->St->Prop} {s:St} (h:spS P bs k Q s) (d: ∀ e s,Q e s->Q' e s):spS P bs k Q' s:=by
 cases k with
 |frg ts=>exact d _ _ h
 |dfr _ _=>exact h.elim
 |rcv _ _=>exact h.elim
 |pan ops=>exact Z3N h (λs=>d _ s) (λv s=>d _ s)
 |ord pre ops =>
  obtain⟨pan,qs,s',h1,h2,m,g⟩:=h;refine⟨pan,qs,s',h1,h2,m,?_⟩;cases pan with
  |none=>exact d _ _ g
  |some q=>exact⟨g.1,d _ _ g.2⟩
 |rng ops dst x =>
  refine Z0X h λs' ⟨j,ks,ds,h1,h2,m,g,n⟩=>⟨j,ks,ds,h1,h2,m,g,λl cl a b c=>d _ _ (n l cl a b c)⟩
 |nxt it t1 t2 =>
  obtain⟨id,l,ix,cl,j,ks,ds,h1,h2,m,g,n,o⟩:=h;exact⟨id,l,ix,cl,j,ks,ds,h1,h2,m,g,λha=>d _ _ (n ha),λi hi p=>d _ _ (o i hi p)⟩
theorem ZS {P:Program} {bs:Nat}: ∀ {c:SC} {s:St} {Q Q':Exit->St->Prop},sw P bs c Q s->(∀ e s,Q e s->Q' e s)->sw P bs c Q' s:=by
 intro c;induction c with
 |skip=>intro s Q Q' h d;exact d _ _ h
 |ret=>intro s Q Q' h d;exact d _ _ h
 |exit id=>intro s Q Q' h d;exact d _ _ h
 |reg ops=>intro s Q Q' h d;exact Z0X h λs=>d _ s
 |spec k=>intro s Q Q' h d;exact Z4k h d
 |drw pre ops=>intro s Q Q' h d;obtain⟨es,s',h1,h2,p⟩:=h;exact⟨es,s',h1,h2,d _ _ p⟩
 |seq a b m n =>
  intro s Q Q' h d;refine m h λe s j=>?_;cases e<;>first|exact n j d|exact d _ _ j
 |cond x a b m n =>
  intro s Q Q' h d;simp only[sw] at h ⊢;split at h
  ·split at h
   ·rename_i u;rw[if_pos u];exact m h d
   ·rename_i u;rw[if_neg u];exact n h d
  ·exact h.elim
 |block id c y =>
  intro s Q Q' h d;refine y h λe s j=>?_;cases e<;>try exact d _ _ j
  rename_i i;simp only[Z0K] at j ⊢;split at j
  ·rename_i hi;rw[if_pos hi];exact d _ _ j
  ·rename_i hi;rw[if_neg hi];exact d _ _ j
 |loop ts c y =>
  intro s Q Q' h d;obtain⟨A,Inv,h1,h2⟩:=h;refine⟨A,Inv,h1,λk s' hi=>y (h2 k s' hi) λe s j=>?_⟩;cases e<;>first|exact j|exact d _ _ j
 |rangeF N g ps a b _ _ =>
  intro s Q Q' h d;obtain⟨nm,R,h1,h2,p,B,C⟩:=h;refine⟨nm,R,h1,h2,p,B,λr ob' hr=>?_⟩;rcases C r ob' hr with⟨v,hv,t⟩|⟨q,l⟩
  ·exact .inl ⟨v,hv,d _ _ t⟩
  refine .inr ⟨q,?_⟩;obtain⟨st,pend,z,asg,body,N',keys,ds,E,F,o⟩:=l;refine⟨st,pend,z,asg,body,N',keys,ds,E,F,?_⟩;split at o
  ·exact d _ _ o
  ·exact d _ _ o
  ·exact d _ _ o
  ·exact o.elim
inductive Fr where
 |sc (c:SC)
 |blk (id:Nat)
structure Tab where
 T:FuncId->Option (Nat × SC × List SR)
 C:FuncId->List D->Obs->Option (D × Obs)
 F:FuncId->List D->Option D:=λ_ _=>none
structure Tab.OK (tab:Tab) (P:Program):Prop where
 T: ∀ f N sc rs,tab.T f=some (N,sc,rs)->FnC P f N sc rs/\QC P f=true
 C: ∀ f az ob r ob',tab.C f az ob=some (r,ob')->QC P f=true/\CallL P (.func (.func f) [] []) az ob λr0 ob0=>r0=r/\ob0=ob'
 F: ∀ f az r,tab.F f az=some r->FnOK P f az r
abbrev GoF:=Nat->List Fr->St->Option (Exit × St)
def finB:Exit->Bool
 |.normal=>true
 |.ret=>true
 |_=>false
def Zcj:Exit->Option (Option Code)
 |.normal=>some none
 |.ret=>some (some .ret)
 |.exit i=>some (some (.exit i))
 |_=>none
def SC.hasD:SC->Bool
 |.seq a b=>(match a with
  |.spec (.dfr _ _)=>true
  |_=>false) ||b.hasD
 |_=>false
abbrev noCl:Z3I:=λ_ _ _=>none
abbrev noFn:FuncId->List D->Option D:=λ_ _=>none
def ZcI (tab:Tab) (g:GoF) (a:FuncId) (first caps:List D) (ob:Obs):Option Obs:=match tab.T a with
 |some (N,.seq (.spec (.rcv t ops)) b,[])=>if (first++caps).length<=N then (match opsE noCl noFn (St.nx ⟨(t,.raw .nilIface)::Za t (Zx 0 (first++caps)),ob⟩ (Obs.top ob)) ops ⟨(t,.raw .nilIface)::Za t (Zx 0 (first++caps)),ob⟩ with
  |some s1=>match g (Obs.top ob) [.sc b] s1 with
   |some (e,s)=>if finB e=true then some ((s.fin (Obs.top ob) (.tuple [])).ob) else none
   |none=>none
  |none=>none) else none
 |_=>none
def finR (k:Nat) (rs:List SR) (s:St):Option (D × Obs):=match rs.mapM (resD s) with
 |some ds=>some ((s.fin k (Z0J ds)).get (.t 0),(s.fin k (Z0J ds)).ob)
 |none=>none
def Z8u (tab:Tab) (g:GoF) (k:Nat) (rs:List SR):SC->St->Option (D × Obs)
 |.seq a b,s=>match a with
  |.spec (.dfr ops x)=>match opsE noCl noFn (s.nx k) ops s with
   |some s1=>match s1.get x with
    |.func (.func h) fa d =>
     let cl:=s1.get x;let k2:=max k (max s1.top (D.top cl))
     (match g k2 [.sc b] s1 with
     |some (e,c)=>if finB e=true then
       (let nm:=Z1C c [cl]
       if Z0z nm=true then (match ZcI tab g h (D.renL (idx · nm) fa) (D.renL (idx · nm) d) (Qg c.ob (idx · nm) 0 nm) with
       |some ob'=>finR k rs (c.back (max k2 c.top) nm ob')
       |none=>none) else none) else none
     |none=>none)
    |_=>none
   |none=>none
  |.spec (.frg ts)=>Z8u tab g k rs b (s.canon k ts)
  |a=>match g k [.sc a] s with
   |some (.normal,s')=>Z8u tab g k rs b s'
   |some (.ret,s')=>finR k rs s'
   |_=>none
 |_,_=>none
def Z3H (tab:Tab) (g:GoF):Z3I:=λd args ob=>match d with
 |.func (.func f) first caps=>match tab.C f (first++args++caps) ob with
  |some x=>some x
  |none=>match tab.T f with
   |some (N,sc,rs)=>if (first++args++caps).length<=N then if sc.hasD=true then Z8u tab g (Obs.top ob) rs sc ⟨Zx 0 (first++args++caps),ob⟩ else
     (match g (Obs.top ob) [.sc sc] ⟨Zx 0 (first++args++caps),ob⟩ with
     |some (e,s)=>if finB e=true then (match rs.mapM (resD s) with
      |some ds=>some ((s.fin (Obs.top ob) (Z0J ds)).get (.t 0),(s.fin (Obs.top ob) (Z0J ds)).ob)
      |none=>none) else none
     |none=>none) else none
   |none=>none
 |.yld c=>match lk ob c with
  |some (.gen (.loop .ready none ps a b N keys) ds)=>if ps.size=args.length/\(ps.toList.all λt=>decide (t<N))=true then
    (match g (Obs.top ob) [.sc a] ⟨putP (ps.toList.zip args) (keys.zip ds),Za c ob⟩ with
    |some (.normal,s1)=>match g (Obs.top ob) [.sc b] s1 with
     |some (e,h)=>match Zcj e with
      |some pend=>if (lk h.ob c).isNone=true then some (.bool pend.isNone,(c,.gen (.loop (if pend.isNone then .ready else .done) pend ps a b N keys) ds)::(h.canon (Obs.top ob) []).ob) else none
      |none=>none
     |none=>none
    |_=>none) else none
  |_=>none
 |_=>none
def retE (r:D) (ob:Obs):Option D:=match r with
 |.vec id=>match lk (frzO ob) id with
  |some (.arr true sz e es)=>some (.own sz e es)
  |_=>none
 |r=>if D.clo (dvt (lk (frzO ob)) r)=true then some (dvt (lk (frzO ob)) r) else none
def fnE (tab:Tab) (g:GoF):FuncId->List D->Option D:=λf args=>match tab.F f args with
 |some r=>some r
 |none=>match Z3H tab g (.func (.func f) [] []) args [] with
  |some (r,ob)=>retE r ob
  |none=>none
def Z13 (i:Nat):List Fr->Option (List Fr)
 |[]=>none
 |.blk j::K=>if i=j then some K else Z13 i K
 |.sc _::K=>Z13 i K
def rngS (P:Program) (s:St) (c N:Nat) (ps:Array Tmp) (a b:SC):Obs:=(c,recd P .ready none N ps a b s.tm)::s.ob
def Z1u (P:Program) (tab:Tab) (d:GoF):GoF:=λbs K s=>match K with
 |[]=>some (.normal,s)
 |.blk _::K=>d bs K s
 |.sc c::K=>match c with
  |.skip=>d bs K s
  |.ret=>some (.ret,s)
  |.exit i=>match Z13 i K with
   |some K'=>d bs K' s
   |none=>some (.exit i,s)
  |.reg ops=>match opsE (Z3H tab d) (fnE tab d) (s.nx bs) ops s with
   |some s'=>d bs K s'
   |none=>none
  |.drw pre ops=>match canE (Z3H tab d) (fnE tab d) (s.nx bs) ops s with
   |some (es,s')=>if dchk (s.nx bs) pre ops es s=true then d bs K s' else none
   |none=>none
  |.seq a b=>d bs (.sc a:: .sc b::K) s
  |.cond x a b=>match s.get x with
   |.bool t=>d bs (.sc (if t then a else b)::K) s
   |_=>none
  |.block id c=>d bs (.sc c:: .blk id::K) s
  |.loop ts c=>d bs (.sc c:: .sc (.loop ts c)::K) (s.canon bs ts)
  |.spec k=>match k with
   |.frg ts=>d bs K (s.canon bs ts)
   |.pan ops=>(match opsE (Z3H tab d) (fnE tab d) (s.nx bs) ops s with
    |some s'=>d bs K s'
    |none=>none)
   |_=>none
  |.rangeF N g ps a b =>
   let ob1:=rngS P s (s.nx bs) N ps a b;let nm:=Z1C ⟨s.tm,ob1⟩ [s.get g,.yld (s.nx bs)]
   match s.get g with
   |.func (.func f) fa e=>if Z0z nm=true/\((tab.T f).isSome=true) then
     (match Z3H tab d ((s.get g).ren (idx · nm)) [(D.yld (s.nx bs)).ren (idx · nm)] (Qg ob1 (idx · nm) 0 nm) with
     |some (r,ob')=>if r.isPan=true then none else
      let S:=St.back ⟨s.tm,ob1⟩ (s.nx bs+1) nm ob'
      match lk S.ob (s.nx bs) with
      |some (.gen (.loop st pend _ _ _ _ _) _)=>if st=.busy then none else (match pend with
       |none=>d bs K ⟨s.tm,Za (s.nx bs) S.ob⟩
       |some .ret=>some (.ret,⟨s.tm,Za (s.nx bs) S.ob⟩)
       |some (.exit i)=>match Z13 i K with
        |some K'=>d bs K' ⟨s.tm,Za (s.nx bs) S.ob⟩
        |none=>some (.exit i,⟨s.tm,Za (s.nx bs) S.ob⟩)
       |_=>none)
      |_=>none
     |none=>none) else none
   |_=>none
def go (P:Program) (tab:Tab) (n:Nat):GoF:=Nat.rec (λ_ _ _=>none) (λ_ a=>Z1u P tab a) n
theorem Zao (P:Program) (tab:Tab) (n:Nat):go P tab (n+1)=Z1u P tab (go P tab n):=rfl
section
variable {P:Program} {tab:Tab}
def Z30 (P:Program) (tab:Tab) (m bs:Nat) (K:List Fr) (ex:Exit) (s:St) (out:Exit × St):Prop:=match ex with
 |.normal=>go P tab m bs K s=some out
 |.ret=>out=(.ret,s)
 |.exit i=>match Z13 i K with
  |some K'=>go P tab m bs K' s=some out
  |none=>out=(.exit i,s)
 |_=>False
theorem CallL.split {f:FuncId} (hp:QC P f=true) {first args caps:List D} {ob:Obs} {R:D->Obs->Prop} (h:CallL P (.func (.func f) [] []) (first++args++caps) ob R):CallL P (.func (.func f) first caps) args ob R:=by
 intro F g n φ hh w v vs hl hv e;obtain⟨va,vc,rfl,ha,hc,b,c⟩:=Sx.func_inv hv;rw[Ql hp];have a:RVL φ hh (va++vs++vc).toList (first++args++caps):=by
  rw[Array.toList_append,Array.toList_append];exact QI (QI (ZH _ _ (by simpa using ha) λj d hd=>by have:=b j d hd;simpa [Array.getD_eq_getD_getElem?,List.getD] using this) e)
   (ZH _ _ (by simpa using hc) λj d hd=>by have:=c j d hd;simpa [Array.getD_eq_getD_getElem?,List.getD] using this)
 have:=h F g n φ hh w (.func (.func f) #[] #[]) (va++vs++vc) hl (.func _ _ _ _ _ rfl rfl (by simp) (by simp)) a;rw[Ql hp] at this;simpa using this
theorem Z2c {k:Nat} {rs:List SR} {s:St} {r:D} {ob':Obs} (h:finR k rs s=some (r,ob')): ∃ ds,rs.mapM (resD s)=some ds/\RetL k (λr0 ob0=>r0=r/\ob0=ob') s (Z0J ds):=by
 unfold finR at h;split at h
 ·rename_i ds a;simp only[Option.some.injEq,Prod.mk.injEq] at h;exact⟨ds,a,h.1,h.2⟩
 ·cases h
theorem Z6e [CodesOf P] (Z6:DrawSound P) (g:tab.OK P) {n:Nat}
  (j: ∀ bs c s out,go P tab n bs [.sc c] s=some out->sw P bs c (λex s1=>out=(ex,s1)) s) {i:FuncId} {first caps:List D} {ob ob':Obs} (h:ZcI tab (go P tab n) i first caps ob=some ob') :
  CallD P .returning (.func (.func i) first caps) ob λm ob0=>m=.returning/\ob0=ob':=by
 unfold ZcI at h;split at h
 ·rename_i N t ops o k;obtain⟨hf,hp⟩:=g.T i _ _ _ k;split at h
  ·rename_i b;split at h
   ·rename_i s1 d;split at h
    ·rename_i e s l;split at h
     ·rename_i a;simp only[Option.some.injEq] at h;refine CallD.fn Z6 hf (Obs.top ob) (Nat.le_refl _) b rfl (Z0y (P:=P) (fn:=noFn) (cl:=noCl) (λ_ _ _ h=>by cases h) (λ_ _ _ _ _ h=>by cases h) d ?_);refine ZS (j _ _ _ _ l) λex s1 hr=>?_;simp only[Prod.mk.injEq] at hr;obtain⟨rfl,rfl⟩:=hr;refine⟨?_,rfl,h⟩;cases e<;>first|exact .inl rfl|exact .inr rfl|cases a
     ·cases h
    ·cases h
   ·cases h
  ·cases h
 ·cases h
theorem Z6f [CodesOf P] (Z6:DrawSound P) (j:tab.OK P) {n:Nat}
  (g: ∀ bs c s out,go P tab n bs [.sc c] s=some out->sw P bs c (λex s1=>out=(ex,s1)) s) {k:Nat} {rs:List SR} {r:D} {ob':Obs}: ∀ (sc:SC) (s:St),Z8u tab (go P tab n) k rs sc s=some (r,ob') →
  swD P k (EndQ rs (RetL k λr0 ob0=>r0=r/\ob0=ob')) (KDef P k rs λr0 ob0=>r0=r/\ob0=ob') sc s:=by
 intro sc;induction sc with
 |seq a b I t =>
  intro s h;have d:(match go P tab n k [.sc a] s with
   |some (.normal,s')=>Z8u tab (go P tab n) k rs b s'
   |some (.ret,s')=>finR k rs s'
   |_=>none)=some (r,ob')->sw P k a (thenS (swD P k (EndQ rs (RetL k λr0 ob0=>r0=r/\ob0=ob')) (KDef P k rs λr0 ob0=>r0=r/\ob0=ob') b) (EndQ rs (RetL k λr0 ob0=>r0=r/\ob0=ob'))) s:=λh=>by
   split at h
   ·rename_i s' o;refine ZS (g _ _ _ _ o) λex s1 hr=>?_;simp only[Prod.mk.injEq] at hr;obtain⟨rfl,rfl⟩:=hr;exact t _ h
   ·rename_i s' o;refine ZS (g _ _ _ _ o) λex s1 hr=>?_;simp only[Prod.mk.injEq] at hr;obtain⟨rfl,rfl⟩:=hr;exact Z2c h
   ·cases h
  cases a with
  |spec K =>
   cases K with
   |dfr ops x =>
    simp only[Z8u] at h;split at h
    ·rename_i s1 p;refine Z0y (P:=P) (fn:=noFn) (cl:=noCl) (λ_ _ _ h=>by cases h) (λ_ _ _ _ _ h=>by cases h) p ?_;split at h
     ·rename_i v fa E l;split at h
      ·rename_i e B o;split at h
       ·rename_i m;split at h
        ·rename_i y;split at h
         ·rename_i ob1 hr;obtain⟨u,A⟩: ∃ u,tab.T v=some u:=by
           unfold ZcI at hr;split at hr
           ·rename_i G;exact⟨_,G⟩
           ·cases hr
          have z:=(j.T v u.1 u.2.1 u.2.2 A).2;refine⟨v,fa,E,max k (max s1.top (D.top (s1.get x))),l,z,by omega,by omega,by omega,?_⟩;refine ZS (g _ _ _ _ o) λex L q=>?_;simp only[Prod.mk.injEq] at q;obtain⟨rfl,rfl⟩:=q;have F:DQ P k (max k (max s1.top (D.top (s1.get x)))) rs (s1.get x) (λr0 ob0=>r0=r/\ob0=ob') .returning B:=by
           refine⟨_,λC ob0=>C=.returning/\ob0=ob1,max (max k (max s1.top (D.top (s1.get x)))) B.top,ZC y,λi hi=>ZW i hi,by omega,by omega,?_,?_⟩
           ·have:=Z6e Z6 j g hr;rw[l] at this ⊢;exact this
           ·rintro C ob0 ⟨rfl,rfl⟩;exact⟨rfl,Z2c h⟩
          cases e<;>first|exact F|cases m
         ·cases h
        ·cases h
       ·cases h
      ·cases h
     ·cases h
    ·cases h
   |frg ts=>exact t _ h
   |rng _ _ _=>exact d h
   |nxt _ _ _=>exact d h
   |rcv _ _=>exact d h
   |pan _=>exact d h
   |ord _ _=>exact d h
  |_=>exact d h
 |_=>intro s h;cases h
theorem Z3s [CodesOf P] (Z6:DrawSound P) (i:tab.OK P) {n:Nat}
  (j: ∀ bs c s out,go P tab n bs [.sc c] s=some out->sw P bs c (λex s1=>∃ m,m<n/\Z30 P tab m bs [] ex s1 out) s) :
  ∀ d u ob r ob',Z3H tab (go P tab n) d u ob=some (r,ob')->CallL P d u ob λr0 ob0=>r0=r/\ob0=ob':=by
 have o: ∀ {m bs:Nat} {s:St} {out:Exit × St},go P tab m bs [] s=some out->out=(.normal,s):=λ{m bs s out} h=>by
  cases m with
  |zero=>cases h
  |succ m=>rw[Zao] at h;simp only[Z1u,Option.some.injEq] at h;exact h.symm
 have g: ∀ {m bs:Nat} {ex:Exit} {s:St} {out:Exit × St},Z30 P tab m bs [] ex s out->out=(ex,s):=λ{m bs ex s out} h=>by
  cases ex<;>simp only[Z30,Z13] at h
  ·exact o h
  ·exact h
  ·exact h
 intro d u ob r ob' h;unfold Z3H at h;split at h
 ·rename_i f first caps
  split at h
  ·rename_i x B;cases h;obtain⟨hp,hc⟩:=i.C f _ ob r ob' B;exact hc.split hp
  ·split at h
   ·rename_i N sc rs C;obtain⟨hf,hp⟩:=i.T f N sc rs C;split at h
    ·rename_i k;split at h
     ·exact CallL.fnD Z6 hf hp (Obs.top ob) (Nat.le_refl _) k (Z6f Z6 i (λbs c s out y=>ZS (j _ _ _ _ y) λex s1 ⟨m,_,hr⟩=>g hr) _ _ h)
     split at h
     ·rename_i e s y;split at h
      ·rename_i l;split at h
       ·rename_i ds v;simp only[Option.some.injEq,Prod.mk.injEq] at h;obtain⟨rfl,rfl⟩:=h;refine CallL.fn Z6 hf hp (Obs.top ob) (Nat.le_refl _) k (ZS (j _ _ _ _ y) λex s1 ⟨m,_,hr⟩=>?_)
        have:=g hr;simp only[Prod.mk.injEq] at this;obtain⟨rfl,rfl⟩:=this;cases e<;>first|exact⟨ds,v,rfl,rfl⟩|cases l
       ·cases h
      ·cases h
     ·cases h
    ·cases h
   ·cases h
 ·rename_i G;split at h
  ·rename_i ps a b N keys ds q;split at h
   ·rename_i hc;split at h
    ·rename_i s1 z;split at h
     ·rename_i e I A;split at h
      ·rename_i pend p;split at h
       ·rename_i E;simp only[Option.some.injEq,Prod.mk.injEq] at h;obtain⟨rfl,rfl⟩:=h;refine CallL.yld Z6 (Obs.top ob) (Nat.le_refl _) q hc.1 (λt F=>by simpa using List.all_eq_true.1 hc.2 t F) (ZS (j _ _ _ _ z) λex s ⟨m,_,hr⟩=>?_)
        have:=g hr;simp only[Prod.mk.injEq] at this;obtain⟨rfl,rfl⟩:=this;refine ZS (j _ _ _ _ A) λex s ⟨m,_,hr⟩=>?_
        have:=g hr;simp only[Prod.mk.injEq] at this;obtain⟨rfl,rfl⟩:=this;refine⟨by simpa using E,?_⟩;cases e<;>simp only[Zcj,Option.some.injEq,reduceCtorEq] at p<;>(subst p;exact⟨rfl,rfl⟩)
       ·cases h
      ·cases h
     ·cases h
    ·cases h
   ·cases h
  ·cases h
 ·cases h
theorem Z5h {g:GoF} (a:tab.OK P) (m: ∀ f,(tab.T f).isSome=true->QC P f=true) (i: ∀ d b ob r ob',Z3H tab g d b ob=some (r,ob')->CallL P d b ob λr0 ob0=>r0=r/\ob0=ob') :
  ∀ f b r,fnE tab g f b=some r->FnOK P f b r:=by
 intro f b r h;unfold fnE at h;split at h
 ·rename_i r0 k;cases h;exact a.F _ _ _ k
 split at h
 ·rename_i r0 ob hc;have hp:QC P f=true:=by
   unfold Z3H at hc;simp only at hc;split at hc
   ·rename_i x j;exact (a.C f _ _ x.1 x.2 j).1
   ·split at hc
    ·rename_i N sc rs l;exact (a.T f N sc rs l).2
    ·cases hc
  refine FnOK.of_call hp ((i _ _ _ _ _ hc).mono ?_);rintro r1 ob1 ⟨rfl,rfl⟩;unfold retE at h;split at h
  ·rename_i id;split at h
   ·rename_i sz e es hl;cases h;exact .inl ⟨id,sz,e,es,rfl,hl,rfl⟩
   ·cases h
  ·split at h
   ·rename_i c;cases h;exact .inr ⟨c,rfl⟩
   ·cases h
 ·cases h
theorem ZcG [CodesOf P] (Z6:DrawSound P) (d:tab.OK P): ∀ (n bs:Nat) (c:SC) (K:List Fr) (s:St) (out:Exit × St),go P tab n bs (.sc c::K) s=some out->sw P bs c (λex s1=>∃ m,m<n/\Z30 P tab m bs K ex s1 out) s:=by
 intro n;induction n using Nat.strongRecOn with
 |_ n o =>
  intro bs c K s out h;cases n with
  |zero=>cases h
  |succ n =>
   have e:=Z3s (n:=n) Z6 d λbs c s out h=>o n (Nat.lt_succ_self n) bs c [] s out h;have l:=Z5h (g:=go P tab n) d (λf hf=>by
    obtain⟨x,hx⟩:=Option.isSome_iff_exists.1 hf;exact (d.T f x.1 x.2.1 x.2.2 hx).2) e
   rw[Zao] at h;cases c with
   |spec k =>
    cases k with
    |frg ts=>exact⟨n,Nat.lt_succ_self n,h⟩
    |pan ops =>
     simp only[Z1u] at h;split at h
     ·rename_i s' p;exact Z70 (Z0y l e p ⟨n,Nat.lt_succ_self n,h⟩)
     ·cases h
    |_=>cases h
   |skip=>exact⟨n,Nat.lt_succ_self n,h⟩
   |ret=>simp only[Z1u,Option.some.injEq] at h;exact⟨n,Nat.lt_succ_self n,h.symm⟩
   |exit i =>
    refine⟨n,Nat.lt_succ_self n,?_⟩;simp only[Z1u] at h;simp only[Z30];split at h
    ·exact h
    ·simp only[Option.some.injEq] at h;exact h.symm
   |reg ops =>
    simp only[Z1u] at h;split at h
    ·rename_i s' p;exact Z0y l e p ⟨n,Nat.lt_succ_self n,h⟩
    ·cases h
   |drw pre ops =>
    simp only[Z1u] at h;split at h
    ·rename_i es s' p;split at h
     ·rename_i hd;exact⟨es,s',Z4a l e p,hd,n,Nat.lt_succ_self n,h⟩
     ·cases h
    ·cases h
   |seq a b =>
    show sw P bs a (thenS (sw P bs b _) _) s;refine ZS (o n (Nat.lt_succ_self n) bs a _ s out h) λex s1 ⟨m,hm,hr⟩=>?_;cases ex<;>simp only[thenS]
    ·exact ZS (o m (by omega) bs b K s1 out hr) λex E ⟨C,B,u⟩=>⟨C,by omega,u⟩
    ·exact⟨m,by omega,hr⟩
    ·exact hr.elim
    ·exact⟨m,by omega,hr⟩
    all_goals exact hr.elim
   |cond x a b =>
    simp only[Z1u] at h;simp only[sw];split at h
    ·rename_i t hx;rw[hx];simp only;cases t
     ·rw[if_neg (by simp)];exact ZS (o n (Nat.lt_succ_self n) bs b K s out h) λex s1 ⟨m,hm,hr⟩=>⟨m,by omega,hr⟩
     ·rw[if_pos rfl];exact ZS (o n (Nat.lt_succ_self n) bs a K s out h) λex s1 ⟨m,hm,hr⟩=>⟨m,by omega,hr⟩
    ·cases h
   |block id c =>
    show sw P bs c (Z0K id _) s;refine ZS (o n (Nat.lt_succ_self n) bs c _ s out h) λex s1 ⟨m,hm,hr⟩=>?_;cases ex<;>simp only[Z0K]
    ·cases m with
     |zero=>cases hr
     |succ m=>exact⟨m,by omega,hr⟩
    ·rename_i i;simp only[Z30,Z13] at hr;split
     ·rename_i hi;rw[if_pos hi] at hr;exact⟨m,by omega,hr⟩
     ·rename_i hi;rw[if_neg hi] at hr;exact⟨m,by omega,hr⟩
    ·exact hr.elim
    ·exact⟨m,by omega,hr⟩
    all_goals exact hr.elim
   |loop ts c =>
    refine⟨ts,λk s'=>k<=n/\go P tab k bs (.sc c:: .sc (.loop ts c)::K) s'=some out,⟨n,Nat.le_refl _,h⟩,λk s' A=>?_⟩;refine ZS (o k (by omega) bs c _ s' out A.2) λex s1 ⟨m,hm,hr⟩=>?_;cases ex<;>simp only[thenS]
    ·cases m with
     |zero=>cases hr
     |succ m=>exact⟨m,by omega,by omega,hr⟩
    ·exact⟨m,by omega,hr⟩
    ·exact hr.elim
    ·exact⟨m,by omega,hr⟩
    all_goals exact hr.elim
   |rangeF N g ps a b =>
    simp only[Z1u] at h;split at h
    ·rename_i f fa y z;split at h
     ·rename_i hc;split at h
      ·rename_i r ob' j;split at h
       ·cases h
       rename_i q;split at h
       ·rename_i st pend _ _ _ _ _ _ hl;split at h
        ·cases h
        ·rename_i v;obtain⟨x,hx⟩:=Option.isSome_iff_exists.1 hc.2;refine⟨_,_,ZC hc.1,λi hi=>ZW (s:=⟨s.tm,rngS P s (s.nx bs) N ps a b⟩) i hi,⟨f,fa,y,z,(d.T f x.1 x.2.1 x.2.2 hx).2⟩,e _ _ _ _ _ j,?_⟩;rintro r0 ob0 ⟨rfl,rfl⟩;refine .inr ⟨by simpa using q,st,pend,_,_,_,_,_,_,hl,v,?_⟩;split at h
         ·exact⟨n,Nat.lt_succ_self n,h⟩
         ·simp only[Option.some.injEq] at h;exact⟨n,Nat.lt_succ_self n,h.symm⟩
         ·refine⟨n,Nat.lt_succ_self n,?_⟩;simp only[Z30];split at h
          ·exact h
          ·simp only[Option.some.injEq] at h;exact h.symm
         ·cases h
       ·cases h
      ·cases h
     ·cases h
    ·cases h
theorem Zd1 [CodesOf P] (Z6:DrawSound P) (a:tab.OK P) (n:Nat) {d:D} {b:List D} {ob:Obs} {r:D} {ob':Obs} (h:Z3H tab (go P tab n) d b ob=some (r,ob')):CallL P d b ob λr0 ob0=>r0=r/\ob0=ob' :=
 Z3s Z6 a (λbs c s out h=>ZcG Z6 a n bs c [] s out h) d b ob r ob' h
theorem Zaq [CodesOf P] (Z6:DrawSound P) (a:tab.OK P) (n:Nat) {f:FuncId} {b:List D} {r:D} (h:fnE tab (go P tab n) f b=some r):FnOK P f b r :=
 Z5h a (λf hf=>by
    obtain⟨x,hx⟩:=Option.isSome_iff_exists.1 hf;exact (a.T f x.1 x.2.1 x.2.2 hx).2) (λ_ _ _ _ _ h=>Zd1 Z6 a n h) f b r h
end
end Go.Sx
namespace Go.Sx
open Go.RowKit
variable [Globs] [Codes]
variable {P:Program} {f:FuncId}
/- CONTRACTS OF LIBRARY FUNCTIONS,TURNED INTO THIS LAYER's. -/
theorem FnOK.quiet {args:List D} {r:D} (hr: ∀ sz e es,r≠ .own sz e es)
  (hc: ∀ (φ:Mem) (h:Nat->Value) (w:World) (vs:Array Value),GlobC φ w (λ_=>False)->Sub φ w->RVL φ h vs.toList args →
   Calls P f vs w λe w'=>∃ v,e=.returned v/\(∀ h',RV φ h' v r)/\Below w.heap.size w w'):FnOK P f args r:=by
 intro φ h w vs n g a hsz c;have l:RVL φ h vs.toList args:=ZH _ _ (by simpa using hsz) λj d hd=>by have:=c j d hd;simpa [Array.getD_eq_getD_getElem?,List.getD] using this
 refine (hc φ h w vs g a l).mono ?_;rintro e w' ⟨v,rfl,k,m⟩;refine⟨v,φ,rfl,?_,m,λ_ _ _ h=>h,λb o u q=>?_,λb o u h1 h2=>by rw[h1] at h2;cases h2⟩
 ·cases r with
  |own sz e es=>exact absurd rfl (hr sz e es)
  |_=>exact k
 ·have i:b<w.heap.size:=Sub.lt (w:=w) a q
  have:=m.cell (p:=⟨b,o,none⟩) i;rw[this];exact a b o u q
theorem vs1 {φ:Mem} {h:Nat->Value} {vs:Array Value} {a:D} (hv:RVL φ h vs.toList [a]): ∃ v,vs=#[v]/\RV φ h v a:=by
 match hl:vs.toList,hv with
 |[v],hv=>exact⟨v,by rw[<- hl],hv.1⟩
 |[],hv=>exact hv.elim
 |_::_::_,hv=>exact hv.2.elim
theorem vs2 {φ:Mem} {h:Nat->Value} {vs:Array Value} {a b:D} (hv:RVL φ h vs.toList [a,b]): ∃ u v,vs=#[u,v]/\RV φ h u a/\RV φ h v b:=by
 match hl:vs.toList,hv with
 |[u,v],hv=>exact⟨u,v,by rw[<- hl],hv.1,hv.2.1⟩
 |[],hv=>exact hv.elim
 |[_],hv=>exact hv.2.elim
 |_::_::_::_,hv=>exact hv.2.2.elim
theorem FnOK.indexByte (H: ∀ (s:ByteArray) (c:Int) (w:World),Calls P f #[.string s,.int .u8 c] w λe w'=>e=.returned (.int .i64 (Lib.indexByte s.data.toList c.toNat.toUInt8))/\w'=w) (s:List UInt8) (n:Int) :
  FnOK P f [.str s,.int .u8 n] (.int .i64 (Lib.indexByte s (UInt8.ofNat n.toNat))):=by
 refine FnOK.quiet (by intros;simp) fun φ h w vs b a hv=>?_;obtain⟨u,v,rfl,d,hv⟩:=vs2 hv;rw[d.str_inv,hv.int_inv];refine (H ⟨s.toArray⟩ n w).mono ?_;rintro e w' ⟨rfl,rfl⟩;exact⟨_,rfl,λh'=>.pure (.int _ _),Below.refl _ _⟩
theorem FnOK.contains {g:Nat} (c:Globs.I g=true) (H: ∀ (s sub:ByteArray) (m:Int) (w:World),s.size<4294967281->w.cell? ⟨g,0,none⟩=some (.int .i64 m)->Calls P f #[.string s,.string sub] w λe w'=>e=.returned (.bool (Lib.contains s.data.toList sub.data.toList))/\w'=w)
  (s sub:List UInt8) (hs:s.length<4294967281):FnOK P f [.str s,.str sub] (.bool (Lib.contains s sub)):=by
 refine FnOK.quiet (by intros;simp) fun φ h w vs a b hv=>?_;obtain⟨u,v,rfl,d,hv⟩:=vs2 hv;rw[d.str_inv,hv.str_inv];obtain⟨⟨arr,ty,fr,m,h1,h2⟩,_⟩:=a.i g c;refine (H ⟨s.toArray⟩ ⟨sub.toArray⟩ m w (by simpa [ByteArray.size] using hs) (by simp[World.cell?,h1,h2])).mono ?_;rintro e w' ⟨rfl,rfl⟩;exact⟨_,rfl,λh'=>.pure (.bool _),Below.refl _ _⟩
theorem FnOK.strcmp (H: ∀ (a b:ByteArray) (w:World),Calls P f #[.string a,.string b] w λe w'=>e=.returned (.int .i64 (Lib.compareBytes a.data.toList b.data.toList))/\w'=w) (a b:List UInt8) :
  FnOK P f [.str a,.str b] (.int .i64 (Lib.compareBytes a b)):=by
 refine FnOK.quiet (by intros;simp) fun φ h w vs d c hv=>?_;obtain⟨u,v,rfl,g,hv⟩:=vs2 hv;rw[g.str_inv,hv.str_inv];refine (H ⟨a.toArray⟩ ⟨b.toArray⟩ w).mono ?_;rintro e w' ⟨rfl,rfl⟩;exact⟨_,rfl,λh'=>.pure (.int _ _),Below.refl _ _⟩
theorem FnOK.atoiOK (s:List UInt8) (n:Int) (H: ∀ w:World,Calls P f #[.string ⟨s.toArray⟩] w λe w'=>e=.returned (.tuple #[.int .i64 n,.nilIface])/\(w'=w\/ ∃ (b:TypeId) (t:ByteArray),w'=Lib.bytesWorld w b t)) :
  FnOK P f [.str s] (.tuple [.int .i64 n,.raw .nilIface]):=by
 refine FnOK.quiet (by intros;simp) fun φ h w vs c a hv=>?_;obtain⟨u,rfl,g⟩:=vs1 hv;rw[g.str_inv];refine (H w).mono ?_;rintro e w' ⟨rfl,i⟩;refine⟨_,rfl,λh'=>.tuple _ _ rfl λj d hd=>?_,?_⟩
 ·match j with
  |0=>simp at hd;subst hd;exact .pure (.int _ _)
  |1=>simp at hd;subst hd;exact .pure (.raw _ rfl)
  |j+2=>simp at hd
 ·rcases i with rfl|⟨b,t,rfl⟩
  ·exact Below.refl _ _
  ·exact Lib.bytesWorld_below w b t
theorem FnOK.atoiNo {g:Nat} (p:Globs.G g=some [.ifc]) (s:List UInt8) (n:Int) (H: ∀ (c:Value) (w:World) (hv:w.cell? ⟨g,0,none⟩=some c) (r:c=.nilIface\/ ∃ l k,c=.iface l k),
   Calls P f #[.string ⟨s.toArray⟩] w λe w'=>∃ (t:TypeId) (N:Nat),e=.returned (.tuple #[.int .i64 n,.iface t (.pointer (some ⟨N,0,none⟩))])/\Below w.heap.size w w'):FnOK P f [.str s] (.tuple [.int .i64 n,.ifc]):=by
 refine FnOK.quiet (by intros;simp) fun φ h w vs i a hv=>?_;obtain⟨u,rfl,v⟩:=vs1 hv;rw[v.str_inv];obtain⟨b,o,vals,m,hm,hr⟩:=(i.ok g _ p).fptr_inv;simp only[Value.pointer.injEq,Option.some.injEq,Addr.mk.injEq,and_true] at m;obtain⟨rfl,rfl⟩:=m;have hc:=a _ _ _ (hm 0 .ifc rfl);obtain⟨l,k,hi⟩:=(RV.pure (h:=h) (hr 0 .ifc rfl)).ifc_inv;refine (H _ w hc (.inr ⟨l,k,hi⟩)).mono ?_;rintro e w' ⟨t,N,rfl,q⟩;refine⟨_,rfl,λh'=>.tuple _ _ rfl λj d hd=>?_,q⟩
 match j with
 |0=>simp at hd;subst hd;exact .pure (.int _ _)
 |1=>simp at hd;subst hd;exact .pure (.ifc _ _)
 |j+2=>simp at hd
theorem FnOK.itoa {g:Nat} {name:String} (d:Globs.X g=some (Lib.pow10Tab.map λz=>Value.int .u64 z).toArray) (j:P.globalNamed name=some g)
  (H: ∀ (n:Int) (h0: -9223372036854775808<=n) (h1:n<=9223372036854775807) (w:World) (a:Lib.TabIs P w name .u64 Lib.pow10Tab),Calls P f #[.int .i64 n] w λe w'=>e=.returned (.string ⟨(Lib.itoa n).toArray⟩)/\ ∃ k os,w'=Sort.grow (w.drewN k) os)
  (n:Int) (h0: -9223372036854775808<=n) (h1:n<=9223372036854775807):FnOK P f [.int .i64 n] (.str (Lib.itoa n)):=by
 refine FnOK.quiet (by intros;simp) fun φ h w vs b c hv=>?_;obtain⟨u,rfl,l⟩:=vs1 hv;rw[l.int_inv];obtain⟨⟨ty,fr,hh⟩,_⟩:=b.x g _ d;have a:Lib.TabIs P w name .u64 Lib.pow10Tab:=by
  unfold Lib.TabIs World.var?;rw[j];simp only[Option.bind_some,hh]
 refine (H n h0 h1 w a).mono ?_;rintro e w' ⟨rfl,k,os,rfl⟩;refine⟨_,rfl,λh'=>.pure (.str _),?_⟩;refine⟨rfl,rfl,rfl,by simp[Sort.grow],λi hi=>?_⟩;show ((w.drewN k).heap++os)[i]? = _;rw[Array.getElem?_append_left (by show i<w.heap.size;omega)];rfl
theorem FnOK.join (H0: ∀ (a:Option Addr) (c:Nat) (sep:ByteArray) (w:World),Calls P f #[.slice a 0 c,.string sep] w λe w'=>e=.returned (.string ⟨#[]⟩)/\w'=w)
  (H: ∀ (q o c:Nat) (xs:List ByteArray) (sep:ByteArray) (w:World) (p: ∀ (j:Nat) x,xs[j]? = some x->w.cell? ⟨q,o+j,none⟩=some (.string x)) (A:q<w.heap.size) (I:xs.length<=140737488355328) (hcap:xs.length<=c) (s:(Lib.join (xs.map (·.data.toList)) sep.data.toList).length<=140737488355328),
   Calls P f #[.slice (some ⟨q,o,none⟩) xs.length c,.string sep] w λe w'=>e=.returned (.string ⟨(Lib.join (xs.map (·.data.toList)) sep.data.toList).toArray⟩)/\Below w.heap.size w w')
  (ts:List (List UInt8)) (ext:List (List D)) (sep:List UInt8) (F:ts.length<=140737488355328) (E:(Lib.join ts sep).length<=140737488355328) :
  FnOK P f [.slice (ts.map λt=>[.str t]) ext,.str sep] (.str (Lib.join ts sep)):=by
 refine FnOK.quiet (by intros;simp) fun φ h w vs C l hv=>?_;obtain⟨u,v,rfl,G,hv⟩:=vs2 hv;rw[hv.str_inv];have i: ∀ a c,ts=[]->Calls P f #[.slice a 0 c,.string ⟨sep.toArray⟩] w λe w'=>∃ v,e=.returned v/\(∀ h',RV φ h' v (.str (Lib.join ts sep)))/\Below w.heap.size w w':=by
  rintro a c rfl;refine (H0 a c ⟨sep.toArray⟩ w).mono ?_;rintro e w' ⟨rfl,rfl⟩;exact⟨_,rfl,λh'=>by rw[Lib.join_nil];exact .pure (.str []),Below.refl _ _⟩
 rcases G.slice_inv.slice_inv with⟨⟨a,c,rfl,_⟩,B,_⟩|⟨b,off,cap,sz,vals,rfl,hcap,hsz,hmem,hrep⟩
 ·exact i a c (by simpa using B)
 ·cases d:ts with
  |nil=>rw[<- d];simpa [d] using i (some ⟨b,off,none⟩) cap d
  |cons t0 K =>
   have m:sz=1:=by have:=hsz [.str t0] (by simp[d]);simpa using this.symm
   subst m;have g: ∀ (j:Nat) (t:List UInt8),ts[j]? = some t->w.cell? ⟨b,off+j,none⟩=some (.string ⟨t.toArray⟩):=λj t n=>by
    have r:j<ts.length:=by
     rcases Nat.lt_or_ge j ts.length with h|h
     ·exact h
     ·rw[List.getElem?_eq_none h] at n;cases n
    have h1:((ts.map λt=>([.str t]:List D))++ext)[j]? = some [.str t]:=by
     rw[List.getElem?_append_left (by simpa using r)];simp[n]
    have h2:=l _ _ _ (hmem j _ 0 _ h1 rfl);have y:=(RV.pure (h:=h) (hrep j _ 0 _ h1 rfl)).str_inv;rw[y] at h2;simpa using h2
   have z:b<w.heap.size:=World.block_lt_of_cell? _ _ (g 0 t0 (by simp[d]));have hm:(ts.map λt=>(⟨t.toArray⟩:ByteArray)).map (·.data.toList)=ts:=by simp[List.map_map,Function.comp_def]
   have:=H b off cap (ts.map λt=>⟨t.toArray⟩) ⟨sep.toArray⟩ w (λj x hx=>by
     simp only[List.getElem?_map,Option.map_eq_some_iff] at hx;obtain⟨t,n,rfl⟩:=hx;exact g j t n) z (by simpa using F) (by simp at hcap ⊢;omega) (by rw[hm];exact E)
   rw[hm] at this;rw[<- d];simp only[List.length_map] at this ⊢;refine this.mono ?_;rintro e w' ⟨rfl,k⟩;exact⟨_,rfl,λh'=>.pure (.str _),k⟩
theorem FnOK.fields {g:Nat} {ty:TypeId} {cs:List D} (E:Globs.G g=some cs) (q: ∀ c:Nat,c<256->cs[c]? = some (.int .u8 (if Lib.isSp (UInt8.ofNat c) then 1 else 0)))
  (H: ∀ (s:ByteArray) (w:World) (hs:s.size<4294967281) (r: ∀ (j:Nat) b,s.data.toList[j]? = some b->b.toNat<128)
   (z: ∀ c:Nat,c<256->w.cell? ⟨g,c,none⟩=some (.int .u8 (if Lib.isSp (UInt8.ofNat c) then 1 else 0))),
   Calls P f #[.string s] w λe w' =>
    e=.returned (.slice (some ⟨w.heap.size,0,none⟩) (Lib.fields s.data.toList).length (Lib.fields s.data.toList).length)/\w'=w.alloc (.cells ((Lib.fields s.data.toList).map λl=>Value.string ⟨l.toArray⟩).toArray ty))
  (s:List UInt8) (hs:s.length<4294967281) (ha: ∀ b∈s,b.toNat<128):FnOK P f [.str s] (.slice ((Lib.fields s).map λx=>[.str x]) []):=by
 intro φ h w vs B v m hsz p;have y:RVL φ h vs.toList [.str s]:=ZH _ _ (by simpa using hsz) λj d hd=>by have:=p j d hd;simpa [Array.getD_eq_getD_getElem?,List.getD] using this
 obtain⟨u,rfl,a⟩:=vs1 y;rw[a.str_inv];obtain⟨b,o,vals,k,hm,hr⟩:=(v.ok g _ E).fptr_inv;simp only[Value.pointer.injEq,Option.some.injEq,Addr.mk.injEq,and_true] at k;obtain⟨rfl,rfl⟩:=k;have z: ∀ c:Nat,c<256->w.cell? ⟨g,c,none⟩=some (.int .u8 (if Lib.isSp (UInt8.ofNat c) then 1 else 0)):=λc hc=>by
  have h1:=hm c _ (q c hc);have h2:=(RV.pure (h:=h) (hr c _ (q c hc))).int_inv;rw[h2] at h1;simpa using m _ _ _ h1
 refine (H ⟨s.toArray⟩ w (by simpa [ByteArray.size] using hs) (λj b t=>ha b (List.mem_of_getElem? (by simpa using t))) z).mono ?_;rintro e w' ⟨rfl,rfl⟩;simp only;have C:=(Below.refl w.heap.size w).alloc (Nat.le_refl _) (.cells ((Lib.fields s).map λl=>Value.string ⟨l.toArray⟩).toArray ty);have n: ∀ b o u,φ b o=some u->b<w.heap.size:=λb o u a=>Sub.lt (w:=w) m a;refine⟨_,λb o=>if b=w.heap.size then (if o<(Lib.fields s).length then some (.string ⟨((Lib.fields s).getD o []).toArray⟩) else none) else φ b o,rfl,λh'=>.pure ?_,C,?_,?_,?_⟩
 ·have hl:(Lib.fields s).length=((Lib.fields s).map λx=>([.str x]:List D)).length:=by simp
  conv=>lhs;rw[hl]
  have key: ∀ i (e:List D) j d,(((Lib.fields s).map λx=>([.str x]:List D))++[])[i]? = some e->e[j]? = some d->j=0/\i<(Lib.fields s).length/\d=.str ((Lib.fields s).getD i []):=by
   intro i e j d k hd;simp only[List.append_nil,List.getElem?_map,Option.map_eq_some_iff] at k;obtain⟨x,hx,rfl⟩:=k;have F:j=0:=by
    cases j with
    |zero=>rfl
    |succ j=>simp at hd
   subst F;simp at hd;subst hd;have:i<(Lib.fields s).length:=by
    rcases Nat.lt_or_ge i (Lib.fields s).length with h|h
    ·exact h
    ·rw[List.getElem?_eq_none h] at hx;cases hx
   exact⟨rfl,this,by simp[hx]⟩
  refine .slice w.heap.size 0 _ 1 _ _ (λi _=>.string ⟨((Lib.fields s).getD i []).toArray⟩) (by simp) (λe k=>?_) (λi e j d k hd=>?_) (λi e j d k hd=>?_)
  ·simp only[List.append_nil,List.mem_map] at k;obtain⟨x,_,rfl⟩:=k;rfl
  ·obtain⟨rfl,hi,rfl⟩:=key i e j d k hd;simp[hi]
  ·obtain⟨rfl,hi,rfl⟩:=key i e j d k hd;exact .str _
 ·intro b o u a
  have:=n b o u a;simp only;rw[if_neg (by omega)];exact a
 ·intro b o u a;simp only at a;split at a
  ·rename_i t;split at a
   ·rename_i G;cases a;subst t;rw[World.cell?_alloc_new];simp[List.getD,G]
   ·cases a
  ·rw[World.cell?_alloc_lt _ _ _ (n b o u a)];exact m b o u a
 ·intro b o u a A;simp only at a;split at a
  ·omega
  ·rw[a] at A;cases A
end Go.Sx
namespace Go.Sx
open Go.RowKit Go.Deep
/- WHAT COMES IN: a value that a row's reading goes through,as plain data. -/
inductive Sh where
 |bool
 |int (k:IntKind)
 |str
 |slice (e:List Sh)
mutual
def Sh.fit (B:Nat):Sh->D->Prop
 |.bool,d=>∃ b,d=.bool b
 |.int k,d=>∃ n,d=.int k n/\(Lit.int k n).wf=true
 |.str,d=>∃ s,d=.str s/\s.length<=B
 |.slice l,d=>∃ es,d=.slice es []/\es.length<=B/\ ∀ e,e∈es->Sh.fits B l e
def Sh.fits (B:Nat):List Sh->List D->Prop
 |[],ds=>ds=[]
 |s::r,ds=>∃ d t,ds=d::t/\Sh.fit B s d/\Sh.fits B r t
end
def memW (w:World):Mem:=λb o=>w.cell? ⟨b,o,none⟩
def CRp (φ:Mem) (cs:List Value) (ds:List D):Prop:=cs.length=ds.length/\ ∀ (j:Nat) (v:Value) (d:D),cs[j]? = some v->ds[j]? = some d->Rep φ v d
theorem addP (b off n:Nat):Addr.add ⟨b,off,none⟩ n=⟨b,off+n,none⟩:=by
 unfold Addr.add;split
 ·rename_i h;subst h;rfl
 ·rfl
def Zna (v:Value):Prop:=∀ a n c,v=.slice (some a) n c->a.spot=none
variable {H:Type} {enc:TypeId × Value->H} {P:Program} {w:World}
def wOK (B:Nat) (l:List Nat):Prop:=∀ x∈l,x<=B
end Go.Sx
/- From a law's walk to its contract,for any parameters that are read. -/
namespace Go.Sx
open Go.RowKit Go.ChangeShapes Go.WideShapes
theorem Z8k {H:Type} {enc:TypeId × Value->H} {P:Program} {f:Func} {s:ChangeSpec} {c fresh d:Bool} {W W':World} {args:Array Value} {v:Value} {ds i:List (DataW H)} {a pa pv:List MemPlace}
  (l:DataW.Whole enc P f.params.toList s.vars c W args.toList ds i a)
  (j: ∀ (b:Nat) (sp:Nat->Bool) (hd:Bool),DataW.TrodAll enc P W' b sp hd f.resultTypes.toList (v.resultList f.resultTypes.size) (s.fn H (ds++i)).results [])
  (e:DataW.TrodAll enc P W' 0 (λb=>decide (b<W.heap.size)) true f.params.toList args.toList (s.fn H (ds++i)).args pa)
  (g:DataW.TrodVars enc P W' (λb=>decide (b<W.heap.size)) s.vars (s.fn H (ds++i)).vars pv)
  (k:a=pa++pv) (m:Below W.heap.size W W'):s.post enc P f c fresh d false W args v W':=by
 refine⟨ds,i,a,[],pa,pv,l,j _ _ _,e,g,World.keptBut_mono (λp hp=>⟨hp,?_⟩) (m.frame (· ∈ a)),λh=>by cases h⟩;rw[k,List.mem_append] at hp;exact Or.inr hp
variable {P:Program}
variable {H:Type} {enc:TypeId × Value->H} {w:World}
variable [Globs] [Codes]
end Go.Sx
namespace Go.Sx
variable {P:Program}
def intC (k:IntKind) (l:List Int):List (List D):=l.map λn=>[D.int k n]
theorem ZiO {n:Int} (h:(Lit.int .i64 n).wf=true): -9223372036854775808<=n/\n<=9223372036854775807:=by
 simp only[Lit.wf,Bool.and_eq_true,decide_eq_true_eq] at h;have a:IntKind.i64.min= -9223372036854775808:=rfl;have b:IntKind.i64.max=9223372036854775807:=rfl;omega
theorem Zmf {n:Int} (h:(Lit.int .u8 n).wf=true):0<=n/\n<=255:=by
 simp only[Lit.wf,Bool.and_eq_true,decide_eq_true_eq] at h;have a:IntKind.u8.min=0:=rfl;have b:IntKind.u8.max=255:=rfl;omega
end Go.Sx
/- TERMS: A TYPE THAT RECURS,AS PLAIN DATA. -/
namespace Go.Sx
open Go.RowKit Go.Deep Go.ChangeShapes Go.WideShapes
inductive Tm where
 |mk (k:Nat) (n:Int) (s:List UInt8) (l:List Tm)
 deriving Inhabited
mutual
def Tm.cells:Tm->List D
 |.mk k n s l=>[.int .u8 (k:Int),.int .i64 n,.str s,.slice (Tm.cellsL l) []]
def Tm.cellsL:List Tm->List (List D)
 |[]=>[]
 |a::r=>a.cells::Tm.cellsL r
end
mutual
def Tm.wf (B:Nat):Tm->Prop
 |.mk k n s l=>k<=255/\ -9223372036854775808<=n/\n<=9223372036854775807/\s.length<=B/\l.length<=B/\Tm.wfL B l
def Tm.wfL (B:Nat):List Tm->Prop
 |[]=>True
 |a::r=>a.wf B/\Tm.wfL B r
end
theorem QP: ∀ l:List Tm,Tm.cellsL l=l.map Tm.cells
 |[]=>rfl
 |a::r=>by rw[Tm.cellsL,QP r];rfl
theorem Zm (l:List Tm):(Tm.cellsL l).length=l.length:=by rw[QP];simp
theorem Z1a (t:Tm):t.cells.length=4:=by cases t;rfl
theorem Z2O {B:Nat}: ∀ {l:List Tm},Tm.wfL B l ↔ ∀ t∈l,t.wf B
 |[]=>by simp[Tm.wfL]
 |a::r=>by simp[Tm.wfL,Z2O (l:=r)]
def Zh6 (P:Program) (T:TypeId):Bool:=match P.underlying T with
 |some (.struct fs)=>match fs.toList with
  |[f0,f1,f2,f3]=>f0.offset == 0 && f1.offset == 1 && f2.offset == 2 && f3.offset == 3 && P.cellsOf f0.type == 1 && P.cellsOf f1.type == 1 && P.cellsOf f2.type == 1 && P.cellsOf f3.type == 1 && P.cellsOf T == 4 && decide (0<P.bytesOf T) &&
   (match P.underlying f0.type,P.underlying f1.type,P.underlying f2.type,P.underlying f3.type with
    |some (.int .u8),some (.int .i64),some .string,some (.slice e)=>e == T
    |_,_,_,_=>false)
  |_=>false
 |_=>false
structure IsTm (P:Program) (T:TypeId) (fs:Array Field) (f0 f1 f2 f3:Field):Prop where
 u:P.underlying T=some (.struct fs)
 l:fs.toList=[f0,f1,f2,f3]
 o0:f0.offset=0
 o1:f1.offset=1
 o2:f2.offset=2
 o3:f3.offset=3
 c0:P.cellsOf f0.type=1
 c1:P.cellsOf f1.type=1
 c2:P.cellsOf f2.type=1
 c3:P.cellsOf f3.type=1
 c:P.cellsOf T=4
 b:0<P.bytesOf T
 u0:P.underlying f0.type=some (.int .u8)
 u1:P.underlying f1.type=some (.int .i64)
 u2:P.underlying f2.type=some .string
 u3:P.underlying f3.type=some (.slice T)
theorem Z69 {P:Program} {T:TypeId} (h:Zh6 P T=true): ∃ fs f0 f1 f2 f3,IsTm P T fs f0 f1 f2 f3:=by
 unfold Zh6 at h;split at h
 ·rename_i fs q;split at h
  ·rename_i f0 f1 f2 f3 hl;simp only[Bool.and_eq_true,beq_iff_eq,decide_eq_true_eq] at h;obtain⟨⟨⟨⟨⟨⟨⟨⟨⟨⟨h1,h2⟩,j⟩,k⟩,l⟩,m⟩,n⟩,o⟩,p⟩,b⟩,a⟩:=h;split at a
   ·rename_i e c d g i;have:e=T:=by simpa using a
    subst this;exact⟨fs,f0,f1,f2,f3,q,hl,h1,h2,j,k,l,m,n,o,p,b,c,d,g,i⟩
   ·cases a
  ·cases h
 ·cases h
variable {H:Type} {enc:TypeId × Value->H} {P:Program} {w:World}
theorem Z8i {B:Nat} {t e:TypeId} {Q:List D->Prop} {E:Nat} {cs:List Value} {x:DataW H × List MemPlace} (W:P.underlying t=some (.slice e)) (L:0<P.bytesOf e) (V:0<P.cellsOf e) (hQ: ∀ ds,Q ds->ds.length=P.cellsOf e)
  (ht:DataW.trod enc P w 0 (λ_=>true) true E t cs=some x) (T:wOK B (x.1.weights P t))
  (M: ∀ (n:Nat) (cs':List Value) (y:DataW H × List MemPlace),SizeOf.sizeOf y.1<SizeOf.sizeOf x.1->DataW.trod enc P w 0 (λ_=>true) true n e cs'=some y->wOK B (y.1.weights P e)-> ∃ ds,Q ds/\CRp (memW w) cs' ds) :
  ∃ es,es.length<=B/\(∀ q∈es,Q q)/\CRp (memW w) cs [.slice es []]:=by
 rcases open_slice W ht with⟨rfl,rfl⟩|⟨a,len,cap,m,n',D',Pl,rfl,_,hlc,_,hm,rfl,hx⟩
 ·refine⟨[],Nat.zero_le _,(λ_ h=>by cases h),rfl,λj v d hv hd=>?_⟩;cases j with
  |zero=>simp at hv hd;subst hv;subst hd;exact .nil
  |succ j=>simp at hv
 ·by_cases S:len=0
  ·subst S;refine⟨[],Nat.zero_le _,(λ_ h=>by cases h),rfl,λj v d hv hd=>?_⟩;cases j with
   |zero=>simp at hv hd;subst hv;subst hd;exact .nilA _ _
   |succ j=>simp at hv
  simp only[if_true] at hm;subst hm;have s:a.spot=none:=by
   obtain⟨cs',h1,_⟩:=hx 0 (by omega);obtain⟨_,O,A⟩:=World.cells?_some h1;have c:=A 0 (by omega);rw[List.getElem?_eq_getElem (by omega)] at c;cases hs:a.spot with
   |none=>rfl
   |some q =>
    exfalso;have Y:(a.add (0*P.cellsOf e)).add 0=a:=by simp[Addr.add]
    rw[Y] at c;unfold World.cell? at c;split at c
    ·rw[hs] at c;simp at c
    ·cases c
  obtain⟨b,off,X⟩:=a;simp only at s;subst s;have G:len<=B/\ ∀ i,i<len->wOK B ((D' i).weights P e):=by
   simp only[DataW.weights,W] at T;refine⟨?_,λi hi y I=>?_⟩
   ·have:=T _ (List.mem_cons_self ..);simp only[List.length_map,List.length_range] at this;have h2:len<=(len+(m-len))*P.bytesOf e:=Nat.le_trans (Nat.le_add_right _ _) (Nat.le_mul_of_pos_right _ L);omega
   ·refine T y (List.mem_cons_of_mem _ (List.mem_append_left _ ?_));have key: ∀ (l:List (DataW H)) (d:DataW H),d∈l-> ∀ y∈d.weights P e,y∈DataW.weightsAll P e l:=by
     intro l;induction l with
     |nil=>intro d hd;cases hd
     |cons z r ih =>
      intro d hd y I;simp only[DataW.weightsAll];rcases List.mem_cons.1 hd with rfl|hd
      ·exact List.mem_append_left _ I
      ·exact List.mem_append_right _ (ih d hd y I)
    exact key _ _ (List.mem_map.2 ⟨i,List.mem_range.2 hi,rfl⟩) y I
  have F: ∀ i,i<len-> ∃ ds,Q ds/\ ∃ cs',w.cells? 0 (Addr.add ⟨b,off,none⟩ (i*P.cellsOf e)) (P.cellsOf e)=some cs'/\CRp (memW w) cs' ds:=λi hi=>by
   obtain⟨cs',h1,h2⟩:=hx i (by omega);have hsz:SizeOf.sizeOf (D' i)<SizeOf.sizeOf (DataW.slice ((List.range len).map D') ((List.range (m-len)).map λj=>D' (len+j))):=by
    have:=List.sizeOf_lt_of_mem (List.mem_map.2 ⟨i,List.mem_range.2 hi,rfl⟩:D' i∈(List.range len).map D');simp only[DataW.slice.sizeOf_spec];omega
   obtain⟨ds,c,K⟩:=M n' cs' _ hsz h2 (G.2 i hi);exact⟨ds,c,cs',h1,K⟩
  obtain⟨ds,C⟩:=choose_lt (α:=List D) (p:=λi ds=>Q ds/\ ∃ cs',w.cells? 0 (Addr.add ⟨b,off,none⟩ (i*P.cellsOf e)) (P.cellsOf e)=some cs'/\CRp (memW w) cs' ds) F;have u: ∀ (i:Nat) (q:List D),((List.range len).map ds++[])[i]? = some q->i<len/\q=ds i:=by
   intro i q o;simp only[List.append_nil,List.getElem?_map,Option.map_eq_some_iff] at o;obtain⟨i',N,rfl⟩:=o;have h1:=List.getElem?_eq_some_iff.1 N;obtain⟨h2,c⟩:=h1;simp at h2 c;subst c;exact⟨h2,rfl⟩
  refine⟨(List.range len).map ds,by simpa using G.1,λq o=>?_,rfl,λj v d hv hd=>?_⟩
  ·obtain⟨i,hi,rfl⟩:=List.mem_map.1 o;exact (C i (List.mem_range.1 hi)).1
  ·cases j with
   |succ j=>simp at hv
   |zero =>
    simp at hv hd;subst hv;subst hd;have hl:len=((List.range len).map ds).length:=by simp
    have k: ∀ i j x,i<len->(ds i)[j]? = some x-> ∃ v,w.cell? ⟨b,off+i*P.cellsOf e+j,none⟩=some v/\Rep (memW w) v x:=λi j x hi g=>by
     obtain⟨_,cs',h1,h2⟩:=C i hi;obtain⟨_,O,A⟩:=World.cells?_some h1;have U:j<cs'.length:=by
      rcases Nat.lt_or_ge j cs'.length with h|h
      ·exact h
      ·rw[List.getElem?_eq_none (by rw[<- h2.1];exact h)] at g;cases g
     have c:=A j (by omega);rw[List.getElem?_eq_getElem U] at c;have K:w.cell? ⟨b,off+i*P.cellsOf e+j,none⟩=some cs'[j]:=by rw[addP,addP] at c;exact c
     exact⟨_,K,h2.2 j _ x (List.getElem?_eq_getElem U) g⟩
    conv=>lhs;rw[hl]
    refine .slice b off m (P.cellsOf e) _ _ (λi j=>(w.cell? ⟨b,off+i*P.cellsOf e+j,none⟩).getD Go.undef) (by simp;omega) (λq o=>?_) (λi q j x o g=>?_) (λi q j x o g=>?_)
    ·simp only[List.append_nil] at o;obtain⟨i,hi,rfl⟩:=List.mem_map.1 o;exact hQ _ (C i (List.mem_range.1 hi)).1
    ·obtain⟨hi,rfl⟩:=u i q o;obtain⟨v,h1,_⟩:=k i j x hi g;show w.cell? _=_;rw[h1];rfl
    ·obtain⟨hi,rfl⟩:=u i q o;obtain⟨v,h1,h2⟩:=k i j x hi g;rw[h1];exact h2
theorem Ze1 {B:Nat}: ∀ {es:List (List D)},(∀ q∈es,∃ t:Tm,t.wf B/\q=t.cells)-> ∃ l:List Tm,es=Tm.cellsL l/\Tm.wfL B l
 |[],_=>⟨[],rfl,trivial⟩
 |e::r,h=>by
  obtain⟨t,h1,rfl⟩:=h e (List.mem_cons_self ..);obtain⟨l,rfl,h2⟩:=Ze1 (es:=r) λx hx=>h x (List.mem_cons_of_mem _ hx);exact⟨t::l,rfl,h1,h2⟩
theorem len4 {α:Type} {l:List α} (h:l.length=4): ∃ a b c d,l=[a,b,c,d]:=by
 match l,h with
 |[a,b,c,d],_=>exact⟨a,b,c,d,rfl⟩
theorem ZgC {B:Nat} {T:TypeId} {fs:Array Field} {f0 f1 f2 f3:Field} (a:IsTm P T fs f0 f1 f2 f3): ∀ (k b:Nat) (cs:List Value) (x:DataW H × List MemPlace),SizeOf.sizeOf x.1<=k->DataW.trod enc P w 0 (λ_=>true) true b T cs=some x →
  wOK B (x.1.weights P T)-> ∃ t:Tm,t.wf B/\CRp (memW w) cs t.cells:=by
 intro k;induction k with
 |zero=>intro b cs x p;exact absurd p (by cases x.1<;>simp)
 |succ k W =>
  intro b cs x p V A;obtain⟨xs,n',_,rfl,e,m,hx⟩:=DataW.trod_struct a.u V;have hsz:fs.size=4:=by rw[<- Array.length_toList,a.l];rfl
  have g: ∀ (i:Nat) (f:Field),fs.toList[i]? = some f->fs[i]? = some f:=λi f h=>by simpa using h
  rw[a.l] at g;rw[hsz] at m;obtain⟨x0,x1,x2,E,rfl⟩:=len4 m;have h0:=hx 0 f0 (g 0 f0 rfl);have h1:=hx 1 f1 (g 1 f1 rfl);have h2:=hx 2 f2 (g 2 f2 rfl);have o:=hx 3 f3 (g 3 f3 rfl);rw[a.o0,a.c0] at h0;rw[a.o1,a.c1] at h1;rw[a.o2,a.c2] at h2;rw[a.o3,a.c3] at o;rw[a.c] at e;obtain⟨v0,v1,v2,v3,rfl⟩:=len4 e;simp only[List.drop_zero,List.drop_succ_cons,List.take_succ_cons,List.take_zero,List.getElem?_cons_zero,List.getElem?_cons_succ] at h0 h1 h2 o;have c:wOK B (DataW.weightsEach P [f0.type,f1.type,f2.type,f3.type] [x0.1,x1.1,x2.1,E.1]):=by
   simp only[DataW.weights,a.u,a.l,List.map_cons,List.map_nil] at A;exact A
  simp only[DataW.weightsEach] at c;obtain⟨F,I,rfl,w0⟩:=DataW.trod_int a.u0 h0;obtain⟨G,K,rfl,X⟩:=DataW.trod_int a.u1 h1;obtain⟨z,L,rfl,_⟩:=DataW.trod_string a.u2 h2;cases I;cases K;cases L;have q:z.data.toList.length<=B:=c _ (by simp[DataW.weights]);have O:SizeOf.sizeOf E.1<=k:=by
   simp only[List.map_cons,List.map_nil,DataW.agg.sizeOf_spec,List.cons.sizeOf_spec,List.nil.sizeOf_spec] at p;omega
  obtain⟨es,hl,U,hc⟩:=Z8i (B:=B) (Q:=λds=>∃ t:Tm,t.wf B/\ds=t.cells) a.u3 a.b (by rw[a.c];decide) (λds ⟨t,_,h⟩=>by rw[h,Z1a,a.c]) o (λy u=>c y (by simp[u])) λn cs' y S u s=>by
   obtain⟨t,M,N⟩:=W n cs' y (by omega) u s;exact⟨t.cells,⟨t,M,rfl⟩,N⟩
  obtain⟨l,rfl,r⟩:=Ze1 U;have Y:=Zmf w0;have C:=ZiO X;rw[Zm] at hl;refine⟨.mk F.toNat G z.data.toList l,⟨by omega,C.1,C.2,q,hl,r⟩,rfl,λj v d hv hd=>?_⟩
  match j,hv,hd with
  |0,hv,hd =>
   simp only[List.getElem?_cons_zero,Option.some.injEq,Tm.cells] at hv hd;subst hv;subst hd;rw[Int.toNat_of_nonneg Y.1];exact .int _ _
  |1,hv,hd =>
   simp only[List.getElem?_cons_zero,List.getElem?_cons_succ,Option.some.injEq,Tm.cells] at hv hd;subst hv;subst hd;exact .int _ _
  |2,hv,hd =>
   simp only[List.getElem?_cons_zero,List.getElem?_cons_succ,Option.some.injEq,Tm.cells] at hv hd;subst hv;subst hd
   have:=Rep.str (φ:=memW w) z.data.toList;simpa using this
  |3,hv,hd =>
   simp only[List.getElem?_cons_zero,List.getElem?_cons_succ,Option.some.injEq,Tm.cells] at hv hd;subst hv;subst hd;exact hc.2 0 _ _ rfl rfl
  |j+4,hv,hd=>simp at hv
def Zde (P:Program) (B:Nat) (t:TypeId) (Q:D->Prop):Prop:=∀ {H:Type} {enc:TypeId × Value->H} {w:World} {r:Reach} {base b:Nat} {v:Value} {x:DataW H × List MemPlace},
 DataW.trod enc P w 0 (λ_=>true) true b t v.cells.toList=some x->wOK B (x.1.weights P t)->Value.okWide P w r base t v-> ∃ a,RV (memW w) noH v a/\Q a
def FitQ:List (TypeId × (D->Prop))->List D->Prop
 |[],[]=>True
 |q::qs,a::l=>q.2 a/\FitQ qs l
 |_,_=>False
section
variable [Globs] [Codes]
theorem Z3V (B:Nat) {r:Reach} {base:Nat}: ∀ (qs:List (TypeId × (D->Prop))) (vs:List Value) (ds:List (DataW H)) (ps:List MemPlace),DataW.TrodAll enc P w 0 (λ_=>true) true (qs.map (·.1)) vs ds ps->wOK B (DataW.weightsEach P (qs.map (·.1)) ds) →
  (∀ q∈qs,Zde P B q.1 q.2)->(∀ (j:Nat) t v,(qs.map (·.1))[j]? = some t->vs[j]? = some v->Value.okWide P w r base t v)-> ∃ l,RVL (memW w) noH vs l/\FitQ qs l
 |[],vs,ds,ps,h,_,_,_=>by
  obtain⟨rfl,rfl,rfl⟩:=trodAll_nil h;exact⟨[],trivial,trivial⟩
 |q::qs,vs,ds,ps,h,b,hs,hv=>by
  rw[List.map_cons] at h b;obtain⟨v,g,d,c,p,s,rfl,rfl,rfl,h0,hr⟩:=trodAll_cons h;simp only[DataW.weightsEach] at b;obtain⟨l,h1,h2⟩:=Z3V B qs g c s hr (λx hx=>b x (List.mem_append_right _ hx)) (λt o=>hs t (List.mem_cons_of_mem _ o)) (λj t v n e=>hv (j+1) t v (by simpa using n) (by simpa using e));obtain⟨i,hf⟩:=h0;obtain⟨a,k,m⟩:=hs q (List.mem_cons_self ..) hf (λx hx=>b x (List.mem_append_left _ hx)) (hv 0 q.1 v rfl rfl);exact⟨a::l,⟨k,h1⟩,m,h2⟩
theorem ZaU {f:FuncId} {fn:Func} {s:ChangeSpec} (qs:List (TypeId × (D->Prop))) {ts:List TypeId} (N:qs.map (·.1)=ts) {tb:TypeId} (hp:fn.params.toList=ts) (hr:fn.resultTypes.toList=[tb]) (Q:P.underlying tb=some .bool) (a:s.vars=[]) (S:s.plain.varTypes P=[])
  (L: ∀ (H:Type) (ds:List (DataW H)),ds.length=ts.length->s.fn H ds={results:=[.lit (.bool true)],args:=ds}) (O: ∀ q∈qs,Zde P 281474976710656 q.1 q.2) (k:laidOutB P=true)
  (l: ∀ t∈ts,P.readableRec t=true/\t<P.types.size) (u: ∀ as',FitQ qs as'->FnOK P f as' (.bool true))
  {W:World} {base:Nat} {args:Array Value} {ds X:List (DataW H)} {c:List MemPlace}
  (C: ∀ (j:Nat) t v,fn.params[j]? = some t->args[j]? = some v->Value.okWide P W .any base t v)
  (hW:DataW.Whole enc P fn.params.toList s.vars false W args.toList ds X c)
  (hsz:(DataW.weightsEach P (fn.params.toList++s.plain.varTypes P) (ds++X)).all (· <= reachBytes)=true)
  (hg:GlobC (memW W) W (λ_=>False)) :
  Calls P f args W λe W'=>∃ v,e=.returned v/\s.post enc P fn false true false false W args v W':=by
 have g:=hW;obtain⟨p,q,I,Y,rfl,hfz,hnd⟩:=hW;have E:DataW.TrodAll enc P W 0 (λ_=>true) true fn.params.toList args.toList ds p:=I;rw[a] at Y;obtain⟨rfl,rfl⟩:=trodVars_none Y;rw[hp] at E;rw[S,hp,List.append_nil,List.append_nil] at hsz;have T:wOK 281474976710656 (DataW.weightsEach P ts ds):=λx hx=>by
  simp only[List.all_eq_true,decide_eq_true_eq] at hsz
  have:=hsz x hx;unfold reachBytes at this;omega
 have n: ∀ (j:Nat) t v,ts[j]? = some t->args.toList[j]? = some v->Value.okWide P W .any base t v:=λj t v hj hv=>C j t v (by rw[<- hp] at hj;simpa using hj) (by simpa using hv);obtain⟨as',B,r⟩:=Z3V 281474976710656 qs args.toList ds p (by rw[N];exact E) (by rw[N];exact T) O (by rw[N];exact n);have y: ∀ (ts:List TypeId) (vs:List Value) (ds:List (DataW H)) (p:List MemPlace),DataW.TrodAll enc P W 0 (λ_=>true) true ts vs ds p->ds.length=ts.length:=by
  intro ts;induction ts with
  |nil=>intro vs ds p h;obtain⟨rfl,rfl,rfl⟩:=trodAll_nil h;rfl
  |cons t ts U=>intro vs ds p h;obtain⟨v,V,d,G,p,q,rfl,rfl,rfl,_,hr⟩:=trodAll_cons h;simp[U _ _ _ hr]
 have K:=y _ _ _ _ E;have i:=u as' r (memW W) noH W args (λ_=>rfl) hg (λb o v h=>h) (by simpa using B.length) (λj d hd=>by
  have:=B.get j d hd;simpa [Array.getD_eq_getD_getElem?,List.getD] using this)
 simp only[List.append_nil] at g;refine i.mono λe W' ⟨v,φ',he,A,hb,_⟩=>?_;subst he;have hv:v=.bool true:=(A noH).bool_inv;subst hv;have M: ∀ x∈p,x.block<W.heap.size:=λx hx=>by simpa using g.lt x (by simpa using hx)
 have key: ∀ (ts:List TypeId) (vs:List Value) (ds:List (DataW H)) (p:List MemPlace),(∀ t∈ts,P.readableRec t=true/\t<P.types.size)->(∀ x∈p,x.block<W.heap.size)->DataW.TrodAll enc P W 0 (λ_=>true) true ts vs ds p →
   DataW.TrodAll enc P W' 0 (λb=>decide (b<W.heap.size)) true ts vs ds p:=by
  intro ts;induction ts with
  |nil=>intro vs ds p _ _ h;obtain⟨rfl,rfl,rfl⟩:=trodAll_nil h;exact trodAll_mk0
  |cons t ts U =>
   intro vs ds p z hx h;obtain⟨v,V,d,G,p,q,rfl,rfl,rfl,h0,hr⟩:=trodAll_cons h;have F:=z t (List.mem_cons_self ..);exact trodAll_cons_mk (Below.trod k F.1 F.2 h0 hb (λx h=>hx x (List.mem_append_left _ h))) (U _ _ _ (λt F=>z t (List.mem_cons_of_mem _ F)) (λx h=>hx x (List.mem_append_right _ h)) hr)
 have m:=L H ds K;refine⟨_,rfl,Z8k (pa:=p) (pv:=[]) g (λ_ _ _=>?_) ?_ ?_ (by simp) hb⟩
 ·rw[List.append_nil,m,hr];have:fn.resultTypes.size=1:=by rw[<- Array.length_toList,hr];rfl
  rw[this];exact trodAll_cons_mk (shut_bool Q _) trodAll_mk0
 ·rw[List.append_nil,m,hp];exact key _ _ _ _ l M E
 ·rw[List.append_nil,m,a];rfl
end
theorem Zch {B:Nat} {T:TypeId} (g:Zh6 P T=true):Zde P B T (λa=>∃ t:Tm,t.wf B/\a=.agg t.cells):=by
 obtain⟨fs,f0,f1,f2,f3,g⟩:=Z69 g;intro H enc w r base c v x hx i b;obtain⟨t,h1,h2⟩:=ZgC g _ c _ x (Nat.le_refl _) hx i;unfold Value.okWide at b;rw[g.u] at b;simp only at b;obtain⟨vs2,rfl,_⟩:=b;refine⟨.agg t.cells,.agg vs2 t.cells (by simpa [Value.cells] using h2.1) (λj d hd=>?_),t,h1,rfl⟩;simp only[Value.cells] at h2;have e:j<vs2.size:=by
  have:=(List.getElem?_eq_some_iff.1 hd).1;rw[<- h2.1] at this;simpa using this
 have h:vs2.toList[j]? = some (vs2.getD j Go.undef):=by
  rw[List.getElem?_eq_getElem (by simpa using e)];simp[Array.getD,e]
 exact .pure (h2.2 j _ d h hd)
theorem Zhh {q:TypeId × (D->Prop)} {qs:List (TypeId × (D->Prop))} {l:List D} (h:FitQ (q::qs) l): ∃ a r,l=a::r/\q.2 a/\FitQ qs r:=by
 cases l with
 |nil=>exact h.elim
 |cons a r=>exact⟨a,r,rfl,h.1,h.2⟩
theorem Zke {l:List D} (h:FitQ [] l):l=[]:=by
 cases l with
 |nil=>rfl
 |cons a r=>exact h.elim
end Go.Sx
namespace Go.Sx
open Go.RowKit
variable [Globs] [Codes]
/- THE WALK BY TREES: all ways through a text at once,up to the heads of loops;calls by contracts. -/
inductive RT where
 |ok (p:Prop) (r:D) (ob:Obs)
 |br (b:Bool) (x y:RT)
def RT.says (C:D->Obs->Prop):RT->Prop
 |.ok p r ob=>p->C r ob
 |.br b x y=>match b with
  |true=>x.says C
  |false=>y.says C
structure Ctr where
 F:Nat->FuncId->List D->Option RT:=λ_ _ _=>none
 C:Nat->D->List D->Obs->Option RT:=λ_ _ _ _=>none
 E:Nat->Int->List D:=λ_ _=>[]
structure Ctr.OK (tb:Ctr) (P:Program):Prop where
 F: ∀ t f az rt,tb.F t f az=some rt->rt.says λr _=>FnOK P f az r
 C: ∀ t d az ob rt,tb.C t d az ob=some rt->rt.says λr ob'=>CallL P d az ob λr0 ob0=>r0=r/\ob0=ob'
inductive Tr where
 |ret (r:D) (ob:Obs)
 |jmp (K:List Fr) (s:St)
 |owe (p:Prop) (x:Tr)
 |bad
def brT (b:Bool) (x y:Tr):Tr:=match b with
 |true=>x
 |false=>y
def Tr.ok (R:D->Obs->Prop) (J:List Fr->St->Prop):Tr->Prop
 |.ret r ob=>R r ob
 |.jmp K s=>J K s
 |.owe p x=>p/\x.ok R J
 |.bad=>False
section
variable {R:D->Obs->Prop} {J:List Fr->St->Prop}
theorem Zk {r:D} {ob:Obs}:(Tr.ret r ob).ok R J=R r ob:=rfl
theorem QY {K:List Fr} {s:St}:(Tr.jmp K s).ok R J=J K s:=rfl
theorem Zo {p:Prop} {x:Tr}:(Tr.owe p x).ok R J=(p/\x.ok R J):=rfl
theorem Qb {b:Bool} {x y:Tr}:(brT b x y).ok R J=((b=true->x.ok R J)/\(b=false->y.ok R J)):=by
 cases b<;>simp[brT]
theorem QK {x y:Tr}:(brT true x y)=x:=rfl
theorem Qm {x y:Tr}:(brT false x y)=y:=rfl
end
theorem SS:(∀ {R:D->Obs->Prop} {J:List Fr->St->Prop} {b:Bool} {x y:Tr},(brT b x y).ok R J=((b=true->x.ok R J)/\(b=false->y.ok R J))) ∧
  (∀ {R:D->Obs->Prop} {J:List Fr->St->Prop} {p:Prop} {x:Tr},(Tr.owe p x).ok R J=(p/\x.ok R J)) ∧
  (∀ {R:D->Obs->Prop} {J:List Fr->St->Prop} {r:D} {ob:Obs},(Tr.ret r ob).ok R J=R r ob) ∧
  (∀ {R:D->Obs->Prop} {J:List Fr->St->Prop} {K:List Fr} {s:St},(Tr.jmp K s).ok R J=J K s) ∧
  (∀ {p:Prop} [Decidable p],(decide p=true)=p)/\(∀ {p:Prop} [Decidable p],decide p=false ↔ ¬ p)/\(∀ n:Nat,(n:Int).toNat=n) ∧
  (∀ p:Prop,(True/\p)=p)/\(∀ p:Prop,(p/\True)=p)/\(∀ b:Bool,((!b)=true)=(b=false))/\(∀ b:Bool,((!b)=false)=(b=true)) ∧
  (∀ {α:Type} {l:List α},l.drop 0=l)/\(∀ {α:Type} {l:List α},l.take l.length=l) ∧
  (∀ {a b:Bool},(D.bool a=D.bool b)=(a=b))/\(∀ {k l:IntKind} {a b:Int},(D.int k a=D.int l b)=(k=l/\a=b))/\(∀ {a b:List UInt8},(D.str a=D.str b)=(a=b)) ∧
  (∀ p:Prop,(True->p)=p)/\(∀ a:Int,a<=a) :=
 ⟨Qb,Zo,Zk,QY,decide_eq_true_eq,decide_eq_false_iff_not,Int.toNat_natCast,true_and,and_true,Bool.not_eq_true',Bool.not_eq_false',List.drop_zero,List.take_length,by simp only[D.bool.injEq,implies_true],by simp only[D.int.injEq,implies_true],by simp only[D.str.injEq,implies_true],λp=>true_implies p,Int.le_refl⟩
def Zy (sz:Nat) (es:List (List D)):Prop:=∀ q∈es,q.length=sz
theorem Z2l (sz:Nat):Zy sz []:=λq a=>by cases a
theorem Z1E {sz:Nat} {e:List D} {es:List (List D)}:Zy sz (e::es) ↔ e.length=sz/\Zy sz es:=by simp[Zy]
def arT (k:IntKind) (n:Int) (K:D->Tr):Tr:=match k with
 |.i64=>.owe (-9223372036854775808<=n/\n<=9223372036854775807) (K (.int .i64 n))
 |k=>K (.int k (k.wrap n))
def oneT (d:Option D) (K:D->Tr):Tr:=match d with
 |some d=>K d
 |none=>.bad
def binT (op:BinOp) (k:IntKind) (a b:Int) (K:D->Tr):Tr:=match op with
 |.add=>arT k (a+b) K
 |.sub=>arT k (a-b) K
 |.mul=>arT k (a*b) K
 |.quo=>.owe (b≠0) (arT k (a.tdiv b) K)
 |.rem=>.owe (b≠0) (K (.int k (a.tmod b)))
 |op=>oneT (Zd6 op k a b) K
def ZhL (op:BinOp) (a b:List UInt8) (K:D->Tr):Tr:=match op with
 |.add=>.owe (a.length+b.length<=4611686018427387904) (K (.str (a++b)))
 |op=>oneT (Zd4 op a b) K
def iaT (c:List D) (sz:Nat) (es:List (List D)) (n:Int) (K:D->Tr):Tr:=match c with
 |[]=>.owe (0<=n/\n<es.length/\(es.getD n.toNat []).length=sz) (K (.fptr (es.getD n.toNat [])))
 |c::cs=>if (c::cs).length=sz then .owe (0<=n/\es[n.toNat]? = some (c::cs)) (K (.fptr (c::cs))) else .bad
def rtT:RT->(D->Obs->Tr)->Tr
 |.ok p r ob,K=>.owe p (K r ob)
 |.br b x y,K=>brT b (rtT x K) (rtT y K)
def mfT (key:D):List D->List D->(Option D->Tr)->Tr
 |[],[],K=>K none
 |k::ks,d::ds,K=>match keqD key k with
  |some b=>brT b (K (some d)) (mfT key ks ds K)
  |none=>.bad
 |_,_,_=>.bad
def evT (tb:Ctr) (t dst:Nat) (o:AOp) (xs:List D) (obs:Nat->Option Ob) (K:D->Option Ob->Tr):Tr :=
 match o,xs with
 |.pick,[.bool c,a,b]=>brT c (K a none) (K b none)
 |.bin op,[.int k a,.int l b]=>if k=l then binT op k a b (λd=>K d none) else .bad
 |.bin op,[.str a,.str b]=>ZhL op a b (λd=>K d none)
 |.un .neg,[.int k a]=>arT k (0-a) (λd=>K d none)
 |.conv k,[.int _ n]=>arT k n (λd=>K d none)
 |.iaddr sz,[.slice es _,.int _ n]=>iaT (tb.E t n) sz es n (λd=>K d none)
 |.iaddr sz,[.vec id,.int _ n]=>match obs id with
  |some (.arr true _ _ es)=>iaT (tb.E t n) sz es n (λd=>K d none)
  |some (.arr false g _ es)=>if g=sz then .owe (0<=n/\n<es.length) (K (.vptr id n.toNat 0 sz) none) else .bad
  |_=>.bad
 |.index,[.str s,.int _ n]=>.owe (0<=n/\n<s.length) (K (.int .u8 (s.getD n.toNat 0).toNat) none)
 |.sliceS lo hi,.str s::bs=>match Z0m lo hi s.length bs with
  |some (a,b)=>.owe (0<=a/\a<=b/\b<=s.length) (K (.str ((s.take b.toNat).drop a.toNat)) none)
  |none=>.bad
 |.slice sz lo hi,d::bs=>match Z0g obs d with
  |some (es,ext)=>match Z0m lo hi es.length bs with
   |some (a,b)=>.owe (Zy sz (es++ext)/\0<=a/\a<=b/\b<=(es++ext).length) (match tb.E t 0 with
    |[.slice A X]=>.owe (((es++ext).take b.toNat).drop a.toNat=A/\(es++ext).drop b.toNat=X) (K (.slice A X) none)
    |_=>K (.slice (((es++ext).take b.toNat).drop a.toNat) ((es++ext).drop b.toNat)) none)
   |none=>.bad
  |none=>(match d,bs with
   |.vec id,[.int _ n]=>(match lo,hi with
    |true,false=>(match obs id with
     |some (.arr false g _ es)=>if g=sz then .owe (es≠[]/\0<=n/\n<=es.length) (K (.vwin id n.toNat sz) none) else .bad
     |_=>.bad)
    |_,_=>.bad)
   |_,_=>.bad)
 |.call f,ds=>match tb.F t f (ds.map (dv obs)) with
  |some rt=>rtT rt λr _=>K (Zd0 dst r).1 (Zd0 dst r).2
  |none=>.bad
 |.iaddrA len sz,[.fptr cs,.int _ n]=>.owe (0<=n/\n<len) (K (.fptr (cs.drop (n.toNat*sz))) none)
 |.iaddrA len sz,[.ptr id off,.int _ n]=>.owe (0<=n/\n<len) (K (.ptr id (off+n.toNat*sz)) none)
 |.sh left,[.int k a,.int _ b]=>.owe (0<=b) (K (.int k (shI left k a b)) none)
 |.b2s,[d]=>match Z28 obs d with
  |some es=>.owe (es=byC (QH es)) (K (.str (QH es)) none)
  |none=>.bad
 |.mks fz sz e z bt,[.int _ n]=>if z.all D.pur=true then .owe (0<=n/\n*bt<=281474976710656/\n<=1073741824) (K (.vec dst) (some (.arr fz sz e (List.replicate n.toNat z)))) else .bad
 |.mlook kd z,[.map id,key]=>match obs id with
  |some (.gen (.map ks) ds)=>if isKD kd key=true then mfT key ks ds (λr=>K (r.getD z) none) else .bad
  |_=>.bad
 |.load agg sz,[.vptr id i j g]=>match tb.E t (i:Int) with
  |[]=>(match evE (λ_ _=>none) dst (.load agg sz) [.vptr id i j g] obs with
   |some (d,nb)=>K d nb
   |none=>.bad)
  |c::cs=>match obs id with
   |some (.arr false h _ es)=>if h=g/\j+sz<=g then .owe (es[i]? = some (c::cs)) (match agg with
    |true=>K (.agg (((c::cs).drop j).take sz)) none
    |false=>oneT ((c::cs)[j]?) λd=>K d none) else .bad
   |_=>.bad
 |.ext (.eqs3 m),xs=>(match extD (.eqs3 m) xs obs with
  |some d=>K d none
  |none=>.bad)
 |.ext k,xs=>match tb.E t 0 with
  |d::_=>.owe (extD k xs obs=some d) (K d none)
  |[]=>(match extD k xs obs with
   |some d=>K d none
   |none=>.bad)
 |.mm big,.int k a::ds=>match mmI big k a ds with
  |some r=>(match tb.E t 0 with
   |[.int .i64 q]=>.owe (k=.i64/\r=q) (K (.int .i64 q) none)
   |_=>K (.int k r) none)
  |none=>.bad
 |o,xs=>match evE (λ_ _=>none) dst o xs obs with
  |some (d,nb)=>K d nb
  |none=>.bad
theorem ZbH {n:Int} (h: -9223372036854775808<=n/\n<=9223372036854775807):IntKind.i64.wrap n=n:=by
 rw[IntKind.wrap_i64];omega
section
variable {R:D->Obs->Prop} {J:List Fr->St->Prop} {P:Program}
theorem Z4b {k:IntKind} {n:Int} {K:D->Tr} (h:(arT k n K).ok R J):(K (.int k (k.wrap n))).ok R J:=by
 unfold arT at h;split at h
 ·rw[ZbH h.1];exact h.2
 ·exact h
theorem Z5Y {d:Option D} {K:D->Tr} (h:(oneT d K).ok R J): ∃ r,d=some r/\(K r).ok R J:=by
 cases d with
 |none=>exact h.elim
 |some d=>exact⟨d,rfl,h⟩
theorem ZhK {op:BinOp} {k:IntKind} {a b:Int} {K:D->Tr} (h:(binT op k a b K).ok R J):binI op k a b λd=>(K d).ok R J:=by
 unfold binT at h;split at h
 ·exact Z4b h
 ·exact Z4b h
 ·exact Z4b h
 ·exact⟨h.1,Z4b h.2⟩
 ·exact⟨h.1,h.2⟩
 ·obtain⟨r,hr,c⟩:=Z5Y h;exact Z3u hr c
theorem Zd3 {op:BinOp} {a b:List UInt8} {K:D->Tr} (h:(ZhL op a b K).ok R J):binS op a b λd=>(K d).ok R J:=by
 unfold ZhL at h;split at h
 ·exact⟨h.1,h.2⟩
 ·obtain⟨r,hr,c⟩:=Z5Y h;exact Z3t hr c
theorem Zem {c:List D} {sz:Nat} {es:List (List D)} {n:Int} {K:D->Tr} (h:(iaT c sz es n K).ok R J):0<=n/\n<es.length/\(es.getD n.toNat []).length=sz/\(K (.fptr (es.getD n.toNat []))).ok R J:=by
 unfold iaT at h;split at h
 ·exact⟨h.1.1,h.1.2.1,h.1.2.2,h.2⟩
 ·rename_i c cs;split at h
  ·rename_i hsz;obtain⟨⟨h0,h1⟩,h2⟩:=h;have b:=(List.getElem?_eq_some_iff.1 h1).1;have a:es.getD n.toNat []=c::cs:=by simp[List.getD,h1]
   rw[a];exact⟨h0,by omega,hsz,h2⟩
  ·exact h.elim
theorem Z2r {C:D->Obs->Prop} {K:D->Obs->Tr}: ∀ {rt:RT},rt.says C->(rtT rt K).ok R J-> ∃ r ob,C r ob/\(K r ob).ok R J
 |.ok p r ob,hs,h=>⟨r,ob,hs h.1,h.2⟩
 |.br b x y,hs,h=>by
  cases b
  ·exact Z2r (rt:=y) hs h
  ·exact Z2r (rt:=x) hs h
theorem Z5r {b:Bool} {x y:Tr} (h:(brT b x y).ok R J):(b=true/\x.ok R J)\/(b=false/\y.ok R J):=by
 cases b
 ·exact .inr ⟨rfl,h⟩
 ·exact .inl ⟨rfl,h⟩
theorem Zeh {key:D}: ∀ {ks ds:List D} {K:Option D->Tr},(mfT key ks ds K).ok R J-> ∃ r,Z2C key ks ds=some r/\(K r).ok R J
 |[],[],K,h=>⟨none,rfl,h⟩
 |[],_::_,K,h=>h.elim
 |_::_,[],K,h=>h.elim
 |k::ks,d::ds,K,h=>by
  simp only[mfT] at h;simp only[Z2C];cases a:keqD key k with
  |none=>rw[a] at h;exact h.elim
  |some b =>
   rw[a] at h;rcases Z5r h with⟨rfl,h⟩|⟨rfl,h⟩
   ·exact⟨some d,rfl,h⟩
   ·exact Zeh h
theorem Zeo {tb:Ctr} (g:tb.OK P) {t dst:Nat} {op:AOp} {xs:List D} {obs:Nat->Option Ob} {K:D->Option Ob->Tr} (h:(evT tb t dst op xs obs K).ok R J):evl P dst op xs obs λd nb=>(K d nb).ok R J:=by
 unfold evT at h;split at h
 case h_1=> 
  rcases Z5r h with⟨rfl,h⟩|⟨rfl,h⟩
  ·exact h
  ·exact h
 case h_2 =>
  split at h
  ·rename_i b;exact⟨b,ZhK h⟩
  ·exact h.elim
 case h_3=>exact Zd3 h
 case h_4=>exact Z4b h
 case h_5=>exact Z4b h
 case h_6=>exact Zem h
 case h_7 =>
  simp only[evl];split at h
  ·rename_i heq;rw[heq];exact Zem h
  ·rename_i heq;rw[heq];split at h
   ·rename_i hs;exact⟨hs,h.1.1,h.1.2,h.2⟩
   ·exact h.elim
  ·exact h.elim
 case h_8=>exact⟨h.1.1,h.1.2,h.2⟩
 case h_9 =>
  simp only[evl];split at h
  ·rename_i heq;simp only[heq];exact⟨h.1.1,h.1.2.1,h.1.2.2,h.2⟩
  ·exact h.elim
 case h_10 =>
  simp only[evl];split at h
  ·rename_i heq;rw[heq];simp only;split at h
   ·rename_i a;simp only[a];have h2:=h.2;refine⟨h.1.1,h.1.2.1,h.1.2.2.1,h.1.2.2.2,?_⟩;split at h2
    ·rw[h2.1.1,h2.1.2];exact h2.2
    ·exact h2
   ·exact h.elim
  ·rename_i heq;rw[heq];simp only;split at h
   ·split at h
    ·split at h
     ·rename_i a;simp only[a];split at h
      ·rename_i hc;exact⟨hc,h.1.1,h.1.2.1,h.1.2.2,h.2⟩
      ·exact h.elim
     ·exact h.elim
    ·exact h.elim
   ·exact h.elim
 case h_11 =>
  split at h
  ·rename_i rt e;obtain⟨r,ob,hf,b⟩:=Z2r (g.F _ _ _ _ e) h;refine⟨r,hf,?_⟩;cases r<;>exact b
  ·exact h.elim
 case h_12=>exact⟨h.1.1,h.1.2,h.2⟩
 case h_13=>exact⟨h.1.1,h.1.2,h.2⟩
 case h_14=>exact⟨h.1,h.2⟩
 case h_15 =>
  simp only[evl];split at h
  ·rename_i heq;simp only[heq];exact⟨h.1,h.2⟩
  ·exact h.elim
 case h_16 =>
  split at h
  ·rename_i hp;exact⟨hp,h.1.1,h.1.2.1,h.1.2.2,h.2⟩
  ·exact h.elim
 case h_17 =>
  simp only[evl];split at h
  ·rename_i heq;rw[heq];split at h
   ·rename_i hc;obtain⟨r,hr,b⟩:=Zeh h;simp only[hr];exact⟨hc,b⟩
   ·exact h.elim
  ·exact h.elim
 case h_18 =>
  split at h
  ·split at h
   ·rename_i heq;exact Z0A (fn:=λ_ _=>none) (P:=P) (λ_ _ _ h=>by cases h) heq h
   ·exact h.elim
  ·rename_i c cs _;simp only[evl];split at h
   ·rename_i heq;rw[heq];split at h
    ·rename_i hc;refine⟨hc.1,hc.2,?_⟩;rw[h.1];have h2:=h.2;split at h2
     ·exact h2
     ·obtain⟨d,hd,b⟩:=Z5Y h2;simp only[Bool.false_eq_true,if_false,hd];exact b
    ·exact h.elim
   ·exact h.elim
 case h_19 =>
  split at h
  ·rename_i heq;show evl P dst (.ext _) _ obs _;unfold evl;simp only[heq];exact h
  ·exact h.elim
 case h_20 =>
  split at h
  ·rename_i d _ _;show evl P dst (.ext _) _ obs _;unfold evl;simp only[h.1];exact h.2
  ·unfold evl;split at h
   ·rename_i heq;simp only[heq];exact h
   ·exact h.elim
 case h_21 =>
  simp only[evl];split at h
  ·rename_i heq;simp only[heq];split at h
   ·obtain⟨⟨rfl,rfl⟩,h⟩:=h;exact h
   ·exact h
  ·exact h.elim
 case h_22 =>
  split at h
  ·rename_i heq;exact Z0A (fn:=λ_ _=>none) (P:=P) (λ_ _ _ h=>by cases h) heq h
  ·exact h.elim
end
end Go.Sx
