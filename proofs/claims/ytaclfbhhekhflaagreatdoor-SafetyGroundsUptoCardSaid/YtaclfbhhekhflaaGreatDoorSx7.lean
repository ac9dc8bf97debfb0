/- Own work: a layer over the kit: plain data,a walk over it,its soundness. -/
import Derived.Lib.Join
import Derived.Lib.Fields
import Derived.Lib.Atoi
import Derived.Lib.ConvBytes
import Derived.Lib.AtoiErrMem
import Derived.Lib.Bytealg
import Derived.Lib.ItoaNum
import Derived.Lib.LaidTab
import Derived.Shelf.Strconv.Itoa3
import Derived.Sort.Grow
import Derived.Deep.Slices
import Derived.ChangeArms
import Derived.WalkKit
import Derived.OpenShut
import Derived.SevenTiedAt
import Derived.Carry
import Derived.Test.YtaclfbhhekhflaaGreatDoorSx6
set_option linter.all false
namespace Go.Sx
open Go.RowKit
variable [Globs] [Codes]
theorem ZbY {P:Program} {b:Nat} {o:SOp} {s:St} {Kn Kn':St->Prop} {Kp Kp':Value->St->Prop} (h:stpX P b o s Kn Kp) (c: ∀ s,Kn s->Kn' s) (hp: ∀ v s,Kp v s->Kp' v s):stpX P b o s Kn' Kp':=by
 cases o with
 |st g sz x y=>exact Z1m (P:=P) (b:=b) (o:=.st g sz x y) h c
 |app dst g fz sz e x y=>exact Z1m (P:=P) (b:=b) (o:=.app dst g fz sz e x y) h c
 |cd dst g x xs =>
  refine Qb (λm=>?_) (c _) h;obtain⟨nm,R,base,h1,h2,i,j,k,l⟩:=m;refine⟨nm,R,base,h1,h2,i,j,k,λr ob' hr=>?_⟩;rcases l r ob' hr with⟨p,q⟩|⟨v,p,q⟩
  ·grind
  ·grind
 |a dst g op xs =>
  by_cases n:dst=none/\op=.pnk/\ ∃ x,xs=[x]
  ·grind [Z1m,Qb,stpX,stp]
  ·have e: ∀ Kn Kp,stpX P b (.a dst g op xs) s Kn Kp=stp P b (.a dst g op xs) s Kn:=λKn Kp=>by
    cases dst with
    |some d=>rfl
    |none=>cases op<;>first|rfl|(cases xs with
      |nil=>rfl
      |cons x r=>cases r with
       |nil=>exact absurd ⟨rfl,rfl,x,rfl⟩ n
       |cons _ _=>rfl)
   rw[e] at h ⊢;exact Z1m h c
theorem ZbX {P:Program} {b:Nat} {o:SOp} {s:St} {K:St->Prop} {Kp:Value->St->Prop} (h:stp P b o s K):stpX P b o s K Kp:=by
 cases o with
 |st g sz x y=>exact h
 |app dst g fz sz e x y=>exact h
 |cd dst g x xs =>
  refine Qb (λc=>?_) id h;obtain⟨nm,R,base,h1,h2,j,k,l,m⟩:=c;exact⟨nm,R,base,h1,h2,j,k,l,λr ob' hr=>.inl (m r ob' hr)⟩
 |a dst g op xs =>
  by_cases i:dst=none/\op=.pnk/\ ∃ x,xs=[x]
  ·obtain⟨rfl,rfl,x,rfl⟩:=i;exact Qb (λc=>c.elim) id h
  ·have e:stpX P b (.a dst g op xs) s K Kp=stp P b (.a dst g op xs) s K:=by
    cases dst with
    |some d=>rfl
    |none=>cases op<;>first|rfl|(cases xs with
      |nil=>rfl
      |cons x r=>cases r with
       |nil=>exact absurd ⟨rfl,rfl,x,rfl⟩ i
       |cons _ _=>rfl)
   rw[e];exact h
theorem Z4C {P:Program} {b:Nat}: ∀ {ops:List SOp} {s:St} {Kn Kn':St->Prop} {Kp Kp':Value->St->Prop},Z2E P b ops s Kn Kp->(∀ s,Kn s->Kn' s)->(∀ v s,Kp v s->Kp' v s)->Z2E P b ops s Kn' Kp'
 |[],_,_,_,_,_,h,a,_=>a _ h
 |_::_,_,_,_,_,_,h,a,hp=>ZbY h (λ_ hs=>Z4C hs a hp) hp
theorem Z93 {P:Program} {b:Nat}: ∀ {ops:List SOp} {s:St} {K:St->Prop} {Kp:Value->St->Prop},stps P b ops s K->Z2E P b ops s K Kp
 |[],_,_,_,h=>h
 |_::_,_,_,_,h=>ZbX (Z1m h λ_ hs=>Z93 hs)
theorem Z1n {P:Program} {bs:Nat} {k:Sp} {Q Q':Exit->St->Prop} {s:St} (h:spS P bs k Q s) (d: ∀ e s,Q e s->Q' e s):spS P bs k Q' s:=by
 cases k with
 |frg ts=>exact d _ _ h
 |dfr _ _=>exact h.elim
 |rcv _ _=>exact h.elim
 |pan ops=>exact Z4C h (λs=>d _ s) (λv s=>d _ s)
 |ord pre ops =>
  obtain⟨pan,qs,s',h1,h2,m,g⟩:=h;refine⟨pan,qs,s',h1,h2,m,?_⟩;cases pan with
  |none=>exact d _ _ g
  |some q=>exact⟨g.1,d _ _ g.2⟩
 |rng ops dst x =>
  refine Z02 h λs' ⟨j,ks,ds,h1,h2,m,g,n⟩=>⟨j,ks,ds,h1,h2,m,g,λl cl a b c=>d _ _ (n l cl a b c)⟩
 |nxt it t1 t2 =>
  obtain⟨id,l,ix,cl,j,ks,ds,h1,h2,m,g,n,o⟩:=h;exact⟨id,l,ix,cl,j,ks,ds,h1,h2,m,g,λha=>d _ _ (n ha),λi hi p=>d _ _ (o i hi p)⟩
theorem ZB {P:Program} {bs:Nat}: ∀ {c:SC} {s:St} {Q Q':Exit->St->Prop},sw P bs c Q s->(∀ e s,Q e s->Q' e s)->sw P bs c Q' s:=by
 intro c;induction c with
 |skip=>intro s Q Q' h d;exact d _ _ h
 |ret=>intro s Q Q' h d;exact d _ _ h
 |exit id=>intro s Q Q' h d;exact d _ _ h
 |reg ops=>intro s Q Q' h d;exact Z02 h λs=>d _ s
 |spec k=>intro s Q Q' h d;exact Z1n h d
 |drw pre ops=>intro s Q Q' h d;obtain⟨es,s',h1,h2,p⟩:=h;exact⟨es,s',h1,h2,d _ _ p⟩
 |seq a b l m =>
  intro s Q Q' h d;refine l h λe s j=>?_;cases e<;>first|exact m j d|exact d _ _ j
 |cond x a b l m =>
  grind [Z02,Z1n,sw,QB,Inv]
 |block id c n =>
  intro s Q Q' h d;refine n h λe s j=>?_;cases e<;>try exact d _ _ j
  rename_i i;simp only[QB] at j ⊢;split at j
  ·grind
  ·grind
 |loop ts c n =>
  intro s Q Q' h d;obtain⟨o,Inv,h1,h2⟩:=h;refine⟨o,Inv,h1,λk s' hi=>n (h2 k s' hi) λe s j=>?_⟩;cases e<;>first|exact j|exact d _ _ j
 |rangeF N g ps a b _ _ =>
  grind [Z02,Z1n,sw,QB,Inv]
inductive Fr where
 |sc (c:SC)
 |blk (id:Nat)
structure Tab where
 T:FuncId->Option (Nat × SC × List SR)
 C:FuncId->List D->Obs->Option (D × Obs)
 F:FuncId->List D->Option D:=λ_ _=>none
structure Tab.OK (tab:Tab) (P:Program):Prop where
 T: ∀ f N sc rs,tab.T f=some (N,sc,rs)->FnC P f N sc rs/\ZC P f=true
 C: ∀ f az ob r ob',tab.C f az ob=some (r,ob')->ZC P f=true/\CallL P (.func (.func f) [] []) az ob λr0 ob0=>r0=r/\ob0=ob'
 F: ∀ f az r,tab.F f az=some r->FnOK P f az r
abbrev GoF:=Nat->List Fr->St->Option (Exit × St)
def finB:Exit->Bool
 |.normal=>true
 |.ret=>true
 |_=>false
def Z3J:Exit->Option (Option Code)
 |.normal=>some none
 |.ret=>some (some .ret)
 |.exit i=>some (some (.exit i))
 |_=>none
def SC.hasD:SC->Bool
 |.seq a b=>(match a with
  |.spec (.dfr _ _)=>true
  |_=>false) ||b.hasD
 |_=>false
abbrev noCl:Z4z:=λ_ _ _=>none
abbrev noFn:FuncId->List D->Option D:=λ_ _=>none
def Zgl (tab:Tab) (g:GoF) (a:FuncId) (first caps:List D) (ob:Obs):Option Obs:=match tab.T a with
 |some (N,.seq (.spec (.rcv t ops)) b,[])=>if (first++caps).length<=N then (match opsE noCl noFn (St.nx ⟨(t,.raw .nilIface)::Z8 t (ZM 0 (first++caps)),ob⟩ (Obs.top ob)) ops ⟨(t,.raw .nilIface)::Z8 t (ZM 0 (first++caps)),ob⟩ with
  |some s1=>match g (Obs.top ob) [.sc b] s1 with
   |some (e,s)=>if finB e=true then some ((s.fin (Obs.top ob) (.tuple [])).ob) else none
   |none=>none
  |none=>none) else none
 |_=>none
def finR (k:Nat) (rs:List SR) (s:St):Option (D × Obs):=match rs.mapM (resD s) with
 |some ds=>some ((s.fin k (Z0H ds)).get (.t 0),(s.fin k (Z0H ds)).ob)
 |none=>none
def Zb4 (tab:Tab) (g:GoF) (k:Nat) (rs:List SR):SC->St->Option (D × Obs)
 |.seq a b,s=>match a with
  |.spec (.dfr ops x)=>match opsE noCl noFn (s.nx k) ops s with
   |some s1=>match s1.get x with
    |.func (.func h) fa d =>
     let cl:=s1.get x;let k2:=max k (max s1.top (D.top cl))
     (match g k2 [.sc b] s1 with
     |some (e,c)=>if finB e=true then
       (let nm:=Z1K c [cl]
       if Z0w nm=true then (match Zgl tab g h (D.renL (idx · nm) fa) (D.renL (idx · nm) d) (ZT c.ob (idx · nm) 0 nm) with
       |some ob'=>finR k rs (c.back (max k2 c.top) nm ob')
       |none=>none) else none) else none
     |none=>none)
    |_=>none
   |none=>none
  |.spec (.frg ts)=>Zb4 tab g k rs b (s.canon k ts)
  |a=>match g k [.sc a] s with
   |some (.normal,s')=>Zb4 tab g k rs b s'
   |some (.ret,s')=>finR k rs s'
   |_=>none
 |_,_=>none
def Z4j (tab:Tab) (g:GoF):Z4z:=λd args ob=>match d with
 |.func (.func f) first caps=>match tab.C f (first++args++caps) ob with
  |some x=>some x
  |none=>match tab.T f with
   |some (N,sc,rs)=>if (first++args++caps).length<=N then if sc.hasD=true then Zb4 tab g (Obs.top ob) rs sc ⟨ZM 0 (first++args++caps),ob⟩ else
     (match g (Obs.top ob) [.sc sc] ⟨ZM 0 (first++args++caps),ob⟩ with
     |some (e,s)=>if finB e=true then (match rs.mapM (resD s) with
      |some ds=>some ((s.fin (Obs.top ob) (Z0H ds)).get (.t 0),(s.fin (Obs.top ob) (Z0H ds)).ob)
      |none=>none) else none
     |none=>none) else none
   |none=>none
 |.yld c=>match lk ob c with
  |some (.gen (.loop .ready none ps a b N keys) ds)=>if ps.size=args.length/\(ps.toList.all λt=>decide (t<N))=true then
    (match g (Obs.top ob) [.sc a] ⟨putP (ps.toList.zip args) (keys.zip ds),Z8 c ob⟩ with
    |some (.normal,s1)=>match g (Obs.top ob) [.sc b] s1 with
     |some (e,h)=>match Z3J e with
      |some pend=>if (lk h.ob c).isNone=true then some (.bool pend.isNone,(c,.gen (.loop (if pend.isNone then .ready else .done) pend ps a b N keys) ds)::(h.canon (Obs.top ob) []).ob) else none
      |none=>none
     |none=>none
    |_=>none) else none
  |_=>none
 |_=>none
def retE (r:D) (ob:Obs):Option D:=match r with
 |.vec id=>match lk (frzO ob) id with
  |some (.arr true sz e es)=>some (.own sz e es)
  |_=>none
 |r=>if D.clo (dvt (lk (frzO ob)) r)=true then some (dvt (lk (frzO ob)) r) else none
def fnE (tab:Tab) (g:GoF):FuncId->List D->Option D:=λf args=>match tab.F f args with
 |some r=>some r
 |none=>match Z4j tab g (.func (.func f) [] []) args [] with
  |some (r,ob)=>retE r ob
  |none=>none
def Z15 (i:Nat):List Fr->Option (List Fr)
 |[]=>none
 |.blk j::K=>if i=j then some K else Z15 i K
 |.sc _::K=>Z15 i K
def rngS (P:Program) (s:St) (c N:Nat) (ps:Array Tmp) (a b:SC):Obs:=(c,recd P .ready none N ps a b s.tm)::s.ob
def Z1L (P:Program) (tab:Tab) (d:GoF):GoF:=λbs K s=>match K with
 |[]=>some (.normal,s)
 |.blk _::K=>d bs K s
 |.sc c::K=>match c with
  |.skip=>d bs K s
  |.ret=>some (.ret,s)
  |.exit i=>match Z15 i K with
   |some K'=>d bs K' s
   |none=>some (.exit i,s)
  |.reg ops=>match opsE (Z4j tab d) (fnE tab d) (s.nx bs) ops s with
   |some s'=>d bs K s'
   |none=>none
  |.drw pre ops=>match canE (Z4j tab d) (fnE tab d) (s.nx bs) ops s with
   |some (es,s')=>if dchk (s.nx bs) pre ops es s=true then d bs K s' else none
   |none=>none
  |.seq a b=>d bs (.sc a:: .sc b::K) s
  |.cond x a b=>match s.get x with
   |.bool t=>d bs (.sc (if t then a else b)::K) s
   |_=>none
  |.block id c=>d bs (.sc c:: .blk id::K) s
  |.loop ts c=>d bs (.sc c:: .sc (.loop ts c)::K) (s.canon bs ts)
  |.spec k=>match k with
   |.frg ts=>d bs K (s.canon bs ts)
   |.pan ops=>(match opsE (Z4j tab d) (fnE tab d) (s.nx bs) ops s with
    |some s'=>d bs K s'
    |none=>none)
   |_=>none
  |.rangeF N g ps a b =>
   let ob1:=rngS P s (s.nx bs) N ps a b;let nm:=Z1K ⟨s.tm,ob1⟩ [s.get g,.yld (s.nx bs)]
   match s.get g with
   |.func (.func f) fa e=>if Z0w nm=true/\((tab.T f).isSome=true) then
     (match Z4j tab d ((s.get g).ren (idx · nm)) [(D.yld (s.nx bs)).ren (idx · nm)] (ZT ob1 (idx · nm) 0 nm) with
     |some (r,ob')=>if r.isPan=true then none else
      let S:=St.back ⟨s.tm,ob1⟩ (s.nx bs+1) nm ob'
      match lk S.ob (s.nx bs) with
      |some (.gen (.loop st pend _ _ _ _ _) _)=>if st=.busy then none else (match pend with
       |none=>d bs K ⟨s.tm,Z8 (s.nx bs) S.ob⟩
       |some .ret=>some (.ret,⟨s.tm,Z8 (s.nx bs) S.ob⟩)
       |some (.exit i)=>match Z15 i K with
        |some K'=>d bs K' ⟨s.tm,Z8 (s.nx bs) S.ob⟩
        |none=>some (.exit i,⟨s.tm,Z8 (s.nx bs) S.ob⟩)
       |_=>none)
      |_=>none
     |none=>none) else none
   |_=>none
def go (P:Program) (tab:Tab) (n:Nat):GoF:=Nat.rec (λ_ _ _=>none) (λ_ a=>Z1L P tab a) n
theorem Zdl (P:Program) (tab:Tab) (n:Nat):go P tab (n+1)=Z1L P tab (go P tab n):=rfl
section
variable {P:Program} {tab:Tab}
def Z3H (P:Program) (tab:Tab) (m bs:Nat) (K:List Fr) (ex:Exit) (s:St) (out:Exit × St):Prop:=match ex with
 |.normal=>go P tab m bs K s=some out
 |.ret=>out=(.ret,s)
 |.exit i=>match Z15 i K with
  |some K'=>go P tab m bs K' s=some out
  |none=>out=(.exit i,s)
 |_=>False
theorem CallL.split {f:FuncId} (hp:ZC P f=true) {first args caps:List D} {ob:Obs} {R:D->Obs->Prop} (h:CallL P (.func (.func f) [] []) (first++args++caps) ob R):CallL P (.func (.func f) first caps) args ob R:=by
 intro F b n φ hh w v vs hl hv e;obtain⟨va,vc,rfl,ha,hc,c,d⟩:=Sx.func_inv hv;rw[Zi hp];have a:RVL φ hh (va++vs++vc).toList (first++args++caps):=by
  grind [Zi,Array.toList_append,QY,ZG,Array.getD_eq_getD_getElem?,List.getD,RVL]
 have:=h F b n φ hh w (.func (.func f) #[] #[]) (va++vs++vc) hl (.func _ _ _ _ _ rfl rfl (by simp) (by simp)) a;rw[Zi hp] at this;simpa using this
theorem Zds {k:Nat} {rs:List SR} {s:St} {r:D} {ob':Obs} (h:finR k rs s=some (r,ob')): ∃ ds,rs.mapM (resD s)=some ds/\RetL k (λr0 ob0=>r0=r/\ob0=ob') s (Z0H ds):=by
 unfold finR at h;split at h
 ·rename_i ds a;simp only[Option.some.injEq,Prod.mk.injEq] at h;exact⟨ds,a,h.1,h.2⟩
 ·cases h
theorem Z8a [CodesOf P] (Z3:DrawSound P) (g:tab.OK P) {n:Nat}
  (j: ∀ bs c s out,go P tab n bs [.sc c] s=some out->sw P bs c (λex s1=>out=(ex,s1)) s) {i:FuncId} {first caps:List D} {ob ob':Obs} (h:Zgl tab (go P tab n) i first caps ob=some ob') :
  CallD P .returning (.func (.func i) first caps) ob λm ob0=>m=.returning/\ob0=ob':=by
 unfold Zgl at h;split at h
 ·rename_i N t ops o k;obtain⟨hf,hp⟩:=g.T i _ _ _ k;split at h
  ·rename_i b;split at h
   ·rename_i s1 d;split at h
    ·rename_i e s l;split at h
     ·rename_i a;simp only[Option.some.injEq] at h;refine CallD.fn Z3 hf (Obs.top ob) (Nat.le_refl _) b rfl (Z0v (P:=P) (fn:=noFn) (cl:=noCl) (λ_ _ _ h=>by cases h) (λ_ _ _ _ _ h=>by cases h) d ?_);refine ZB (j _ _ _ _ l) λex s1 hr=>?_;simp only[Prod.mk.injEq] at hr;obtain⟨rfl,rfl⟩:=hr;refine⟨?_,rfl,h⟩;cases e<;>first|exact .inl rfl|exact .inr rfl|cases a
     ·cases h
    ·cases h
   ·cases h
  ·cases h
 ·cases h
theorem Z8b [CodesOf P] (Z3:DrawSound P) (j:tab.OK P) {n:Nat}
  (g: ∀ bs c s out,go P tab n bs [.sc c] s=some out->sw P bs c (λex s1=>out=(ex,s1)) s) {k:Nat} {rs:List SR} {r:D} {ob':Obs}: ∀ (sc:SC) (s:St),Zb4 tab (go P tab n) k rs sc s=some (r,ob') →
  swD P k (EndQ rs (RetL k λr0 ob0=>r0=r/\ob0=ob')) (KDef P k rs λr0 ob0=>r0=r/\ob0=ob') sc s:=by
 intro sc;induction sc with
 |seq a b G t =>
  intro s h;have d:(match go P tab n k [.sc a] s with
   |some (.normal,s')=>Zb4 tab (go P tab n) k rs b s'
   |some (.ret,s')=>finR k rs s'
   |_=>none)=some (r,ob')->sw P k a (thenS (swD P k (EndQ rs (RetL k λr0 ob0=>r0=r/\ob0=ob')) (KDef P k rs λr0 ob0=>r0=r/\ob0=ob') b) (EndQ rs (RetL k λr0 ob0=>r0=r/\ob0=ob'))) s:=λh=>by
   split at h
   ·rename_i s' o;refine ZB (g _ _ _ _ o) λex s1 hr=>?_;simp only[Prod.mk.injEq] at hr;obtain⟨rfl,rfl⟩:=hr;exact t _ h
   ·rename_i s' o;refine ZB (g _ _ _ _ o) λex s1 hr=>?_;simp only[Prod.mk.injEq] at hr;obtain⟨rfl,rfl⟩:=hr;exact Zds h
   ·cases h
  cases a with
  |spec I =>
   cases I with
   |dfr ops x =>
    simp only[Zb4] at h;split at h
    ·rename_i s1 p;refine Z0v (P:=P) (fn:=noFn) (cl:=noCl) (λ_ _ _ h=>by cases h) (λ_ _ _ _ _ h=>by cases h) p ?_;split at h
     ·rename_i v fa E l;split at h
      ·rename_i e B o;split at h
       ·rename_i m;split at h
        ·rename_i y;split at h
         ·rename_i ob1 hr;obtain⟨u,A⟩: ∃ u,tab.T v=some u:=by
           unfold Zgl at hr;split at hr
           ·grind
           ·cases hr
          have z:=(j.T v u.1 u.2.1 u.2.2 A).2;refine⟨v,fa,E,max k (max s1.top (D.top (s1.get x))),l,z,by omega,by omega,by omega,?_⟩;refine ZB (g _ _ _ _ o) λex L q=>?_;simp only[Prod.mk.injEq] at q;obtain⟨rfl,rfl⟩:=q;have F:DQ P k (max k (max s1.top (D.top (s1.get x)))) rs (s1.get x) (λr0 ob0=>r0=r/\ob0=ob') .returning B:=by
           refine⟨_,λC ob0=>C=.returning/\ob0=ob1,max (max k (max s1.top (D.top (s1.get x)))) B.top,Zo y,λi hi=>ZA i hi,by omega,by omega,?_,?_⟩
           ·have:=Z8a Z3 j g hr;rw[l] at this ⊢;exact this
           ·rintro C ob0 ⟨rfl,rfl⟩;exact⟨rfl,Zds h⟩
          cases e<;>first|exact F|cases m
         ·cases h
        ·cases h
       ·cases h
      ·cases h
     ·cases h
    ·cases h
   |frg ts=>exact t _ h
   |rng _ _ _=>exact d h
   |nxt _ _ _=>exact d h
   |rcv _ _=>exact d h
   |pan _=>exact d h
   |ord _ _=>exact d h
  |_=>exact d h
 |_=>intro s h;cases h
theorem Z4i [CodesOf P] (Z3:DrawSound P) (i:tab.OK P) {n:Nat}
  (j: ∀ bs c s out,go P tab n bs [.sc c] s=some out->sw P bs c (λex s1=>∃ m,m<n/\Z3H P tab m bs [] ex s1 out) s) :
  ∀ d u ob r ob',Z4j tab (go P tab n) d u ob=some (r,ob')->CallL P d u ob λr0 ob0=>r0=r/\ob0=ob':=by
 have o: ∀ {m bs:Nat} {s:St} {out:Exit × St},go P tab m bs [] s=some out->out=(.normal,s):=λ{m bs s out} h=>by
  cases m with
  |zero=>cases h
  |succ m=>rw[Zdl] at h;simp only[Z1L,Option.some.injEq] at h;exact h.symm
 have g: ∀ {m bs:Nat} {ex:Exit} {s:St} {out:Exit × St},Z3H P tab m bs [] ex s out->out=(ex,s):=λ{m bs ex s out} h=>by
  cases ex<;>simp only[Z3H,Z15] at h
  ·exact o h
  ·exact h
  ·exact h
 intro d u ob r ob' h;unfold Z4j at h;split at h
 ·rename_i f first caps
  split at h
  ·rename_i x B;cases h;obtain⟨hp,hc⟩:=i.C f _ ob r ob' B;exact hc.split hp
  ·split at h
   ·rename_i N sc rs C;obtain⟨hf,hp⟩:=i.T f N sc rs C;split at h
    ·rename_i k;split at h
     ·exact CallL.fnD Z3 hf hp (Obs.top ob) (Nat.le_refl _) k (Z8b Z3 i (λbs c s out y=>ZB (j _ _ _ _ y) λex s1 ⟨m,_,hr⟩=>g hr) _ _ h)
     split at h
     ·rename_i e s y;split at h
      ·rename_i l;split at h
       ·rename_i ds v;simp only[Option.some.injEq,Prod.mk.injEq] at h;obtain⟨rfl,rfl⟩:=h;refine CallL.fn Z3 hf hp (Obs.top ob) (Nat.le_refl _) k (ZB (j _ _ _ _ y) λex s1 ⟨m,_,hr⟩=>?_)
        have:=g hr;simp only[Prod.mk.injEq] at this;obtain⟨rfl,rfl⟩:=this;cases e<;>first|exact⟨ds,v,rfl,rfl⟩|cases l
       ·cases h
      ·cases h
     ·cases h
    ·cases h
   ·cases h
 ·rename_i G;split at h
  ·rename_i ps a b N keys ds q;split at h
   ·rename_i hc;split at h
    ·rename_i s1 z;split at h
     ·rename_i e I A;split at h
      ·rename_i pend p;split at h
       ·rename_i E;simp only[Option.some.injEq,Prod.mk.injEq] at h;obtain⟨rfl,rfl⟩:=h;refine CallL.yld Z3 (Obs.top ob) (Nat.le_refl _) q hc.1 (λt F=>by simpa using List.all_eq_true.1 hc.2 t F) (ZB (j _ _ _ _ z) λex s ⟨m,_,hr⟩=>?_)
        have:=g hr;simp only[Prod.mk.injEq] at this;obtain⟨rfl,rfl⟩:=this;refine ZB (j _ _ _ _ A) λex s ⟨m,_,hr⟩=>?_
        have:=g hr;simp only[Prod.mk.injEq] at this;obtain⟨rfl,rfl⟩:=this;refine⟨by simpa using E,?_⟩;cases e<;>simp only[Z3J,Option.some.injEq,reduceCtorEq] at p<;>(subst p;exact⟨rfl,rfl⟩)
       ·cases h
      ·cases h
     ·cases h
    ·cases h
   ·cases h
  ·cases h
 ·cases h
theorem Z6T {g:GoF} (a:tab.OK P) (l: ∀ f,(tab.T f).isSome=true->ZC P f=true) (i: ∀ d b ob r ob',Z4j tab g d b ob=some (r,ob')->CallL P d b ob λr0 ob0=>r0=r/\ob0=ob') :
  ∀ f b r,fnE tab g f b=some r->FnOK P f b r:=by
 intro f b r h;unfold fnE at h;split at h
 ·rename_i r0 k;cases h;exact a.F _ _ _ k
 split at h
 ·rename_i r0 ob hc;have hp:ZC P f=true:=by
   unfold Z4j at hc;simp only at hc;split at hc
   ·rename_i x j;exact (a.C f _ _ x.1 x.2 j).1
   ·grind
  refine FnOK.of_call hp ((i _ _ _ _ _ hc).mono ?_);rintro m ob1 ⟨rfl,rfl⟩;unfold retE at h;split at h
  ·rename_i id;split at h
   ·rename_i sz e es hl;cases h;exact .inl ⟨id,sz,e,es,rfl,hl,rfl⟩
   ·cases h
  ·split at h
   ·rename_i c;cases h;exact .inr ⟨c,rfl⟩
   ·cases h
 ·cases h
theorem Zgj [CodesOf P] (Z3:DrawSound P) (d:tab.OK P): ∀ (n bs:Nat) (c:SC) (K:List Fr) (s:St) (out:Exit × St),go P tab n bs (.sc c::K) s=some out->sw P bs c (λex s1=>∃ m,m<n/\Z3H P tab m bs K ex s1 out) s:=by
 intro n;induction n using Nat.strongRecOn with
 |_ n o =>
  intro bs c K s out h;cases n with
  |zero=>cases h
  |succ n =>
   have e:=Z4i (n:=n) Z3 d λbs c s out h=>o n (Nat.lt_succ_self n) bs c [] s out h;have l:=Z6T (g:=go P tab n) d (λf hf=>by
    obtain⟨x,hx⟩:=Option.isSome_iff_exists.1 hf;exact (d.T f x.1 x.2.1 x.2.2 hx).2) e
   rw[Zdl] at h;cases c with
   |spec k =>
    cases k with
    |frg ts=>exact⟨n,Nat.lt_succ_self n,h⟩
    |pan ops =>
     simp only[Z1L] at h;split at h
     ·rename_i s' p;exact Z93 (Z0v l e p ⟨n,Nat.lt_succ_self n,h⟩)
     ·cases h
    |_=>cases h
   |skip=>exact⟨n,Nat.lt_succ_self n,h⟩
   |ret=>simp only[Z1L,Option.some.injEq] at h;exact⟨n,Nat.lt_succ_self n,h.symm⟩
   |exit i =>
    refine⟨n,Nat.lt_succ_self n,?_⟩;simp only[Z1L] at h;simp only[Z3H];split at h
    ·exact h
    ·simp only[Option.some.injEq] at h;exact h.symm
   |reg ops =>
    simp only[Z1L] at h;split at h
    ·rename_i s' p;exact Z0v l e p ⟨n,Nat.lt_succ_self n,h⟩
    ·cases h
   |drw pre ops =>
    simp only[Z1L] at h;split at h
    ·rename_i es s' p;split at h
     ·rename_i z;exact⟨es,s',Z53 l e p,z,n,Nat.lt_succ_self n,h⟩
     ·cases h
    ·cases h
   |seq a b =>
    show sw P bs a (thenS (sw P bs b _) _) s;refine ZB (o n (Nat.lt_succ_self n) bs a _ s out h) λex s1 ⟨m,hm,hr⟩=>?_;cases ex<;>simp only[thenS]
    ·exact ZB (o m (by omega) bs b K s1 out hr) λex C ⟨m',B,u⟩=>⟨m',by omega,u⟩
    ·exact⟨m,by omega,hr⟩
    ·exact hr.elim
    ·exact⟨m,by omega,hr⟩
    all_goals exact hr.elim
   |cond x a b =>
    simp only[Z1L] at h;simp only[sw];split at h
    ·rename_i t hx;rw[hx];simp only;cases t
     ·rw[if_neg (by simp)];exact ZB (o n (Nat.lt_succ_self n) bs b K s out h) λex s1 ⟨m,hm,hr⟩=>⟨m,by omega,hr⟩
     ·rw[if_pos rfl];exact ZB (o n (Nat.lt_succ_self n) bs a K s out h) λex s1 ⟨m,hm,hr⟩=>⟨m,by omega,hr⟩
    ·cases h
   |block id c =>
    show sw P bs c (QB id _) s;refine ZB (o n (Nat.lt_succ_self n) bs c _ s out h) λex s1 ⟨m,hm,hr⟩=>?_;cases ex<;>simp only[QB]
    ·cases m with
     |zero=>cases hr
     |succ m=>exact⟨m,by omega,hr⟩
    ·rename_i i;simp only[Z3H,Z15] at hr;split
     ·rename_i hi;rw[if_pos hi] at hr;exact⟨m,by omega,hr⟩
     ·rename_i hi;rw[if_neg hi] at hr;exact⟨m,by omega,hr⟩
    ·exact hr.elim
    ·exact⟨m,by omega,hr⟩
    all_goals exact hr.elim
   |loop ts c =>
    refine⟨ts,λk s'=>k<=n/\go P tab k bs (.sc c:: .sc (.loop ts c)::K) s'=some out,⟨n,Nat.le_refl _,h⟩,λk s' hk=>?_⟩;refine ZB (o k (by omega) bs c _ s' out hk.2) λex s1 ⟨m,hm,hr⟩=>?_;cases ex<;>simp only[thenS]
    ·cases m with
     |zero=>cases hr
     |succ m=>exact⟨m,by omega,by omega,hr⟩
    ·exact⟨m,by omega,hr⟩
    ·exact hr.elim
    ·exact⟨m,by omega,hr⟩
    all_goals exact hr.elim
   |rangeF N g ps a b =>
    simp only[Z1L] at h;split at h
    ·rename_i f fa y A;split at h
     ·rename_i hc;split at h
      ·rename_i r ob' j;split at h
       ·cases h
       rename_i q;split at h
       ·rename_i st pend _ _ _ _ _ _ hl;split at h
        ·cases h
        ·rename_i v;obtain⟨x,hx⟩:=Option.isSome_iff_exists.1 hc.2;refine⟨_,_,Zo hc.1,λi hi=>ZA (s:=⟨s.tm,rngS P s (s.nx bs) N ps a b⟩) i hi,⟨f,fa,y,A,(d.T f x.1 x.2.1 x.2.2 hx).2⟩,e _ _ _ _ _ j,?_⟩;rintro r0 ob0 ⟨rfl,rfl⟩;refine .inr ⟨by simpa using q,st,pend,_,_,_,_,_,_,hl,v,?_⟩;split at h
         ·exact⟨n,Nat.lt_succ_self n,h⟩
         ·simp only[Option.some.injEq] at h;exact⟨n,Nat.lt_succ_self n,h.symm⟩
         ·refine⟨n,Nat.lt_succ_self n,?_⟩;simp only[Z3H];split at h
          ·exact h
          ·simp only[Option.some.injEq] at h;exact h.symm
         ·cases h
       ·cases h
      ·cases h
     ·cases h
    ·cases h
theorem Za3 [CodesOf P] (Z3:DrawSound P) (b:tab.OK P) (n:Nat) {d:D} {a:List D} {ob:Obs} {r:D} {ob':Obs} (h:Z4j tab (go P tab n) d a ob=some (r,ob')):CallL P d a ob λr0 ob0=>r0=r/\ob0=ob':=by grind [Z4i,Zgj]
theorem Z41 [CodesOf P] (Z3:DrawSound P) (a:tab.OK P) (n:Nat) {f:FuncId} {b:List D} {r:D} (h:fnE tab (go P tab n) f b=some r):FnOK P f b r :=
 Z6T a (λf hf=>by
    obtain⟨x,hx⟩:=Option.isSome_iff_exists.1 hf;exact (a.T f x.1 x.2.1 x.2.2 hx).2) (λ_ _ _ _ _ h=>Za3 Z3 a n h) f b r h
end
end Go.Sx
namespace Go.Sx
open Go.RowKit
variable [Globs] [Codes]
variable {P:Program} {f:FuncId}
/- CONTRACTS OF LIBRARY FUNCTIONS,TURNED INTO THIS LAYER's. -/
theorem FnOK.quiet {args:List D} {r:D} (hr: ∀ sz e es,r≠ .own sz e es)
  (hc: ∀ (φ:Mem) (h:Nat->Value) (w:World) (vs:Array Value),GlobC φ w (λ_=>False)->Sub φ w->RVL φ h vs.toList args →
   Calls P f vs w λe w'=>∃ v,e=.returned v/\(∀ h',RV φ h' v r)/\Below w.heap.size w w'):FnOK P f args r:=by
 intro φ h w vs n g a hsz c;have l:RVL φ h vs.toList args:=ZG _ _ (by simpa using hsz) λj d s=>by have:=c j d s;simpa [Array.getD_eq_getD_getElem?,List.getD] using this
 refine (hc φ h w vs g a l).mono ?_;rintro e w' ⟨v,rfl,k,m⟩;refine⟨v,φ,rfl,?_,m,λ_ _ _ h=>h,λb o u q=>?_,λb o u h1 h2=>by rw[h1] at h2;cases h2⟩
 ·cases r with
  |own sz e es=>exact absurd rfl (hr sz e es)
  |_=>exact k
 ·have i:b<w.heap.size:=Sub.lt (w:=w) a q
  have:=m.cell (p:=⟨b,o,none⟩) i;rw[this];exact a b o u q
theorem vs1 {φ:Mem} {h:Nat->Value} {vs:Array Value} {a:D} (hv:RVL φ h vs.toList [a]): ∃ v,vs=#[v]/\RV φ h v a:=by
 match hl:vs.toList,hv with
 |[v],hv=>exact⟨v,by rw[<- hl],hv.1⟩
 |[],hv=>exact hv.elim
 |_::_::_,hv=>exact hv.2.elim
theorem vs2 {φ:Mem} {h:Nat->Value} {vs:Array Value} {a b:D} (hv:RVL φ h vs.toList [a,b]): ∃ u v,vs=#[u,v]/\RV φ h u a/\RV φ h v b:=by
 match hl:vs.toList,hv with
 |[u,v],hv=>exact⟨u,v,by rw[<- hl],hv.1,hv.2.1⟩
 |[],hv=>exact hv.elim
 |[_],hv=>exact hv.2.elim
 |_::_::_::_,hv=>exact hv.2.2.elim
theorem FnOK.contains {g:Nat} (c:Globs.I g=true) (H: ∀ (s sub:ByteArray) (m:Int) (w:World),s.size<4294967281->w.cell? ⟨g,0,none⟩=some (.int .i64 m)->Calls P f #[.string s,.string sub] w λe w'=>e=.returned (.bool (Lib.contains s.data.toList sub.data.toList))/\w'=w)
  (s sub:List UInt8) (hs:s.length<4294967281):FnOK P f [.str s,.str sub] (.bool (Lib.contains s sub)):=by
 refine FnOK.quiet (by intros;simp) fun φ h w vs a b hv=>?_;obtain⟨u,v,rfl,d,hv⟩:=vs2 hv;rw[d.str_inv,hv.str_inv];obtain⟨⟨arr,ty,fr,m,h1,h2⟩,_⟩:=a.i g c;refine (H ⟨s.toArray⟩ ⟨sub.toArray⟩ m w (by simpa [ByteArray.size] using hs) (by simp[World.cell?,h1,h2])).mono ?_;rintro e w' ⟨rfl,rfl⟩;exact⟨_,rfl,λh'=>.pure (.bool _),Below.refl _ _⟩
theorem FnOK.strcmp (H: ∀ (a b:ByteArray) (w:World),Calls P f #[.string a,.string b] w λe w'=>e=.returned (.int .i64 (Lib.compareBytes a.data.toList b.data.toList))/\w'=w) (a b:List UInt8) :
  FnOK P f [.str a,.str b] (.int .i64 (Lib.compareBytes a b)):=by
 refine FnOK.quiet (by intros;simp) fun φ h w vs d c hv=>?_;obtain⟨u,v,rfl,g,hv⟩:=vs2 hv;rw[g.str_inv,hv.str_inv];refine (H ⟨a.toArray⟩ ⟨b.toArray⟩ w).mono ?_;rintro e w' ⟨rfl,rfl⟩;exact⟨_,rfl,λh'=>.pure (.int _ _),Below.refl _ _⟩
end Go.Sx
namespace Go.Sx
open Go.RowKit Go.Deep
/- WHAT COMES IN: a value that a row's reading goes through,as plain data. -/
inductive Sh where
 |bool
 |int (k:IntKind)
 |str
 |slice (e:List Sh)
mutual
def Sh.fit (B:Nat):Sh->D->Prop
 |.bool,d=>∃ b,d=.bool b
 |.int k,d=>∃ n,d=.int k n/\(Lit.int k n).wf=true
 |.str,d=>∃ s,d=.str s/\s.length<=B
 |.slice l,d=>∃ es,d=.slice es []/\es.length<=B/\ ∀ e,e∈es->Sh.fits B l e
def Sh.fits (B:Nat):List Sh->List D->Prop
 |[],ds=>ds=[]
 |s::r,ds=>∃ d t,ds=d::t/\Sh.fit B s d/\Sh.fits B r t
end
def memW (w:World):Mem:=λb o=>w.cell? ⟨b,o,none⟩
def CRp (φ:Mem) (cs:List Value) (ds:List D):Prop:=cs.length=ds.length/\ ∀ (j:Nat) (v:Value) (d:D),cs[j]? = some v->ds[j]? = some d->Rep φ v d
theorem CRp.append {φ:Mem} {a b:List Value} {d e:List D} (h:CRp φ a d) (k:CRp φ b e):CRp φ (a++b) (d++e):=by
 refine⟨by simp[h.1,k.1],λj v x hv hx=>?_⟩;rcases Nat.lt_or_ge j a.length with c|c
 ·rw[List.getElem?_append_left c] at hv;rw[List.getElem?_append_left (by rw[<- h.1];exact c)] at hx;exact h.2 j v x hv hx
 ·rw[List.getElem?_append_right c] at hv;rw[List.getElem?_append_right (by rw[<- h.1];exact c),<- h.1] at hx;exact k.2 _ v x hv hx
theorem addP (b off n:Nat):Addr.add ⟨b,off,none⟩ n=⟨b,off+n,none⟩:=by unfold Addr.add;grind
def Plain (v:Value):Prop:=∀ a n c,v=.slice (some a) n c->a.spot=none
variable {H:Type} {enc:TypeId × Value->H} {P:Program} {w:World}
def wOK (B:Nat) (l:List Nat):Prop:=∀ x∈l,x<=B
end Go.Sx
/- From a law's walk to its contract,for any parameters that are read. -/
namespace Go.Sx
open Go.RowKit Go.ChangeShapes Go.WideShapes
theorem ZaR {H:Type} {enc:TypeId × Value->H} {P:Program} {f:Func} {s:ChangeSpec} {c fresh d:Bool} {W W':World} {args:Array Value} {v:Value} {ds i:List (DataW H)} {a pa pv:List MemPlace}
  (l:DataW.Whole enc P f.params.toList s.vars c W args.toList ds i a)
  (j: ∀ (b:Nat) (sp:Nat->Bool) (n:Bool),DataW.TrodAll enc P W' b sp n f.resultTypes.toList (v.resultList f.resultTypes.size) (s.fn H (ds++i)).results [])
  (e:DataW.TrodAll enc P W' 0 (λb=>decide (b<W.heap.size)) true f.params.toList args.toList (s.fn H (ds++i)).args pa)
  (g:DataW.TrodVars enc P W' (λb=>decide (b<W.heap.size)) s.vars (s.fn H (ds++i)).vars pv)
  (k:a=pa++pv) (m:Below W.heap.size W W'):s.post enc P f c fresh d false W args v W':=by
 refine⟨ds,i,a,[],pa,pv,l,j _ _ _,e,g,World.keptBut_mono (λp hp=>⟨hp,?_⟩) (m.frame (· ∈ a)),λh=>by cases h⟩;rw[k,List.mem_append] at hp;exact Or.inr hp
variable {P:Program}
variable {H:Type} {enc:TypeId × Value->H} {w:World}
variable [Globs] [Codes]
end Go.Sx
namespace Go.Sx
variable {P:Program}
def intC (k:IntKind) (l:List Int):List (List D):=l.map λn=>[D.int k n]
theorem Zhi {n:Int} (h:(Lit.int .i64 n).wf=true): -9223372036854775808<=n/\n<=9223372036854775807:=by
 simp only[Lit.wf,Bool.and_eq_true,decide_eq_true_eq] at h;have a:IntKind.i64.min= -9223372036854775808:=rfl;have b:IntKind.i64.max=9223372036854775807:=rfl;omega
theorem Z68 {n:Int} (h:(Lit.int .u8 n).wf=true):0<=n/\n<=255:=by
 simp only[Lit.wf,Bool.and_eq_true,decide_eq_true_eq] at h;have a:IntKind.u8.min=0:=rfl;have b:IntKind.u8.max=255:=rfl;omega
end Go.Sx
/- TERMS: A TYPE THAT RECURS,AS PLAIN DATA. -/
namespace Go.Sx
open Go.RowKit Go.Deep Go.ChangeShapes Go.WideShapes
inductive Tm where
 |mk (k:Nat) (n:Int) (s:List UInt8) (l:List Tm)
 deriving Inhabited
mutual
def Tm.cells:Tm->List D
 |.mk k n s l=>[.int .u8 (k:Int),.int .i64 n,.str s,.slice (Tm.cellsL l) []]
def Tm.cellsL:List Tm->List (List D)
 |[]=>[]
 |a::r=>a.cells::Tm.cellsL r
end
mutual
def Tm.wf (B:Nat):Tm->Prop
 |.mk k n s l=>k<=255/\ -9223372036854775808<=n/\n<=9223372036854775807/\s.length<=B/\l.length<=B/\Tm.wfL B l
def Tm.wfL (B:Nat):List Tm->Prop
 |[]=>True
 |a::r=>a.wf B/\Tm.wfL B r
end
theorem Zn: ∀ l:List Tm,Tm.cellsL l=l.map Tm.cells:=by intro l;induction l<;>grind [Tm.cellsL]
theorem Z5 (l:List Tm):(Tm.cellsL l).length=l.length:=by rw[Zn];simp
theorem Qq (t:Tm):t.cells.length=4:=by cases t;rfl
theorem Qe {B:Nat}: ∀ {l:List Tm},Tm.wfL B l ↔ ∀ t∈l,t.wf B
 |[]=>by simp[Tm.wfL]
 |a::r=>by simp[Tm.wfL,Qe (l:=r)]
def Zdb (P:Program) (T:TypeId):Bool:=match P.underlying T with
 |some (.struct fs)=>match fs.toList with
  |[f0,f1,f2,f3]=>f0.offset == 0 && f1.offset == 1 && f2.offset == 2 && f3.offset == 3 && P.cellsOf f0.type == 1 && P.cellsOf f1.type == 1 && P.cellsOf f2.type == 1 && P.cellsOf f3.type == 1 && P.cellsOf T == 4 && decide (0<P.bytesOf T) &&
   (match P.underlying f0.type,P.underlying f1.type,P.underlying f2.type,P.underlying f3.type with
    |some (.int .u8),some (.int .i64),some .string,some (.slice e)=>e == T
    |_,_,_,_=>false)
  |_=>false
 |_=>false
structure IsTm (P:Program) (T:TypeId) (fs:Array Field) (f0 f1 f2 f3:Field):Prop where
 u:P.underlying T=some (.struct fs)
 l:fs.toList=[f0,f1,f2,f3]
 o0:f0.offset=0
 o1:f1.offset=1
 o2:f2.offset=2
 o3:f3.offset=3
 c0:P.cellsOf f0.type=1
 c1:P.cellsOf f1.type=1
 c2:P.cellsOf f2.type=1
 c3:P.cellsOf f3.type=1
 c:P.cellsOf T=4
 b:0<P.bytesOf T
 u0:P.underlying f0.type=some (.int .u8)
 u1:P.underlying f1.type=some (.int .i64)
 u2:P.underlying f2.type=some .string
 u3:P.underlying f3.type=some (.slice T)
theorem Z84 {P:Program} {T:TypeId} (h:Zdb P T=true): ∃ fs f0 f1 f2 f3,IsTm P T fs f0 f1 f2 f3:=by
 unfold Zdb at h;split at h
 ·rename_i fs q;split at h
  ·rename_i f0 f1 f2 f3 hl;simp only[Bool.and_eq_true,beq_iff_eq,decide_eq_true_eq] at h;obtain⟨⟨⟨⟨⟨⟨⟨⟨⟨⟨h1,h2⟩,j⟩,k⟩,l⟩,m⟩,n⟩,o⟩,p⟩,b⟩,a⟩:=h;split at a
   ·rename_i e c d g i;have:e=T:=by simpa using a
    subst this;exact⟨fs,f0,f1,f2,f3,q,hl,h1,h2,j,k,l,m,n,o,p,b,c,d,g,i⟩
   ·cases a
  ·cases h
 ·cases h
variable {H:Type} {enc:TypeId × Value->H} {P:Program} {w:World}
theorem ZbI {B:Nat}: ∀ {es:List (List D)},(∀ q∈es,∃ t:Tm,t.wf B/\q=t.cells)-> ∃ l:List Tm,es=Tm.cellsL l/\Tm.wfL B l
 |[],_=>⟨[],rfl,trivial⟩
 |e::r,h=>by
  obtain⟨t,h1,rfl⟩:=h e (List.mem_cons_self ..);obtain⟨l,rfl,h2⟩:=ZbI (es:=r) λx hx=>h x (List.mem_cons_of_mem _ hx);exact⟨t::l,rfl,h1,h2⟩
theorem len4 {α:Type} {l:List α} (h:l.length=4): ∃ a b c d,l=[a,b,c,d]:=by
 match l,h with
 |[a,b,c,d],_=>exact⟨a,b,c,d,rfl⟩
def FitQ:List (TypeId × (D->Prop))->List D->Prop
 |[],[]=>True
 |q::qs,a::l=>q.2 a/\FitQ qs l
 |_,_=>False
section
variable [Globs] [Codes]
end
theorem Zdo {q:TypeId × (D->Prop)} {qs:List (TypeId × (D->Prop))} {l:List D} (h:FitQ (q::qs) l): ∃ a r,l=a::r/\q.2 a/\FitQ qs r:=by cases l<;>grind [D,FitQ]
theorem ZqF {l:List D} (h:FitQ [] l):l=[]:=by grind [D,FitQ]
end Go.Sx
namespace Go.Sx
open Go.RowKit
variable [Globs] [Codes]
/- THE WALK BY TREES: all ways through a text at once,up to the heads of loops;calls by contracts. -/
inductive RT where
 |ok (p:Prop) (r:D) (ob:Obs)
 |br (b:Bool) (x y:RT)
def RT.says (C:D->Obs->Prop):RT->Prop
 |.ok p r ob=>p->C r ob
 |.br b x y=>match b with
  |true=>x.says C
  |false=>y.says C
structure Ctr where
 F:Nat->FuncId->List D->Option RT:=λ_ _ _=>none
 C:Nat->D->List D->Obs->Option RT:=λ_ _ _ _=>none
 E:Nat->Int->List D:=λ_ _=>[]
structure Ctr.OK (tb:Ctr) (P:Program):Prop where
 F: ∀ t f az rt,tb.F t f az=some rt->rt.says λr _=>FnOK P f az r
 C: ∀ t d az ob rt,tb.C t d az ob=some rt->rt.says λr ob'=>CallL P d az ob λr0 ob0=>r0=r/\ob0=ob'
inductive Tr where
 |ret (r:D) (ob:Obs)
 |jmp (K:List Fr) (s:St)
 |owe (p:Prop) (x:Tr)
 |bad
def brT (b:Bool) (x y:Tr):Tr:=match b with
 |true=>x
 |false=>y
def Tr.ok (R:D->Obs->Prop) (J:List Fr->St->Prop):Tr->Prop
 |.ret r ob=>R r ob
 |.jmp K s=>J K s
 |.owe p x=>p/\x.ok R J
 |.bad=>False
section
variable {R:D->Obs->Prop} {J:List Fr->St->Prop}
theorem Z7 {r:D} {ob:Obs}:(Tr.ret r ob).ok R J=R r ob:=rfl
theorem Z6 {K:List Fr} {s:St}:(Tr.jmp K s).ok R J=J K s:=rfl
theorem Z4 {p:Prop} {x:Tr}:(Tr.owe p x).ok R J=(p/\x.ok R J):=rfl
theorem Zs {b:Bool} {x y:Tr}:(brT b x y).ok R J=((b=true->x.ok R J)/\(b=false->y.ok R J)):=by
 cases b<;>simp[brT]
theorem ZL {x y:Tr}:(brT true x y)=x:=rfl
theorem Zx {x y:Tr}:(brT false x y)=y:=rfl
end
theorem SS:(∀ {R:D->Obs->Prop} {J:List Fr->St->Prop} {b:Bool} {x y:Tr},(brT b x y).ok R J=((b=true->x.ok R J)/\(b=false->y.ok R J))) ∧
  (∀ {R:D->Obs->Prop} {J:List Fr->St->Prop} {p:Prop} {x:Tr},(Tr.owe p x).ok R J=(p/\x.ok R J)) ∧
  (∀ {R:D->Obs->Prop} {J:List Fr->St->Prop} {r:D} {ob:Obs},(Tr.ret r ob).ok R J=R r ob) ∧
  (∀ {R:D->Obs->Prop} {J:List Fr->St->Prop} {K:List Fr} {s:St},(Tr.jmp K s).ok R J=J K s) ∧
  (∀ {p:Prop} [Decidable p],(decide p=true)=p)/\(∀ {p:Prop} [Decidable p],decide p=false ↔ ¬ p)/\(∀ n:Nat,(n:Int).toNat=n) ∧
  (∀ p:Prop,(True/\p)=p)/\(∀ p:Prop,(p/\True)=p)/\(∀ b:Bool,((!b)=true)=(b=false))/\(∀ b:Bool,((!b)=false)=(b=true)) ∧
  (∀ {α:Type} {l:List α},l.drop 0=l)/\(∀ {α:Type} {l:List α},l.take l.length=l) ∧
  (∀ {a b:Bool},(D.bool a=D.bool b)=(a=b))/\(∀ {k l:IntKind} {a b:Int},(D.int k a=D.int l b)=(k=l/\a=b))/\(∀ {a b:List UInt8},(D.str a=D.str b)=(a=b)) ∧
  (∀ p:Prop,(True->p)=p)/\(∀ a:Int,a<=a) :=
 ⟨Zs,Z4,Z7,Z6,decide_eq_true_eq,decide_eq_false_iff_not,Int.toNat_natCast,true_and,and_true,Bool.not_eq_true',Bool.not_eq_false',List.drop_zero,List.take_length,by simp only[D.bool.injEq,implies_true],by simp only[D.int.injEq,implies_true],by simp only[D.str.injEq,implies_true],λp=>true_implies p,Int.le_refl⟩
def Ze (sz:Nat) (es:List (List D)):Prop:=∀ q∈es,q.length=sz
theorem Z56 (sz:Nat):Ze sz []:=λq a=>by cases a
theorem Z4r {sz:Nat} {e:List D} {es:List (List D)}:Ze sz (e::es) ↔ e.length=sz/\Ze sz es:=by simp[Ze]
theorem Zbp {α:Type} {sz:Nat} {f:α->List D} (hf: ∀ a,(f a).length=sz) (l:List α):Ze sz (l.map f):=by grind [D,Ze]
def arT (k:IntKind) (n:Int) (K:D->Tr):Tr:=match k with
 |.i64=>.owe (-9223372036854775808<=n/\n<=9223372036854775807) (K (.int .i64 n))
 |k=>K (.int k (k.wrap n))
def oneT (d:Option D) (K:D->Tr):Tr:=match d with
 |some d=>K d
 |none=>.bad
def binT (op:BinOp) (k:IntKind) (a b:Int) (K:D->Tr):Tr:=match op with
 |.add=>arT k (a+b) K
 |.sub=>arT k (a-b) K
 |.mul=>arT k (a*b) K
 |.quo=>.owe (b≠0) (arT k (a.tdiv b) K)
 |.rem=>.owe (b≠0) (K (.int k (a.tmod b)))
 |op=>oneT (ZgV op k a b) K
def ZgS (op:BinOp) (a b:List UInt8) (K:D->Tr):Tr:=match op with
 |.add=>.owe (a.length+b.length<=4611686018427387904) (K (.str (a++b)))
 |op=>oneT (ZgT op a b) K
def iaT (c:List D) (sz:Nat) (es:List (List D)) (n:Int) (K:D->Tr):Tr:=match c with
 |[]=>.owe (0<=n/\n<es.length/\(es.getD n.toNat []).length=sz) (K (.fptr (es.getD n.toNat [])))
 |c::cs=>if (c::cs).length=sz then .owe (0<=n/\es[n.toNat]? = some (c::cs)) (K (.fptr (c::cs))) else .bad
def rtT:RT->(D->Obs->Tr)->Tr
 |.ok p r ob,K=>.owe p (K r ob)
 |.br b x y,K=>brT b (rtT x K) (rtT y K)
def mfT (key:D):List D->List D->(Option D->Tr)->Tr
 |[],[],K=>K none
 |k::ks,d::ds,K=>match keqD key k with
  |some b=>brT b (K (some d)) (mfT key ks ds K)
  |none=>.bad
 |_,_,_=>.bad
def evT (tb:Ctr) (t dst:Nat) (o:AOp) (xs:List D) (obs:Nat->Option Ob) (K:D->Option Ob->Tr):Tr :=
 match o,xs with
 |.pick,[.bool c,a,b]=>brT c (K a none) (K b none)
 |.bin op,[.int k a,.int l b]=>if k=l then binT op k a b (λd=>K d none) else .bad
 |.bin op,[.str a,.str b]=>ZgS op a b (λd=>K d none)
 |.un .neg,[.int k a]=>arT k (0-a) (λd=>K d none)
 |.conv k,[.int _ n]=>arT k n (λd=>K d none)
 |.iaddr sz,[.slice es _,.int _ n]=>iaT (tb.E t n) sz es n (λd=>K d none)
 |.iaddr sz,[.vec id,.int _ n]=>match obs id with
  |some (.arr true _ _ es)=>iaT (tb.E t n) sz es n (λd=>K d none)
  |some (.arr false g _ es)=>if g=sz then .owe (0<=n/\n<es.length) (K (.vptr id n.toNat 0 sz) none) else .bad
  |_=>.bad
 |.index,[.str s,.int _ n]=>.owe (0<=n/\n<s.length) (K (.int .u8 (s.getD n.toNat 0).toNat) none)
 |.sliceS lo hi,.str s::bs=>match Z0i lo hi s.length bs with
  |some (a,b)=>.owe (0<=a/\a<=b/\b<=s.length) (K (.str ((s.take b.toNat).drop a.toNat)) none)
  |none=>.bad
 |.slice sz lo hi,d::bs=>match Z03 obs d with
  |some (es,ext)=>match Z0i lo hi es.length bs with
   |some (a,b)=>.owe (Ze sz (es++ext)/\0<=a/\a<=b/\b<=(es++ext).length) (match tb.E t 0 with
    |[.slice A X]=>.owe (((es++ext).take b.toNat).drop a.toNat=A/\(es++ext).drop b.toNat=X) (K (.slice A X) none)
    |_=>K (.slice (((es++ext).take b.toNat).drop a.toNat) ((es++ext).drop b.toNat)) none)
   |none=>.bad
  |none=>(match d,bs with
   |.vec id,[.int _ n]=>(match lo,hi with
    |true,false=>(match obs id with
     |some (.arr false g _ es)=>if g=sz then .owe (es≠[]/\0<=n/\n<=es.length) (K (.vwin id n.toNat sz) none) else .bad
     |_=>.bad)
    |_,_=>.bad)
   |_,_=>.bad)
 |.call f,ds=>match tb.F t f (ds.map (dv obs)) with
  |some rt=>rtT rt λr _=>K (ZgN dst r).1 (ZgN dst r).2
  |none=>.bad
 |.iaddrA len sz,[.fptr cs,.int _ n]=>.owe (0<=n/\n<len) (K (.fptr (cs.drop (n.toNat*sz))) none)
 |.iaddrA len sz,[.ptr id off,.int _ n]=>.owe (0<=n/\n<len) (K (.ptr id (off+n.toNat*sz)) none)
 |.sh left,[.int k a,.int _ b]=>.owe (0<=b) (K (.int k (shI left k a b)) none)
 |.b2s,[d]=>match Z2H obs d with
  |some es=>.owe (es=byC (Qv es)) (K (.str (Qv es)) none)
  |none=>.bad
 |.mks fz sz e z bt,[.int _ n]=>if z.all D.pur=true then .owe (0<=n/\n*bt<=281474976710656/\n<=1073741824) (K (.vec dst) (some (.arr fz sz e (List.replicate n.toNat z)))) else .bad
 |.mlook kd z,[.map id,key]=>match obs id with
  |some (.gen (.map ks) ds)=>if isKD kd key=true then mfT key ks ds (λr=>K (r.getD z) none) else .bad
  |_=>.bad
 |.load agg sz,[.vptr id i j g]=>match tb.E t (i:Int) with
  |[]=>(match evE (λ_ _=>none) dst (.load agg sz) [.vptr id i j g] obs with
   |some (d,nb)=>K d nb
   |none=>.bad)
  |c::cs=>match obs id with
   |some (.arr false h _ es)=>if h=g/\j+sz<=g then .owe (es[i]? = some (c::cs)) (match agg with
    |true=>K (.agg (((c::cs).drop j).take sz)) none
    |false=>oneT ((c::cs)[j]?) λd=>K d none) else .bad
   |_=>.bad
 |.ext (.eqs3 m),xs=>(match extD (.eqs3 m) xs obs with
  |some d=>K d none
  |none=>.bad)
 |.ext k,xs=>match tb.E t 0 with
  |d::_=>.owe (extD k xs obs=some d) (K d none)
  |[]=>(match extD k xs obs with
   |some d=>K d none
   |none=>.bad)
 |.mm big,.int k a::ds=>match mmI big k a ds with
  |some r=>(match tb.E t 0 with
   |[.int .i64 q]=>.owe (k=.i64/\r=q) (K (.int .i64 q) none)
   |_=>K (.int k r) none)
  |none=>.bad
 |o,xs=>match evE (λ_ _=>none) dst o xs obs with
  |some (d,nb)=>K d nb
  |none=>.bad
theorem Zfd {n:Int} (h: -9223372036854775808<=n/\n<=9223372036854775807):IntKind.i64.wrap n=n:=by
 rw[IntKind.wrap_i64];omega
section
variable {R:D->Obs->Prop} {J:List Fr->St->Prop} {P:Program}
theorem Z4q {k:IntKind} {n:Int} {K:D->Tr} (h:(arT k n K).ok R J):(K (.int k (k.wrap n))).ok R J:=by
 unfold arT at h;split at h
 ·rw[Zfd h.1];exact h.2
 ·exact h
theorem Z7P {d:Option D} {K:D->Tr} (h:(oneT d K).ok R J): ∃ r,d=some r/\(K r).ok R J:=by
 cases d with
 |none=>exact h.elim
 |some d=>exact⟨d,rfl,h⟩
theorem ZlP {op:BinOp} {k:IntKind} {a b:Int} {K:D->Tr} (h:(binT op k a b K).ok R J):binI op k a b λd=>(K d).ok R J:=by
 unfold binT at h;split at h
 ·exact Z4q h
 ·exact Z4q h
 ·exact Z4q h
 ·exact⟨h.1,Z4q h.2⟩
 ·exact⟨h.1,h.2⟩
 ·grind [Z4q,Z7P,Z4m,binT]
theorem ZgR {op:BinOp} {a b:List UInt8} {K:D->Tr} (h:(ZgS op a b K).ok R J):binS op a b λd=>(K d).ok R J:=by
 unfold ZgS at h;split at h
 ·exact⟨h.1,h.2⟩
 ·grind [Z7P,Z4l,ZgS]
theorem ZhM {c:List D} {sz:Nat} {es:List (List D)} {n:Int} {K:D->Tr} (h:(iaT c sz es n K).ok R J):0<=n/\n<es.length/\(es.getD n.toNat []).length=sz/\(K (.fptr (es.getD n.toNat []))).ok R J:=by
 unfold iaT at h;split at h
 ·exact⟨h.1.1,h.1.2.1,h.1.2.2,h.2⟩
 ·rename_i c cs;split at h
  ·rename_i hsz;obtain⟨⟨h0,h1⟩,h2⟩:=h;have b:=(List.getElem?_eq_some_iff.1 h1).1;have a:es.getD n.toNat []=c::cs:=by simp[List.getD,h1]
   rw[a];exact⟨h0,by omega,hsz,h2⟩
  ·exact h.elim
theorem Z2Z {C:D->Obs->Prop} {K:D->Obs->Tr}: ∀ {rt:RT},rt.says C->(rtT rt K).ok R J-> ∃ r ob,C r ob/\(K r ob).ok R J
 |.ok p r ob,hs,h=>⟨r,ob,hs h.1,h.2⟩
 |.br b x y,hs,h=>by
  cases b
  ·exact Z2Z (rt:=y) hs h
  ·exact Z2Z (rt:=x) hs h
theorem Z7b {b:Bool} {x y:Tr} (h:(brT b x y).ok R J):(b=true/\x.ok R J)\/(b=false/\y.ok R J):=by cases b<;>grind [Tr,brT]
theorem ZhI {key:D}: ∀ {ks ds:List D} {K:Option D->Tr},(mfT key ks ds K).ok R J-> ∃ r,Z2K key ks ds=some r/\(K r).ok R J
 |[],[],K,h=>⟨none,rfl,h⟩
 |[],_::_,K,h=>h.elim
 |_::_,[],K,h=>h.elim
 |k::ks,d::ds,K,h=>by
  simp only[mfT] at h;simp only[Z2K];cases a:keqD key k with
  |none=>rw[a] at h;exact h.elim
  |some b =>
   rw[a] at h;rcases Z7b h with⟨rfl,h⟩|⟨rfl,h⟩
   ·exact⟨some d,rfl,h⟩
   ·exact ZhI h
theorem ZhU {tb:Ctr} (e:tb.OK P) {t dst:Nat} {op:AOp} {xs:List D} {obs:Nat->Option Ob} {K:D->Option Ob->Tr} (h:(evT tb t dst op xs obs K).ok R J):evl P dst op xs obs λd nb=>(K d nb).ok R J:=by
 unfold evT at h;split at h
 case h_1=> 
  rcases Z7b h with⟨rfl,h⟩|⟨rfl,h⟩
  ·exact h
  ·exact h
 case h_2 =>
  split at h
  ·rename_i hk;exact⟨hk,ZlP h⟩
  ·exact h.elim
 case h_3=>exact ZgR h
 case h_4=>exact Z4q h
 case h_5=>exact Z4q h
 case h_6=>exact ZhM h
 case h_7 =>
  simp only[evl];split at h
  ·rename_i heq;rw[heq];exact ZhM h
  ·rename_i heq;rw[heq];split at h
   ·rename_i hs;exact⟨hs,h.1.1,h.1.2,h.2⟩
   ·exact h.elim
  ·exact h.elim
 case h_8=>exact⟨h.1.1,h.1.2,h.2⟩
 case h_9 =>
  simp only[evl];split at h
  ·rename_i heq;simp only[heq];exact⟨h.1.1,h.1.2.1,h.1.2.2,h.2⟩
  ·exact h.elim
 case h_10 =>
  simp only[evl];split at h
  ·rename_i heq;rw[heq];simp only;split at h
   ·rename_i a;simp only[a];have h2:=h.2;refine⟨h.1.1,h.1.2.1,h.1.2.2.1,h.1.2.2.2,?_⟩;split at h2
    ·rw[h2.1.1,h2.1.2];exact h2.2
    ·exact h2
   ·exact h.elim
  ·rename_i heq;rw[heq];simp only;split at h
   ·split at h
    ·split at h
     ·rename_i a;simp only[a];split at h
      ·rename_i hc;exact⟨hc,h.1.1,h.1.2.1,h.1.2.2,h.2⟩
      ·exact h.elim
     ·exact h.elim
    ·exact h.elim
   ·exact h.elim
 case h_11 =>
  split at h
  ·rename_i rt b;obtain⟨r,ob,hf,hk⟩:=Z2Z (e.F _ _ _ _ b) h;refine⟨r,hf,?_⟩;cases r<;>exact hk
  ·exact h.elim
 case h_12=>exact⟨h.1.1,h.1.2,h.2⟩
 case h_13=>exact⟨h.1.1,h.1.2,h.2⟩
 case h_14=>exact⟨h.1,h.2⟩
 case h_15 =>
  simp only[evl];split at h
  ·rename_i heq;simp only[heq];exact⟨h.1,h.2⟩
  ·exact h.elim
 case h_16 =>
  split at h
  ·rename_i hp;exact⟨hp,h.1.1,h.1.2.1,h.1.2.2,h.2⟩
  ·exact h.elim
 case h_17 =>
  simp only[evl];split at h
  ·rename_i heq;rw[heq];split at h
   ·rename_i hc;obtain⟨r,hr,hk⟩:=ZhI h;simp only[hr];exact⟨hc,hk⟩
   ·exact h.elim
  ·exact h.elim
 case h_18 =>
  split at h
  ·split at h
   ·rename_i heq;exact Z0y (fn:=λ_ _=>none) (P:=P) (λ_ _ _ h=>by cases h) heq h
   ·exact h.elim
  ·rename_i c cs _;simp only[evl];split at h
   ·rename_i heq;rw[heq];split at h
    ·rename_i hc;refine⟨hc.1,hc.2,?_⟩;rw[h.1];have h2:=h.2;split at h2
     ·exact h2
     ·obtain⟨d,g,hk⟩:=Z7P h2;simp only[Bool.false_eq_true,if_false,g];exact hk
    ·exact h.elim
   ·exact h.elim
 case h_19 =>
  split at h
  ·rename_i heq;show evl P dst (.ext _) _ obs _;unfold evl;simp only[heq];exact h
  ·exact h.elim
 case h_20 =>
  split at h
  ·rename_i d _ _;show evl P dst (.ext _) _ obs _;unfold evl;simp only[h.1];exact h.2
  ·unfold evl;split at h
   ·grind
   ·exact h.elim
 case h_21 =>
  simp only[evl];split at h
  ·rename_i heq;simp only[heq];split at h
   ·obtain⟨⟨rfl,rfl⟩,h⟩:=h;exact h
   ·exact h
  ·exact h.elim
 case h_22 =>
  split at h
  ·rename_i heq;exact Z0y (fn:=λ_ _=>none) (P:=P) (λ_ _ _ h=>by cases h) heq h
  ·exact h.elim
end
end Go.Sx
namespace Go.Sx
open Go.RowKit
variable [Globs] [Codes]
/- AN OPERATION COMES TO ONE END. -/
section
variable {P:Program} {dst:Nat} {obs:Nat->Option Ob} {K:D->Option Ob->Prop}
theorem Zef {op:BinOp} {k:IntKind} {a b:Int} {K:D->Prop} (h:binI op k a b K): ∃ d,K d/\ ∀ K':D->Prop,K' d->binI op k a b K':=by cases op<;>grind [binI]
theorem Zee {op:BinOp} {a b:List UInt8} {K:D->Prop} (h:binS op a b K): ∃ d,K d/\ ∀ K':D->Prop,K' d->binS op a b K':=by cases op<;>grind [binS]
theorem ZgY {d:D} (h:evl P dst .b2s [d] obs K): ∃ a nb,K a nb/\ ∀ K':D->Option Ob->Prop,K' a nb->evl P dst .b2s [d] obs K':=by grind [evl,Z2H]
theorem Zfi {agg:Bool} {sz id i j a:Nat} (h:evl P dst (.load agg sz) [.vptr id i j a] obs K): ∃ b nb,K b nb/\ ∀ K':D->Option Ob->Prop,K' b nb->evl P dst (.load agg sz) [.vptr id i j a] obs K':=by
 simp only[evl] at h ⊢;cases c:obs id with
 |none=>rw[c] at h;exact h.elim
 |some o =>
  rw[c] at h;cases o with
  |cells _=>exact h.elim
  |gen _ _=>exact h.elim
  |arr fz d e es =>
   cases fz with
   |true=>exact h.elim
   |false =>
    grind
theorem ZaV {kd:Option IntKind} {z key:D} {id:Nat} (h:evl P dst (.mlook kd z) [.map id,key] obs K): ∃ a nb,K a nb/\ ∀ K':D->Option Ob->Prop,K' a nb->evl P dst (.mlook kd z) [.map id,key] obs K':=by
 simp only[evl] at h ⊢;cases b:obs id with
 |none=>rw[b] at h;exact h.elim
 |some o =>
  grind
theorem Z9U {op:AOp} {xs:List D} (h:evl P dst op xs obs K): ∃ d nb,K d nb/\ ∀ K':D->Option Ob->Prop,K' d nb->evl P dst op xs obs K':=by
 by_cases k:op=.b2s/\ ∃ d,xs=[d]
 ·obtain⟨rfl,d,rfl⟩:=k;exact ZgY h
 by_cases hl:(∃ a s,op=.load a s)/\ ∃ a b c d,xs=[.vptr a b c d]
 ·obtain⟨⟨_,_,rfl⟩,_,_,_,_,rfl⟩:=hl;exact Zfi h
 by_cases g:(∃ a s,op=.mlook a s)/\ ∃ a b,xs=[.map a,b]
 ·obtain⟨⟨_,_,rfl⟩,_,_,rfl⟩:=g;exact ZaV h
 unfold evl at h;split at h;all_goals try exact absurd ⟨rfl,_,rfl⟩ k
 all_goals try exact absurd ⟨⟨_,_,rfl⟩,_,_,_,_,rfl⟩ hl
 all_goals try exact absurd ⟨⟨_,_,rfl⟩,_,_,rfl⟩ g
 all_goals clear k hl g
 all_goals try simp only[evl]
 all_goals first
  |exact h.elim
  |(obtain⟨d,hk,i⟩:=Zef h.2;exact⟨d,none,hk,λK' e=>⟨h.1,i _ e⟩⟩)
  |(obtain⟨d,hk,i⟩:=Zee h;exact⟨d,none,hk,λK' e=>i _ e⟩)
  |exact⟨_,_,h,λK' hk=>hk⟩
  |exact⟨_,_,h.2,λK' hk=>⟨h.1,hk⟩⟩
  |exact⟨_,_,h.2.2,λK' hk=>⟨h.1,h.2.1,hk⟩⟩
  |exact⟨_,_,h.2.2.2,λK' hk=>⟨h.1,h.2.1,h.2.2.1,hk⟩⟩
  |skip
 all_goals first
  |(obtain⟨r,hr,e⟩:=h;cases r<;>exact⟨_,_,e,λK' hk=>⟨_,hr,hk⟩⟩)
  |skip
 all_goals
  repeat' split at h
 all_goals first
  |exact h.elim
  |exact⟨_,_,h,λK' hk=>by simp only[*];exact hk⟩
  |exact⟨_,_,h,λK' hk=>by simp[*]⟩
  |exact⟨_,_,h.2,λK' hk=>by simp only[*];exact⟨h.1,hk⟩⟩
  |exact⟨_,_,h.2,λK' hk=>by simp only[*];exact⟨trivial,hk⟩⟩
  |exact⟨_,_,h.2.2,λK' hk=>by simp only[*];exact⟨h.1,h.2.1,hk⟩⟩
  |exact⟨_,_,h.2.2.2,λK' hk=>by simp only[*];exact⟨h.1,h.2.1,h.2.2.1,hk⟩⟩
  |exact⟨_,_,h.2.2.2.2,λK' hk=>by simp only[*];exact⟨h.1,h.2.1,h.2.2.1,h.2.2.2.1,hk⟩⟩
  |skip
 all_goals first
  |exact⟨_,_,h.2,λK' hk=>⟨h.1,hk⟩⟩
  |exact⟨_,_,h.2.2.2,λK' hk=>⟨h.1,h.2.1,h.2.2.1,hk⟩⟩
  |exact⟨_,_,h.2.2.2.2,λK' hk=>⟨h.1,h.2.1,h.2.2.1,h.2.2.2.1,hk⟩⟩
  |(rename_i j;subst j;exact⟨_,_,h.2,λK' hk=>⟨h.1,hk⟩⟩)
end
def repl (t:Nat) (d:D):Env->Env
 |[]=>[]
 |(j,x)::r=>if t=j then (j,d)::r else (j,x)::repl t d r
theorem Z14 {t:Nat} {d:D}: ∀ {l:Env},lk l t=some d->repl t d l=l
 |[],h=>by cases h
 |(j,x)::r,h=>by
  simp only[lk] at h;simp only[repl];split at h
  ·rename_i a;cases h;rw[if_pos a]
  ·rename_i a;rw[if_neg a,Z14 h]
def gudT (g:Option (Nat × Bool)) (s:St) (body skip:St->Tr):Tr:=match g with
 |none=>body s
 |some (t,a)=>match lk s.tm t with
  |some (.bool b)=>match a with
   |true=>brT b (body ⟨repl t (.bool true) s.tm,s.ob⟩) (skip ⟨repl t (.bool false) s.tm,s.ob⟩)
   |false=>brT b (skip ⟨repl t (.bool true) s.tm,s.ob⟩) (body ⟨repl t (.bool false) s.tm,s.ob⟩)
  |some (.tuple [])=>skip s
  |_=>.bad
section
variable {R:D->Obs->Prop} {J:List Fr->St->Prop} {P:Program}
theorem Z0n {g:Option (Nat × Bool)} {s:St} {body skip:St->Tr} (h:(gudT g s body skip).ok R J):((body s).ok R J/\ ∀ p q:Prop,p->gud g s p q)\/((skip s).ok R J/\ ∀ p q:Prop,q->gud g s p q):=by
 cases g with
 |none=>exact .inl ⟨h,λp q hp=>hp⟩
 |some a =>
  obtain⟨t,w⟩:=a;simp only[gudT] at h;simp only[gud];split at h
  ·rename_i b heq;rw[heq];split at h
   ·rcases Z7b h with⟨rfl,h⟩|⟨rfl,h⟩
    ·rw[Z14 heq] at h;exact .inl ⟨h,λp q hp=>by simpa using hp⟩
    ·rw[Z14 heq] at h;exact .inr ⟨h,λp q hp=>by simpa using hp⟩
   ·rcases Z7b h with⟨rfl,h⟩|⟨rfl,h⟩
    ·rw[Z14 heq] at h;exact .inr ⟨h,λp q hp=>by simpa using hp⟩
    ·rw[Z14 heq] at h;exact .inl ⟨h,λp q hp=>by simpa using hp⟩
  ·grind
  ·exact h.elim
end
def stT0 (sz:SK) (x y:D) (obs:Nat->Option Ob) (K:Nat->Ob->Tr):Tr:=match stO sz x y obs with
 |some (a,b,id,o)=>match x with
  |.ptr .. =>K id o
  |.map .. =>K id o
  |_=>.owe (a<b) (K id o)
 |none=>.bad
theorem ZiT {sz:SK} {a b id i off:Nat} {y:D} {o:Ob} {obs:Nat->Option Ob} (h:stO sz (.ptr i off) y obs=some (a,b,id,o)):a<b:=by grind [stO,SK,D,Ob]
theorem ZiU {sz:SK} {a b id i:Nat} {y:D} {o:Ob} {obs:Nat->Option Ob} (h:stO sz (.map i) y obs=some (a,b,id,o)):a<b:=by grind [stO,SK,D,Ob]
theorem Zc1 {sz:SK} {x y:D} {obs:Nat->Option Ob} {K:Nat->Ob->Tr} {R:D->Obs->Prop} {J:List Fr->St->Prop} (h:(stT0 sz x y obs K).ok R J): ∃ a b id o,stO sz x y obs=some (a,b,id,o)/\a<b/\(K id o).ok R J:=by
 unfold stT0 at h;split at h
 ·rename_i a b id o c;split at h
  ·exact⟨_,_,id,o,c,ZiT c,h⟩
  ·exact⟨_,_,id,o,c,ZiU c,h⟩
  ·exact⟨_,_,id,o,c,h.1,h.2⟩
 ·exact h.elim
def xN:X->Nat
 |.t n=>n
 |.c _=>0
def stT (tb:Ctr) (n:Nat) (sz:SK) (x y:D) (obs:Nat->Option Ob) (K:Nat->Ob->Tr):Tr:=match tb.E n (-1) with
 |[.agg b,.agg a]=>(match x with
  |.map id=>match sz with
   |.m key=>match obs id with
    |some (.gen (.map ks) ds)=>.owe (mput key y ks ds=some (b,a)) (K id (.gen (.map b) a))
    |some (.gen (.mapC ks cs) [])=>if Z1H y=true then .owe (mput key y ks cs=some (b,a)) (K id (.gen (.mapC b a) [])) else .bad
    |_=>.bad
   |_=>.bad
  |_=>stT0 sz x y obs K)
 |_=>stT0 sz x y obs K
theorem Zhp {tb:Ctr} {n:Nat} {sz:SK} {x y:D} {obs:Nat->Option Ob} {K:Nat->Ob->Tr} {R:D->Obs->Prop} {J:List Fr->St->Prop} (h:(stT tb n sz x y obs K).ok R J): ∃ a b id o,stO sz x y obs=some (a,b,id,o)/\a<b/\(K id o).ok R J:=by
 unfold stT at h;split at h
 ·split at h
  ·split at h
   ·split at h
    ·rename_i heq;refine⟨0,1,_,_,?_,by decide,h.2⟩;simp only[stO,heq,h.1]
    ·rename_i heq;split at h
     ·rename_i hv;refine⟨0,1,_,_,?_,by decide,h.2⟩;simp only[stO,heq,if_pos hv,h.1]
     ·exact h.elim
    ·exact h.elim
   ·exact h.elim
  ·exact Zc1 h
 ·exact Zc1 h
def panT (r:D) (Kp:Value->Tr) (K:Tr):Tr:=match r with
 |.pan v=>Kp v
 |_=>K
theorem Z3K {R:D->Obs->Prop} {J:List Fr->St->Prop} {r:D} {Kp:Value->Tr} {K:Tr} (h:(panT r Kp K).ok R J):(r.isPan=false/\K.ok R J)\/ ∃ v,r=.pan v/\(Kp v).ok R J:=by
 cases r<;>first|exact .inl ⟨rfl,h⟩|exact .inr ⟨_,rfl,h⟩
def opT (tb:Ctr) (b:Nat) (o:SOp) (s:St) (K:St->Tr):Tr :=
 match o with
 |.a dst g op xs=>gudT g s (λs=>evT tb (dst.getD 0) (b+dst.getD 0) op (xs.map s.get) (lk s.ob) λd nb=>match nb with
   |none=>K (s.put dst d)
   |some ob=>match dst with
    |some t=>if s.clean (b+t)=true then K (s.put2 t (b+t) d ob) else .bad
    |none=>.bad) (λs=>K (s.put dst .nov))
 |.st g sz x y=>gudT g s (λs=>stT tb (xN x) (sz.at s) (s.get x) (s.get y) (lk s.ob) λid o=>K {s with ob:=(id,o)::Z8 id s.ob}) (λs=>K s)
 |.app dst g fz sz a x y=>gudT g s (λs=>match Z4u (lk s.ob) (s.get y) with
   |some (ys,_)=>(match s.get x with
    |.nils=>if s.clean (b+dst)=true then .owe (Ze sz ys/\ys.length<=1073741824) (K (s.put2 dst (b+dst) (.vec (b+dst)) (.arr fz sz a ys))) else .bad
    |.vec id=>match lk s.ob id with
     |some (.arr c e i es)=>if e=sz/\i=a/\s.clean (b+dst)=true then .owe (Ze sz ys/\es.length+ys.length<=1073741824) (K (St.put2 ⟨s.tm,Z8 id s.ob⟩ dst (b+dst) (.vec (b+dst)) (.arr c sz a (es++ys)))) else .bad
     |_=>.bad
    |_=>.bad)
   |none=>.bad) (λs=>K (s.put (some dst) .nov))
 |.cd dst g x xs=>gudT g s
   (λs =>
     let h:=xs.map λy=>dva (s.get x) (lk s.ob) (s.get y);let nm:=Z1K s (s.get x::h)
     if Z0w nm=true then (match tb.C (dst.getD 0) ((s.get x).ren (idx · nm)) (h.map (D.ren (idx · nm))) (ZT s.ob (idx · nm) 0 nm) with
      |some rt=>rtT rt λr ob'=>panT r (λ_=>.bad) (K ((s.back (s.base b) nm ob').put dst (r.ren (bkN (s.base b) nm))))
      |none=>.bad) else .bad)
   (λs=>K (s.put dst .nov))
section
variable {R:D->Obs->Prop} {J:List Fr->St->Prop} {P:Program}
theorem ZhC {tb:Ctr} (k:tb.OK P) {b:Nat} {o:SOp} {s:St} {K:St->Tr} (h:(opT tb b o s K).ok R J): ∃ s',(∀ K':St->Prop,K' s'->stp P b o s K')/\(K s').ok R J:=by
 cases o with
 |a dst g op xs =>
  simp only[opT] at h;rcases Z0n h with⟨h,e⟩|⟨h,e⟩
  ·obtain⟨d,nb,hk,u⟩:=Z9U (ZhU k h);cases nb with
   |none=>exact⟨s.put dst d,λK' c=>e _ _ (u _ c),hk⟩
   |some ob =>
    cases dst with
    |none=>exact hk.elim
    |some t =>
     simp only at hk;split at hk
     ·rename_i hc;exact⟨_,λK' c=>e _ _ (u _ ⟨hc,c⟩),hk⟩
     ·exact hk.elim
  ·exact⟨_,λK' c=>e _ _ c,h⟩
 |st g sz x y =>
  simp only[opT] at h;rcases Z0n h with⟨h,e⟩|⟨h,e⟩
  ·obtain⟨C,E,id,ob,q,l,h⟩:=Zhp h;exact⟨_,λK' c=>e _ _ (by simp only[q];exact⟨l,c⟩),h⟩
  ·exact⟨_,λK' c=>e _ _ c,h⟩
 |app dst g fz sz G x y =>
  simp only[opT] at h;rcases Z0n h with⟨h,e⟩|⟨h,e⟩
  ·split at h
   ·rename_i ys ext j;split at h
    ·rename_i hx;split at h
     ·rename_i hc;exact⟨_,λK' c=>e _ _ (by simp only[hx,j];exact⟨h.1.1,h.1.2,hc,c⟩),h.2⟩
     ·exact h.elim
    ·rename_i id hx;split at h
     ·rename_i v B F es hl;split at h
      ·rename_i hc;exact⟨_,λK' c=>e _ _ (by simp only[hx,j,hl];exact⟨h.1.1,hc.1,hc.2.1,h.1.2,hc.2.2,c⟩),h.2⟩
      ·exact h.elim
     ·exact h.elim
    ·exact h.elim
   ·exact h.elim
  ·exact⟨_,λK' c=>e _ _ c,h⟩
 |cd dst g x xs =>
  simp only[opT] at h;rcases Z0n h with⟨h,e⟩|⟨h,e⟩
  ·split at h
   ·rename_i m;split at h
    ·rename_i rt p;obtain⟨r,ob',hc,hk⟩:=Z2Z (k.C _ _ _ _ _ p) h;have z:b+4096<=s.base b:=Nat.le_max_left ..;have A:s.top<=s.base b:=Nat.le_max_right ..;rcases Z3K hk with⟨n,hk⟩|⟨_,_,hk⟩
     ·exact⟨_,λK' c=>e _ _ ⟨_,_,s.base b,Zo m,λi hi=>ZA i hi,z,A,hc,λr0 ob0 hr=>by rw[hr.1,hr.2];exact⟨n,c⟩⟩,hk⟩
     ·exact hk.elim
    ·exact h.elim
   ·exact h.elim
  ·exact⟨_,λK' c=>e _ _ c,h⟩
end
def opsT (tb:Ctr) (b:Nat):List SOp->St->(St->Tr)->Tr
 |[],s,K=>K s
 |o::l,s,K=>opT tb b o s λs=>opsT tb b l s K
def hasT (tb:Ctr) (b:Nat) (o:SOp) (s:St) (K:St->Eff->Tr):Tr :=
 match o with
 |.a dst g op xs=>gudT g s (λs=>evT tb (dst.getD 0) (b+dst.getD 0) op (xs.map s.get) (lk s.ob) λd nb=>match nb with
   |none=>K s ⟨rdA (lk s.ob) op (xs.map s.get),dst.map (·,d),[],none⟩
   |some ob=>if dst.isSome then K s ⟨rdA (lk s.ob) op (xs.map s.get),dst.map (·,d),[(b+dst.getD 0,some ob)],none⟩ else .bad) (λs=>K s ⟨[],dst.map (·,.nov),[],none⟩)
 |.st g sz x y=>gudT g s (λs=>stT tb (xN x) (sz.at s) (s.get x) (s.get y) (lk s.ob) λid o=>K s ⟨[id],none,[(id,some o)],none⟩) (λs=>K s ⟨[],none,[],none⟩)
 |.app dst g fz sz a x y=>gudT g s (λs=>match Z4u (lk s.ob) (s.get y) with
   |some (ys,_)=>(match s.get x with
    |.nils=>.owe (Ze sz ys/\ys.length<=1073741824) (K s ⟨vids [s.get y],some (dst,.vec (b+dst)),[(b+dst,some (.arr fz sz a ys))],none⟩)
    |.vec id=>match lk s.ob id with
     |some (.arr c e k es)=>if e=sz/\k=a then .owe (Ze sz ys/\es.length+ys.length<=1073741824) (K s ⟨id::vids [s.get y],some (dst,.vec (b+dst)),[(b+dst,some (.arr c sz a (es++ys))),(id,none)],none⟩) else .bad
     |_=>.bad
    |_=>.bad)
   |none=>.bad) (λs=>K s ⟨[],some (dst,.nov),[],none⟩)
 |.cd dst g x xs=>gudT g s
   (λs =>
     let h:=xs.map λy=>dva (s.get x) (lk s.ob) (s.get y);let nm:=Z1K s (s.get x::h)
     if Z0w nm=true then (match tb.C (dst.getD 0) ((s.get x).ren (idx · nm)) (h.map (D.ren (idx · nm))) (ZT s.ob (idx · nm) 0 nm) with
      |some rt=>rtT rt λr ob'=>panT r (λ_=>.bad) (K s ⟨nm++vids (xs.map s.get),dst.map (·,r.ren (bkN (s.base b) nm)),(renO (λj=>match nm[j]? with|some i=>i|none=>s.base b+j) (bkN (s.base b) nm) ob').map (λp=>(p.1,some p.2))++nm.map (·,none),some (s.base b)⟩)
      |none=>.bad) else .bad)
   (λs=>K s ⟨[],dst.map (·,.nov),[],none⟩)
def caT (tb:Ctr) (b:Nat):List SOp->St->(List Eff->St->Tr)->Tr
 |[],s,K=>K [] s
 |o::l,s,K=>hasT tb b o s λs e=>caT tb b l (s.app e) λes s=>K (e::es) s
section
variable {R:D->Obs->Prop} {J:List Fr->St->Prop} {P:Program}
theorem Z2J {tb:Ctr} (a:tb.OK P) {b:Nat} {K:St->Tr}: ∀ {ops:List SOp} {s:St},(opsT tb b ops s K).ok R J-> ∃ s',(∀ K':St->Prop,K' s'->stps P b ops s K')/\(K s').ok R J
 |[],s,h=>⟨s,λK' hk=>hk,h⟩
 |o::l,s,h=>by
  obtain⟨s1,h1,c⟩:=ZhC a h;obtain⟨e,h2,d⟩:=Z2J a c;exact⟨e,λK' hk=>h1 _ (h2 _ hk),d⟩
theorem Z88 {tb:Ctr} (k:tb.OK P) {b:Nat} {o:SOp} {s:St} {K:St->Eff->Tr} (h:(hasT tb b o s K).ok R J): ∃ e,Has P b o s e/\(K s e).ok R J:=by
 cases o with
 |a dst g op xs =>
  simp only[hasT] at h;rcases Z0n h with⟨h,c⟩|⟨h,c⟩
  ·obtain⟨d,nb,hk,t⟩:=Z9U (ZhU k h);cases nb with
   |none=>exact⟨_,c _ _ ⟨rfl,rfl,t _ ⟨rfl,rfl⟩⟩,hk⟩
   |some ob =>
    simp only at hk;split at hk
    ·rename_i hc;exact⟨_,c _ _ ⟨rfl,rfl,t _ ⟨rfl,hc,rfl⟩⟩,hk⟩
    ·exact hk.elim
  ·exact⟨_,c _ _ rfl,h⟩
 |st g sz x y =>
  simp only[hasT] at h;rcases Z0n h with⟨h,c⟩|⟨h,c⟩
  ·obtain⟨A,B,id,ob,q,l,h⟩:=Zhp h;exact⟨_,c _ _ (by simp only[HasB,q];exact⟨l,trivial⟩),h⟩
  ·exact⟨_,c _ _ rfl,h⟩
 |app dst g fz sz E x y =>
  simp only[hasT] at h;rcases Z0n h with⟨h,c⟩|⟨h,c⟩
  ·split at h
   ·rename_i ys ext j;split at h
    ·rename_i hx;exact⟨_,c _ _ (by simp only[HasB,hx,j];exact⟨h.1.1,h.1.2,trivial⟩),h.2⟩
    ·rename_i id hx;split at h
     ·rename_i u z C es hl;split at h
      ·rename_i hc;exact⟨_,c _ _ (by simp only[HasB,hx,j,hl];exact⟨h.1.1,hc.1,hc.2,h.1.2,trivial⟩),h.2⟩
      ·exact h.elim
     ·exact h.elim
    ·exact h.elim
   ·exact h.elim
  ·exact⟨_,c _ _ rfl,h⟩
 |cd dst g x xs =>
  simp only[hasT] at h;rcases Z0n h with⟨h,c⟩|⟨h,c⟩
  ·split at h
   ·rename_i m;split at h
    ·rename_i rt p;obtain⟨r,ob',hc,hk⟩:=Z2Z (k.C _ _ _ _ _ p) h;have v:b+4096<=s.base b:=Nat.le_max_left ..;rcases Z3K hk with⟨n,hk⟩|⟨_,_,hk⟩
     ·exact⟨_,c _ _ ⟨_,r,ob',s.base b,Zo m,λi hi=>ZA i hi,v,hc,n,rfl⟩,hk⟩
     ·exact hk.elim
    ·exact h.elim
   ·exact h.elim
  ·exact⟨_,c _ _ rfl,h⟩
theorem Z7a {tb:Ctr} (a:tb.OK P) {b:Nat}: ∀ {ops:List SOp} {s:St} {K:List Eff->St->Tr},(caT tb b ops s K).ok R J-> ∃ es s',Z7m P b ops s es s'/\(K es s').ok R J
 |[],s,K,h=>⟨[],s,rfl,h⟩
 |o::l,s,K,h=>by
  obtain⟨e,h1,c⟩:=Z88 a h;obtain⟨es,g,h2,d⟩:=Z7a a c;exact⟨e::es,g,⟨h1,h2⟩,d⟩
end
def opXT (tb:Ctr) (b:Nat) (o:SOp) (s:St) (K:St->Tr) (Kp:Value->St->Tr):Tr :=
 match o with
 |.cd dst g x xs=>gudT g s
   (λs =>
     let a:=xs.map λy=>dva (s.get x) (lk s.ob) (s.get y);let nm:=Z1K s (s.get x::a)
     if Z0w nm=true then (match tb.C (dst.getD 0) ((s.get x).ren (idx · nm)) (a.map (D.ren (idx · nm))) (ZT s.ob (idx · nm) 0 nm) with
      |some rt=>rtT rt λr ob'=>panT r (λv=>Kp v (s.back (s.base b) nm ob')) (K ((s.back (s.base b) nm ob').put dst (r.ren (bkN (s.base b) nm))))
      |none=>.bad) else .bad)
   (λs=>K (s.put dst .nov))
 |.a none g .pnk [x]=>gudT g s (λs=>match s.get x with
   |.raw v=>(match v with
    |.iface t u=>Kp (.iface t u) s
    |_=>.bad)
   |_=>.bad) (λs=>K s)
 |o=>opT tb b o s K
def ZkA (tb:Ctr) (b:Nat):List SOp->St->(St->Tr)->(Value->St->Tr)->Tr
 |[],s,K,_=>K s
 |o::l,s,K,Kp=>opXT tb b o s (λs=>ZkA tb b l s K Kp) Kp
section
variable {R:D->Obs->Prop} {J:List Fr->St->Prop} {P:Program}
theorem ZkD {tb:Ctr} (m:tb.OK P) {b:Nat} {o:SOp} {s:St} {K:St->Tr} {Kp:Value->St->Tr} (h:(opXT tb b o s K Kp).ok R J) :
  (∃ s',(∀ (Kn:St->Prop) (Kq:Value->St->Prop),Kn s'->stpX P b o s Kn Kq)/\(K s').ok R J)\/ ∃ v s',(∀ (Kn:St->Prop) (Kq:Value->St->Prop),Kq v s'->stpX P b o s Kn Kq)/\(Kp v s').ok R J:=by
 have j:(opT tb b o s K).ok R J-> ∃ s',(∀ (Kn:St->Prop) (Kq:Value->St->Prop),Kn s'->stpX P b o s Kn Kq)/\(K s').ok R J:=λh=>by
  obtain⟨s',h1,h2⟩:=ZhC m h;exact⟨s',λKn Kq hk=>ZbX (h1 Kn hk),h2⟩
 cases o with
 |st g sz x y=>exact .inl (j h)
 |app dst g fz sz e x y=>exact .inl (j h)
 |cd dst g x xs =>
  simp only[opXT] at h;rcases Z0n h with⟨h,k⟩|⟨h,k⟩
  ·split at h
   ·rename_i l;split at h
    ·rename_i rt p;obtain⟨r,ob',hc,hk⟩:=Z2Z (m.C _ _ _ _ _ p) h;have q:b+4096<=s.base b:=Nat.le_max_left ..;have A:s.top<=s.base b:=Nat.le_max_right ..;rcases Z3K hk with⟨n,hk⟩|⟨v,rfl,hk⟩
     ·exact .inl ⟨_,λK' Kq c=>k _ _ ⟨_,_,s.base b,Zo l,λi hi=>ZA i hi,q,A,hc,λr0 ob0 hr=>.inl (by rw[hr.1,hr.2];exact⟨n,c⟩)⟩,hk⟩
     ·exact .inr ⟨v,_,λK' Kq c=>k _ _ ⟨_,_,s.base b,Zo l,λi hi=>ZA i hi,q,A,hc,λr0 ob0 hr=>.inr ⟨v,hr.1,by rw[hr.2];exact c⟩⟩,hk⟩
    ·exact h.elim
   ·exact h.elim
  ·exact .inl ⟨_,λK' Kq c=>k _ _ c,h⟩
 |a dst g op xs =>
  by_cases z:dst=none/\op=.pnk/\ ∃ x,xs=[x]
  ·obtain⟨rfl,rfl,x,rfl⟩:=z;simp only[opXT] at h;rcases Z0n h with⟨h,k⟩|⟨h,k⟩
   ·split at h
    ·rename_i v hv;split at h
     ·rename_i t u;exact .inr ⟨_,s,λK' Kq c=>k _ _ ⟨t,u,hv,c⟩,h⟩
     ·exact h.elim
    ·exact h.elim
   ·exact .inl ⟨s,λK' Kq c=>k _ _ c,h⟩
  ·refine .inl (j ?_);cases dst with
   |some d=>exact h
   |none=>cases op<;>first|exact h|(cases xs with
     |nil=>exact h
     |cons x r=>cases r with
      |nil=>exact absurd ⟨rfl,rfl,x,rfl⟩ z
      |cons _ _=>exact h)
theorem Z9l {tb:Ctr} (d:tb.OK P) {b:Nat} {K:St->Tr} {Kp:Value->St->Tr}: ∀ {ops:List SOp} {s:St},(ZkA tb b ops s K Kp).ok R J →
  (∃ s',(∀ (Kn:St->Prop) (Kq:Value->St->Prop),Kn s'->Z2E P b ops s Kn Kq)/\(K s').ok R J)\/ ∃ v s',(∀ (Kn:St->Prop) (Kq:Value->St->Prop),Kq v s'->Z2E P b ops s Kn Kq)/\(Kp v s').ok R J
 |[],s,h=>.inl ⟨s,λ_ _ hk=>hk,h⟩
 |o::l,s,h=>by
  rcases ZkD d h with⟨s1,h1,a⟩|⟨v,s1,h1,a⟩
  ·rcases Z9l d a with⟨e,h2,c⟩|⟨v,e,h2,c⟩
   ·exact .inl ⟨e,λKn Kq hk=>h1 _ _ (h2 _ _ hk),c⟩
   ·exact .inr ⟨v,e,λKn Kq hk=>h1 _ _ (h2 _ _ hk),c⟩
  ·exact .inr ⟨v,s1,λKn Kq hk=>h1 _ _ hk,a⟩
end
def Zb0 (tb:Ctr) (b:Nat) (o:SOp) (s:St) (K:St->Eff × Option (Nat × Nat × D)->Tr):Tr :=
 match o with
 |.a (some t) none (.load false 1) [x]=>(match s.get x with
  |.ptr id off=>(match lk s.ob id with
   |some (.cells cs)=>(match cs[off]? with
    |some (.vec m)=>K s (⟨[],some (t,.vec m),[],none⟩,some (id,off,.vec m))
    |some (.int k n)=>K s (⟨[],some (t,.int k n),[],none⟩,some (id,off,.int k n))
    |_=>hasT tb b o s λs e=>K s (e,none))
   |_=>hasT tb b o s λs e=>K s (e,none))
  |_=>hasT tb b o s λs e=>K s (e,none))
 |_=>hasT tb b o s λs e=>K s (e,none)
def Zlb (tb:Ctr) (b:Nat) (o:SOp) (s:St) (K:St->Eff × Option (Nat × Nat × D)->Tr) (Kp:Value->St->Eff × Option (Nat × Nat × D)->Tr):Tr :=
 match o with
 |.cd dst none x xs =>
  let a:=xs.map λy=>dva (s.get x) (lk s.ob) (s.get y);let nm:=Z1K s (s.get x::a)
  if Z0w nm=true then (match tb.C (dst.getD 0) ((s.get x).ren (idx · nm)) (a.map (D.ren (idx · nm))) (ZT s.ob (idx · nm) 0 nm) with
   |some rt=>rtT rt λr ob'=>panT r (λv=>Kp v s (⟨nm++vids (xs.map s.get),none,[],some (s.base b)⟩,none))
     (K s (⟨nm++vids (xs.map s.get),dst.map (·,r.ren (bkN (s.base b) nm)),(renO (λj=>match nm[j]? with|some i=>i|none=>s.base b+j) (bkN (s.base b) nm) ob').map (λp=>(p.1,some p.2))++nm.map (·,none),some (s.base b)⟩,none))
   |none=>.bad) else .bad
 |_=>Zb0 tb b o s K
def caPT (tb:Ctr) (b:Nat) (pre:List Nat) (c:Nat):Nat->List SOp->St->(List (Eff × Option (Nat × Nat × D))->Tr)->Tr
 |_,[],_,K=>K []
 |k,o::r,s,K=>match Q4 pre c k with
  |true=>caPT tb b pre c (k+1) r s λqs=>K ((⟨[],none,[],none⟩,none)::qs)
  |false=>Zb0 tb b o s λs q=>caPT tb b pre c (k+1) r (s.app q.1) λqs=>K (q::qs)
def caOT (tb:Ctr) (b:Nat) (pre:List Nat):Nat->List SOp->St->(List (Eff × Option (Nat × Nat × D))->St->Tr)->(Nat->Value->List (Eff × Option (Nat × Nat × D))->Tr)->Tr
 |_,[],s,K,_=>K [] s
 |k,o::r,s,K,Kp=>Zlb tb b o s (λs q=>caOT tb b pre (k+1) r (s.app q.1) (λqs s'=>K (q::qs) s') λc v qs=>match Q4 pre c k with
   |true=>.bad
   |false=>Kp c v (q::qs)) (λv s q=>caPT tb b pre k (k+1) r (s.app q.1) λqs=>Kp k v (q::qs))
section
variable {R:D->Obs->Prop} {J:List Fr->St->Prop} {P:Program}
theorem Z9O {tb:Ctr} (c:tb.OK P) {b:Nat} {o:SOp} {s:St} {K:St->Eff × Option (Nat × Nat × D)->Tr} (h:(Zb0 tb b o s K).ok R J): ∃ q,HasC P b o s q/\(K s q).ok R J:=by
 have a:(hasT tb b o s λs e=>K s (e,none)).ok R J-> ∃ q,HasC P b o s q/\(K s q).ok R J:=λh=>by
  grind [Z88,hasT,HasC,Zb0,hx]
 unfold Zb0 at h;split at h
 ·grind [Z88,hasT,HasC,Zb0,hx]
 ·exact a h
theorem Zgi {tb:Ctr} (c:tb.OK P) {b:Nat} {o:SOp} {s:St} {K:St->Eff × Option (Nat × Nat × D)->Tr} {Kp:Value->St->Eff × Option (Nat × Nat × D)->Tr} (h:(Zlb tb b o s K Kp).ok R J) :
  (∃ q,HasC P b o s q/\(K s q).ok R J)\/ ∃ v q,HasPn P b o s v q.1/\(Kp v s q).ok R J:=by
 unfold Zlb at h;split at h
 ·rename_i dst x xs;simp only at h;split at h
  ·rename_i a;split at h
   ·rename_i rt e;obtain⟨r,ob',hc,hk⟩:=Z2Z (c.C _ _ _ _ _ e) h;have g:b+4096<=s.base b:=Nat.le_max_left ..;rcases Z3K hk with⟨d,hk⟩|⟨v,rfl,hk⟩
    ·exact .inl ⟨(_,none),(show HasB P b (.cd dst none x xs) s _ from⟨_,r,ob',s.base b,Zo a,λi hi=>ZA i hi,g,hc,d,rfl⟩),hk⟩
    ·exact .inr ⟨v,(_,none),⟨_,s.base b,Zo a,λi hi=>ZA i hi,g,hc.mono λ_ _ hr=>hr.1,rfl⟩,hk⟩
   ·exact h.elim
  ·exact h.elim
 ·exact .inl (Z9O c h)
theorem Z8u {tb:Ctr} (d:tb.OK P) {b:Nat} {pre:List Nat} {c:Nat} {v:Value}: ∀ {ops:List SOp} {k:Nat} {s:St} {K:List (Eff × Option (Nat × Nat × D))->Tr},c<k->(caPT tb b pre c k ops s K).ok R J-> ∃ qs s',Z4t P b pre (some (c,v)) k ops s qs s'/\(K qs).ok R J
 |[],k,s,K,_,h=>⟨[],s,rfl,h⟩
 |o::l,k,s,K,j,h=>by
  simp only[caPT] at h;split at h
  ·rename_i e;obtain⟨qs,i,h2,a⟩:=Z8u d (by omega) h;exact⟨(⟨[],none,[],none⟩,none)::qs,i,⟨(show if k=c then _ else if Q4 pre c k=true then _ else _ from by rw[if_neg (by omega),if_pos e]),h2⟩,a⟩
  ·rename_i e;obtain⟨q,h1,g⟩:=Z9O d h;obtain⟨qs,i,h2,a⟩:=Z8u d (by omega) g;exact⟨q::qs,i,⟨by simp only[HasO];rw[if_neg (by omega),if_neg (by simp[e])];exact h1,h2⟩,a⟩
theorem Ze9 {tb:Ctr} (e:tb.OK P) {b:Nat} {pre:List Nat}: ∀ {ops:List SOp} {k:Nat} {s:St} {K:List (Eff × Option (Nat × Nat × D))->St->Tr} {Kp:Nat->Value->List (Eff × Option (Nat × Nat × D))->Tr},(caOT tb b pre k ops s K Kp).ok R J →
  (∃ qs s',Z4t P b pre none k ops s qs s'/\(K qs s').ok R J)\/ ∃ c v qs s',k<=c/\c<k+ops.length/\Z4t P b pre (some (c,v)) k ops s qs s'/\(Kp c v qs).ok R J
 |[],k,s,K,Kp,h=>.inl ⟨[],s,rfl,h⟩
 |o::l,k,s,K,Kp,h=>by
  rcases Zgi e h with⟨q,h1,d⟩|⟨v,q,h1,d⟩
  ·rcases Ze9 e d with⟨qs,g,h2,a⟩|⟨c,v,qs,g,j,m,h2,a⟩
   ·exact .inl ⟨q::qs,g,⟨h1,h2⟩,a⟩
   ·split at a
    ·exact a.elim
    ·rename_i i;refine .inr ⟨c,v,q::qs,g,by omega,by simp only[List.length_cons];omega,⟨?_,h2⟩,a⟩;simp only[HasO];rw[if_neg (by omega),if_neg (by simp[i])];exact h1
  ·obtain⟨qs,g,h2,a⟩:=Z8u (v:=v) e (Nat.lt_succ_self k) d;exact .inr ⟨k,v,q::qs,g,Nat.le_refl _,by simp only[List.length_cons];omega,⟨(show if k=k then _ else _ from by rw[if_pos rfl];exact h1),h2⟩,a⟩
end
end Go.Sx
