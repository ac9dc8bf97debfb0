/- Own work: a layer over the kit: plain data,a walk over it,its soundness. -/
import Derived.Lib.Bytealg
import Derived.Lib.AtoiAll
import Derived.Lib.ItoaNum
import Derived.Sort.OwnSorted
import Derived.Test.YtaclfbhhekhflaaGreatDoorSx7
set_option linter.all false
namespace Go.Sx
open Go.RowKit
variable [Globs] [Codes]
def swF (P:Program):Nat->Nat->List Fr->St->(Exit->St->Prop)->Prop
 |0,_,_,_,_=>False
 |n+1,bs,K,s,Q=>match K with
  |[]=>Q .normal s
  |.blk _::K=>swF P n bs K s Q
  |.sc c::K=>match c with
   |.skip=>swF P n bs K s Q
   |.ret=>Q .ret s
   |.exit i=>match Z15 i K with
    |some K'=>swF P n bs K' s Q
    |none=>Q (.exit i) s
   |.reg ops=>stps P (s.nx bs) ops s λs'=>swF P n bs K s' Q
   |.drw pre ops=>∃ es s',Z7m P (s.nx bs) ops s es s'/\dchk (s.nx bs) pre ops es s=true/\swF P n bs K s' Q
   |.seq a b=>swF P n bs (.sc a:: .sc b::K) s Q
   |.cond x a b=>match s.get x with
    |.bool t=>swF P n bs (.sc (if t=true then a else b)::K) s Q
    |_=>False
   |.block id c=>swF P n bs (.sc c:: .blk id::K) s Q
   |.loop ts c=>swF P n bs (.sc c:: .sc (.loop ts c)::K) (s.canon bs ts) Q
   |.spec k=>spS P bs k (λe s'=>match e with
    |.normal=>swF P n bs K s' Q
    |.ret=>Q .ret s'
    |.exit i=>match Z15 i K with
     |some K'=>swF P n bs K' s' Q
     |none=>Q (.exit i) s'
    |.panic c=>Q (.panic c) s'
    |_=>False) s
   |.rangeF N g ps a b=>sw P bs (.rangeF N g ps a b) (λe s'=>match e with
    |.normal=>swF P n bs K s' Q
    |.ret=>Q .ret s'
    |.exit i=>match Z15 i K with
     |some K'=>swF P n bs K' s' Q
     |none=>Q (.exit i) s'
    |.panic c=>Q (.panic c) s'
    |_=>False) s
section
variable {P:Program}
def Zku (P:Program) (m bs:Nat) (K:List Fr) (ex:Exit) (s:St) (Q:Exit->St->Prop):Prop:=match ex with
 |.normal=>swF P m bs K s Q
 |.ret=>Q .ret s
 |.exit i=>match Z15 i K with
  |some K'=>swF P m bs K' s Q
  |none=>Q (.exit i) s
 |.panic c=>Q (.panic c) s
 |_=>False
theorem ZbR: ∀ (n bs:Nat) (c:SC) (K:List Fr) (s:St) (Q:Exit->St->Prop),swF P n bs (.sc c::K) s Q->sw P bs c (λex s1=>∃ m,m<n/\Zku P m bs K ex s1 Q) s:=by
 intro n;induction n using Nat.strongRecOn with
 |_ n d =>
  intro bs c K s Q h;cases n with
  |zero=>cases h
  |succ n =>
   cases c with
   |spec k =>
    simp only[swF] at h;exact Z1n (Q:=λe s'=>match e with
     |.normal=>swF P n bs K s' Q
     |.ret=>Q .ret s'
     |.exit i=>match Z15 i K with
      |some K'=>swF P n bs K' s' Q
      |none=>Q (.exit i) s'
     |.panic c=>Q (.panic c) s'
     |_=>False) h λex s1 hr=>⟨n,Nat.lt_succ_self n,by cases ex<;>exact hr⟩
   |skip=>exact⟨n,Nat.lt_succ_self n,h⟩
   |ret=>exact⟨n,Nat.lt_succ_self n,h⟩
   |exit i=>exact⟨n,Nat.lt_succ_self n,h⟩
   |reg ops=>exact Z02 (K:=λs'=>swF P n bs K s' Q) h λs' j=>⟨n,Nat.lt_succ_self n,j⟩
   |drw pre ops =>
    obtain⟨es,s',h1,h2,l⟩:=h;exact⟨es,s',h1,h2,n,Nat.lt_succ_self n,l⟩
   |seq a b =>
    show sw P bs a (thenS (sw P bs b _) _) s;refine ZB (d n (Nat.lt_succ_self n) bs a _ s Q h) λex s1 ⟨m,hm,hr⟩=>?_;cases ex<;>simp only[thenS]
    ·exact ZB (d m (by omega) bs b K s1 Q hr) λex p ⟨m',o,f⟩=>⟨m',by omega,f⟩
    ·exact⟨m,by omega,hr⟩
    ·exact hr.elim
    ·exact⟨m,by omega,hr⟩
    all_goals first|exact⟨m,by omega,hr⟩|exact hr.elim
   |cond x a b =>
    simp only[swF] at h;simp only[sw];split at h
    ·rename_i t hx;cases t
     ·rw[if_neg (by simp)] at h;rw[hx];simp only[Bool.false_eq_true,if_false];exact ZB (d n (Nat.lt_succ_self n) bs b K s Q h) λex s1 ⟨m,hm,hr⟩=>⟨m,by omega,hr⟩
     ·rw[if_pos rfl] at h;rw[hx];simp only[if_true];exact ZB (d n (Nat.lt_succ_self n) bs a K s Q h) λex s1 ⟨m,hm,hr⟩=>⟨m,by omega,hr⟩
    ·exact h.elim
   |block id c =>
    show sw P bs c (QB id _) s;refine ZB (d n (Nat.lt_succ_self n) bs c _ s Q h) λex s1 ⟨m,hm,hr⟩=>?_;cases ex<;>simp only[QB]
    ·cases m with
     |zero=>cases hr
     |succ m=>exact⟨m,by omega,hr⟩
    ·rename_i i;simp only[Zku,Z15] at hr;split
     ·rename_i hi;rw[if_pos hi] at hr;exact⟨m,by omega,hr⟩
     ·rename_i hi;rw[if_neg hi] at hr;exact⟨m,by omega,hr⟩
    ·exact hr.elim
    ·exact⟨m,by omega,hr⟩
    all_goals first|exact⟨m,by omega,hr⟩|exact hr.elim
   |loop ts c =>
    refine⟨ts,λk s'=>k<=n/\swF P k bs (.sc c:: .sc (.loop ts c)::K) s' Q,⟨n,Nat.le_refl _,h⟩,λk s' hk=>?_⟩;refine ZB (d k (by omega) bs c _ s' Q hk.2) λex s1 ⟨m,hm,hr⟩=>?_;cases ex<;>simp only[thenS]
    ·cases m with
     |zero=>cases hr
     |succ m=>exact⟨m,by omega,by omega,hr⟩
    ·exact⟨m,by omega,hr⟩
    ·exact hr.elim
    ·exact⟨m,by omega,hr⟩
    all_goals first|exact⟨m,by omega,hr⟩|exact hr.elim
   |rangeF N g ps a b =>
    simp only[swF] at h;exact ZB h λex s1 hr=>⟨n,Nat.lt_succ_self n,by cases ex<;>exact hr⟩
def At (P:Program) (bs:Nat) (K:List Fr) (s:St) (Q:Exit->St->Prop):Prop:=∃ n,swF P n bs K s Q
theorem CallL.reordG {P:Program} {d:D} {args:List D} {ob:Obs} {R:D->Obs->Prop} (h:CallL P d args ob (λr0 ob0=>R r0 (Z29 ob0))):CallL P d args ob R:=by
 intro F g n φ hh w v vs hp hv f;refine (h F g n φ hh w v vs hp hv f).mono ?_;rintro e w' ⟨r0,ob0,φ',h',a,k,ha⟩;have c: ∀ i,lk (Z29 ob0) i=lk ob0 i:=λi=>Z5A i ob0;exact⟨r0,Z29 ob0,φ',h',a,k,⟨⟨ha.loc.one,ha.loc.glob.sub λb ⟨i,hi,l⟩=>⟨i,by rw[<- c];exact hi,l⟩,ha.loc.mem,λi o p=>ha.loc.obj i o (by rw[<- c];exact p),λi j b hi m=>ha.loc.sep i j b (by rw[<- c];exact hi) (by rw[<- c];exact m)⟩,
  ha.ext,ha.new,ha.frame,ha.hfix,ha.os,ha.tape,ha.output,ha.grow⟩⟩
def RE (a:Bool) (R:D->Obs->Prop):D->Obs->Prop:=match a with
 |true=>λd ob=>∃ r,retE d ob=some r/\R r []
 |false=>λd ob=>R d (Z29 ob)
def FinQ (a:Bool) (bs:Nat) (rs:List SR) (R:D->Obs->Prop):Exit->St->Prop:=λe s=>match e with
 |.normal=>∃ ds,rs.mapM (resD s)=some ds/\RetL bs (RE a R) s (Z0H ds)
 |.ret=>∃ ds,rs.mapM (resD s)=some ds/\RetL bs (RE a R) s (Z0H ds)
 |.panic c=>∃ v,c=[{v,recovered:=false}]/\RetL bs (RE a R) s (.pan v)
 |_=>False
def panF (a:Bool) (bs:Nat) (c:List PanicEntry) (s:St):Tr:=match c with
 |[⟨v,false,false⟩]=>(match a with
  |true=>.bad
  |false=>.ret (.pan v) (Z29 (s.fin bs (.pan v)).ob))
 |_=>.bad
def endT (a:Bool) (bs:Nat) (rs:List SR) (s:St):Tr:=match rs.mapM (resD s) with
 |some ds=>match a with
  |true=>match retE ((s.fin bs (Z0H ds)).get (.t 0)) (s.fin bs (Z0H ds)).ob with
   |some r=>.ret r []
   |none=>.bad
  |false=>.ret ((s.fin bs (Z0H ds)).get (.t 0)) (Z29 (s.fin bs (Z0H ds)).ob)
 |none=>.bad
def finF (a:Bool) (bs:Nat) (rs:List SR):Exit->St->Tr:=λe s=>match e with
 |.normal=>endT a bs rs s
 |.ret=>endT a bs rs s
 |.panic c=>panF a bs c s
 |_=>.bad
def intT (a c:Bool) (x:Tr):Tr:=match a with
 |false=>x
 |true=>brT c x .bad
theorem Z5F {R:D->Obs->Prop} {J:List Fr->St->Prop} {a c:Bool} {x:Tr} (h0:a=false->c=true) (h:(intT a c x).ok R J):x.ok R J/\c=true:=by
 cases a with
 |false=>exact⟨h,h0 rfl⟩
 |true =>
  cases c with
  |true=>exact⟨h,rfl⟩
  |false=>exact h.elim
def Z0o (P:Program) (tb:Ctr) (bs:Nat) (fin:Exit->St->Tr) (d:List Fr->St->Tr):List Fr->St->Tr:=λK s=>match K with
 |[]=>fin .normal s
 |.blk _::K=>d K s
 |.sc c::K=>match c with
  |.skip=>d K s
  |.ret=>fin .ret s
  |.exit i=>match Z15 i K with
   |some K'=>d K' s
   |none=>fin (.exit i) s
  |.reg ops=>opsT tb (s.nx bs) ops s λs'=>d K s'
  |.drw pre ops=>caT tb (s.nx bs) ops s λes s'=>if dchk (s.nx bs) pre ops es s=true then d K s' else .bad
  |.seq a b=>d (.sc a:: .sc b::K) s
  |.cond x a b=>match s.get x with
   |.bool t=>brT t (d (.sc a::K) s) (d (.sc b::K) s)
   |_=>.bad
  |.block id c=>d (.sc c:: .blk id::K) s
  |.loop ts c=>.jmp (.sc c:: .sc (.loop ts c)::K) (s.canon bs ts)
  |.spec k=>match k with
   |.frg ts=>.jmp K (s.canon bs ts)
   |.pan ops=>ZkA tb (s.nx bs) ops s (λs'=>d K s') (λv s'=>fin (pnc v) s')
   |.ord pre ops=>caOT tb (s.nx bs) pre 0 ops s (λqs s'=>if (dchk (s.nx bs) pre ops (qs.map (·.1)) s && ZU false pre s (qs.map (·.1)) 0 qs)=true then intT (ZaQ qs) (ZU true pre s (qs.map (·.1)) 0 qs) (d K s') else .bad)
     (λ_ v qs=>if (dchk (s.nx bs) pre ops (qs.map (·.1)) s && ZU false pre s (qs.map (·.1)) 0 qs)=true then intT (ZaQ qs) (ZU true pre s (qs.map (·.1)) 0 qs) (fin (pnc v) ⟨[],[]⟩) else .bad)
   |_=>.jmp (.sc (.spec k)::K) s
  |.rangeF N g ps a b =>
   let ob1:=rngS P s (s.nx bs) N ps a b;let nm:=Z1K ⟨s.tm,ob1⟩ [s.get g,.yld (s.nx bs)]
   match s.get g with
   |.func (.func f) fa e=>if Z0w nm=true/\ZC P f=true then
     (match tb.C 0 ((s.get g).ren (idx · nm)) [(D.yld (s.nx bs)).ren (idx · nm)] (ZT ob1 (idx · nm) 0 nm) with
     |some rt=>rtT rt λr ob'=>panT r (λv=>fin (pnc v) ⟨s.tm,Z8 (s.nx bs) (St.back ⟨s.tm,ob1⟩ (s.nx bs+1) nm ob').ob⟩) <|
      let S:=St.back ⟨s.tm,ob1⟩ (s.nx bs+1) nm ob'
      match lk S.ob (s.nx bs) with
      |some (.gen (.loop st pend _ _ _ _ _) _)=>if st=.busy then .bad else (match pend with
       |none=>d K ⟨s.tm,Z8 (s.nx bs) S.ob⟩
       |some .ret=>fin .ret ⟨s.tm,Z8 (s.nx bs) S.ob⟩
       |some (.exit i)=>match Z15 i K with
        |some K'=>d K' ⟨s.tm,Z8 (s.nx bs) S.ob⟩
        |none=>fin (.exit i) ⟨s.tm,Z8 (s.nx bs) S.ob⟩
       |_=>.bad)
      |_=>.bad
     |none=>.jmp (.sc (.rangeF N g ps a b)::K) s) else .bad
   |_=>.bad
def goT (P:Program) (tb:Ctr) (bs:Nat) (fin:Exit->St->Tr) (n:Nat):List Fr->St->Tr:=Nat.rec (λ_ _=>.bad) (λ_ a=>Z0o P tb bs fin a) n
theorem Zgk (tb:Ctr) (bs:Nat) (fin:Exit->St->Tr) (n:Nat):goT P tb bs fin (n+1)=Z0o P tb bs fin (goT P tb bs fin n):=rfl
theorem ZdJ {b:Bool} {bs:Nat} {rs:List SR} {s:St} {R:D->Obs->Prop} {J:List Fr->St->Prop} (h:(endT b bs rs s).ok R J): ∃ ds,rs.mapM (resD s)=some ds/\RetL bs (RE b R) s (Z0H ds):=by
 unfold endT at h;split at h
 ·rename_i ds a;refine⟨ds,a,?_⟩;cases b with
  |true =>
   simp only at h;split at h
   ·rename_i r hr;exact⟨r,hr,h⟩
   ·exact h.elim
  |false=>exact h
 ·exact h.elim
theorem Z0M {a:Bool} {bs:Nat} {rs:List SR} {R:D->Obs->Prop} {J:List Fr->St->Prop} (e:Exit) (s:St) (h:(finF a bs rs e s).ok R J):FinQ a bs rs R e s:=by
 cases e<;>try first|exact ZdJ h|exact h.elim
 simp only[finF,panF] at h;split at h
 ·rename_i v;cases a with
  |true=>exact h.elim
  |false=>exact⟨v,rfl,h⟩
 ·exact h.elim
theorem Z3h: ∀ {n m bs:Nat} {K:List Fr} {s:St} {Q:Exit->St->Prop},n<=m->swF P n bs K s Q->swF P m bs K s Q
 |0,_,_,_,_,_,_,h=>h.elim
 |n+1,0,_,_,_,_,f,_=>by omega
 |n+1,m+1,bs,K,s,Q,f,h=>by
  have up: ∀ {K' s'},swF P n bs K' s' Q->swF P m bs K' s' Q:=λh=>Z3h (by omega) h
  match K,h with
  |[],h=>exact h
  |.blk _::K,h=>exact up h
  |.sc c::K,h =>
   cases c with
   |skip=>exact up h
   |ret=>exact h
   |exit i =>
    simp only[swF] at h ⊢;split
    ·rename_i hp;rw[hp] at h;exact up h
    ·rename_i hp;rw[hp] at h;exact h
   |reg ops=>exact Z02 (K:=λs'=>swF P n bs K s' Q) h λs' hs=>up hs
   |drw pre ops=>obtain⟨es,s',h1,h2,j⟩:=h;exact⟨es,s',h1,h2,up j⟩
   |seq a b=>exact up h
   |cond x a b =>
    simp only[swF] at h ⊢;split at h
    ·exact up h
    ·exact h.elim
   |block id c=>exact up h
   |loop ts c=>exact up h
   |spec k =>
    simp only[swF] at h ⊢;refine Z1n h λe s' d=>?_;cases e<;>try exact d
    ·exact up d
    ·simp only at d ⊢;split at d
     ·exact up d
     ·exact d
   |rangeF N g ps a b =>
    simp only[swF] at h ⊢;refine ZB h λe s' d=>?_;cases e<;>try exact d
    ·exact up d
    ·simp only at d ⊢;split at d
     ·exact up d
     ·exact d
theorem Tr.ok_mono {R:D->Obs->Prop} {J J':List Fr->St->Prop} (h: ∀ K s,J K s->J' K s): ∀ {T:Tr},T.ok R J->T.ok R J'
 |.ret _ _,a=>a
 |.jmp _ _,a=>h _ _ a
 |.owe _ x,a=>⟨a.1,Tr.ok_mono h a.2⟩
 |.bad,a=>a
theorem Tr.ok_at {R:D->Obs->Prop} {J:List Fr->St->Prop} {A:Nat->List Fr->St->Prop} (h: ∀ K s,J K s-> ∃ n,A n K s): ∀ {T:Tr},T.ok R J-> ∃ n,T.ok R λK s=>J K s/\A n K s
 |.ret _ _,a=>⟨0,a⟩
 |.jmp K s,a=>by
  obtain⟨n,b⟩:=h K s a;exact⟨n,a,b⟩
 |.owe _ x,a=>by
  obtain⟨n,b⟩:=Tr.ok_at h a.2;exact⟨n,a.1,b⟩
 |.bad,a=>a.elim
theorem Zb3 {tb:Ctr} (l:tb.OK P) {bs:Nat} {fin:Exit->St->Tr} {R:D->Obs->Prop} {J:List Fr->St->Prop} {Q:Exit->St->Prop} {m:Nat} {A:List Fr->St->Tr} (d: ∀ e s,(fin e s).ok R J->Q e s) (o: ∀ K s,J K s->swF P m bs K s Q)
  (up: ∀ {K s},(A K s).ok R J->swF P m bs K s Q) {K:List Fr} {s:St} (h:(Z0o P tb bs fin A K s).ok R J):swF P (m+1) bs K s Q:=by
  match K,h with
  |[],h=>exact d _ _ h
  |.blk _::K,h=>exact up h
  |.sc c::K,h =>
   cases c with
   |skip=>exact up h
   |ret=>exact d _ _ h
   |exit i =>
    simp only[Z0o] at h;split at h
    ·rename_i K' hp;simp only[swF,hp];exact up h
    ·rename_i hp;simp only[swF,hp];exact d _ _ h
   |reg ops =>
    simp only[Z0o] at h;obtain⟨s',h1,h2⟩:=Z2J l h;exact h1 _ (up h2)
   |drw pre ops =>
    simp only[Z0o] at h;obtain⟨es,s',h1,h2⟩:=Z7a l h;split at h2
    ·rename_i n;exact⟨es,s',h1,n,up h2⟩
    ·exact h2.elim
   |seq a b=>exact up h
   |cond x a b =>
    simp only[Z0o] at h;split at h
    ·rename_i t hx;rcases Z7b h with⟨rfl,h⟩|⟨rfl,h⟩
     ·simp only[swF,hx,if_true];exact up h
     ·simp only[swF,hx];exact up h
    ·exact h.elim
   |block id c=>exact up h
   |loop ts c =>
    have h1:=o _ _ h;show swF P m bs (.sc c:: .sc (.loop ts c)::K) (s.canon bs ts) Q;exact h1
   |spec k =>
    cases k with
    |frg ts=>exact o _ _ h
    |pan ops =>
     simp only[Z0o] at h;rcases Z9l l h with⟨s',h1,h2⟩|⟨v,s',h1,h2⟩
     ·exact h1 _ _ (up h2)
     ·exact h1 _ _ (d _ _ h2)
    |ord pre ops =>
     simp only[Z0o] at h;rcases Ze9 l h with⟨qs,s',h1,h2⟩|⟨c,v,qs,s',_,hc,h1,h2⟩
     ·split at h2
      ·rename_i n;simp only[Bool.and_eq_true] at n;exact⟨none,qs,s',h1,n.1,⟨n.2,(Z5F QX h2).2⟩,up (Z5F QX h2).1⟩
      ·exact h2.elim
     ·split at h2
      ·rename_i n;simp only[Bool.and_eq_true] at n;exact⟨some (c,v),qs,s',h1,n.1,⟨n.2,(Z5F QX h2).2⟩,by omega,d _ _ (Z5F QX h2).1⟩
      ·exact h2.elim
    |_=>exact Z3h (Nat.le_succ m) (o _ _ h)
   |rangeF N g ps a b =>
    simp only[Z0o] at h;split at h
    ·rename_i f fa y z;split at h
     ·rename_i hc;split at h
      ·rename_i rt q;obtain⟨r,ob',j,hk⟩:=Z2Z (l.C _ _ _ _ _ q) h;rcases Z3K hk with⟨p,hk⟩|⟨v,rfl,hk⟩
       case inr =>
        refine⟨_,_,Zo hc.1,λi hi=>ZA (s:=⟨s.tm,rngS P s (s.nx bs) N ps a b⟩) i hi,⟨f,fa,y,z,hc.2⟩,j,?_⟩;rintro r0 ob0 ⟨rfl,rfl⟩;exact .inl ⟨v,rfl,d _ _ hk⟩
       split at hk
       ·rename_i st pend _ _ _ _ _ _ hl;split at hk
        ·exact hk.elim
        ·rename_i u;have fin:(match pend with
           |none=>swF P m bs K ⟨s.tm,Z8 (s.nx bs) (St.back ⟨s.tm,rngS P s (s.nx bs) N ps a b⟩ (s.nx bs+1) (Z1K ⟨s.tm,rngS P s (s.nx bs) N ps a b⟩ [s.get g,.yld (s.nx bs)]) ob').ob⟩ Q
           |some .ret=>Q .ret ⟨s.tm,Z8 (s.nx bs) (St.back ⟨s.tm,rngS P s (s.nx bs) N ps a b⟩ (s.nx bs+1) (Z1K ⟨s.tm,rngS P s (s.nx bs) N ps a b⟩ [s.get g,.yld (s.nx bs)]) ob').ob⟩
           |some (.exit i)=>(match Z15 i K with
            |some K'=>swF P m bs K' ⟨s.tm,Z8 (s.nx bs) (St.back ⟨s.tm,rngS P s (s.nx bs) N ps a b⟩ (s.nx bs+1) (Z1K ⟨s.tm,rngS P s (s.nx bs) N ps a b⟩ [s.get g,.yld (s.nx bs)]) ob').ob⟩ Q
            |none=>Q (.exit i) ⟨s.tm,Z8 (s.nx bs) (St.back ⟨s.tm,rngS P s (s.nx bs) N ps a b⟩ (s.nx bs+1) (Z1K ⟨s.tm,rngS P s (s.nx bs) N ps a b⟩ [s.get g,.yld (s.nx bs)]) ob').ob⟩)
           |_=>False)->swF P (m+1) bs (.sc (.rangeF N g ps a b)::K) s Q:=λhm=>by
          refine⟨_,_,Zo hc.1,λi hi=>ZA (s:=⟨s.tm,rngS P s (s.nx bs) N ps a b⟩) i hi,⟨f,fa,y,z,hc.2⟩,j,?_⟩;rintro r0 ob0 ⟨rfl,rfl⟩;refine .inr ⟨p,st,pend,_,_,_,_,_,_,hl,u,?_⟩;split at hm
          ·exact hm
          ·exact hm
          ·exact hm
          ·exact hm.elim
         cases pend with
         |none=>exact fin (up hk)
         |some c0 =>
          cases c0<;>try exact hk.elim
          ·grind
          ·grind
       ·exact hk.elim
      ·exact Z3h (Nat.le_succ m) (o _ _ h)
     ·exact h.elim
    ·exact h.elim
theorem Zle {tb:Ctr} (b:tb.OK P) {bs:Nat} {fin:Exit->St->Tr} {R:D->Obs->Prop} {J:List Fr->St->Prop} {Q:Exit->St->Prop} {n0:Nat} (a: ∀ e s,(fin e s).ok R J->Q e s) (c: ∀ K s,J K s->swF P n0 bs K s Q) :
  ∀ {n:Nat} {K:List Fr} {s:St},(goT P tb bs fin n K s).ok R J->swF P (n0+n) bs K s Q
 |0,K,s,h=>h.elim
 |n+1,K,s,h=>by
  rw[Zgk] at h;exact Zb3 b a (λK s d=>Z3h (Nat.le_add_right _ _) (c K s d)) (λh=>Zle b a c h) h
theorem Z2p {tb:Ctr} (b:tb.OK P) {bs:Nat} {fin:Exit->St->Tr} {R:D->Obs->Prop} {J:List Fr->St->Prop} {Q:Exit->St->Prop} (a: ∀ e s,(fin e s).ok R J->Q e s) (c: ∀ K s,J K s->At P bs K s Q)
  {n:Nat} {K:List Fr} {s:St} (h:(goT P tb bs fin n K s).ok R J):At P bs K s Q:=by
 obtain⟨n0,h0⟩:=Tr.ok_at (A:=λn K s=>swF P n bs K s Q) c h;exact⟨_,Zle b (λe s hf=>a e s (Tr.ok_mono (λ_ _ h=>h.1) hf)) (λ_ _ h=>h.2) h0⟩
theorem swF.tree {tb:Ctr} (a:tb.OK P) {b:Bool} {bs:Nat} {rs:List SR} {R:D->Obs->Prop} {n n0:Nat} {K:List Fr} {s:St} {T:Tr} (e:goT P tb bs (finF b bs rs) n K s=T)
  (h:T.ok R (λK s=>swF P n0 bs K s (FinQ b bs rs R))):swF P (n0+n) bs K s (FinQ b bs rs R):=Zle a Z0M (λ_ _ h=>h) (e ▸ h)
def SC.tl:SC->Nat->SC
 |c,0=>c
 |.seq _ b,n+1=>b.tl n
 |c,_+1=>c
def frgs:SC->List Fr->List (List Fr)
 |.seq (.spec (.frg _)) b,K=>(.sc b::K)::frgs b K
 |.seq a b,K=>frgs a (.sc b::K)++frgs b K
 |.cond _ a b,K=>frgs a K++frgs b K
 |.block id c,K=>frgs c (.blk id::K)
 |.loop ts c,K=>frgs c (.sc (.loop ts c)::K)
 |_,_=>[]
def frg (sc:SC) (n:Nat):List Fr:=(frgs sc []).getD n []
theorem At.tree {tb:Ctr} (a:tb.OK P) {b:Bool} {bs:Nat} {rs:List SR} {R:D->Obs->Prop} {n:Nat} {K:List Fr} {s:St} {T:Tr} (e:goT P tb bs (finF b bs rs) n K s=T)
  (h:T.ok R (λK s=>At P bs K s (FinQ b bs rs R))):At P bs K s (FinQ b bs rs R):=Z2p a Z0M (λ_ _ h=>h) (e ▸ h)
theorem Z7f {bs:Nat} {sc:SC} {s:St} {Q:Exit->St->Prop} (h:At P bs [.sc sc] s Q):sw P bs sc Q s:=by
 obtain⟨n,a⟩:=h;refine ZB (ZbR n bs sc [] s Q a) λex s1 ⟨m,_,hr⟩=>?_;cases ex<;>simp only[Zku,Z15] at hr
 ·cases m with
  |zero=>cases hr
  |succ m=>exact hr
 ·exact hr
 ·exact hr
 ·exact hr
theorem FnOK.at[CodesOf P] (Z3:DrawSound P) {f:FuncId} {N:Nat} {sc:SC} {rs:List SR} (hf:FnC P f N sc rs/\ZC P f=true) {args:List D} {r:D}
  (h:At P 0 [.sc sc] ⟨ZM 0 args,[]⟩ (FinQ true 0 rs (λd _=>d=r))) (a:Nat.ble args.length N=true:=by rfl):FnOK P f args r:=by
 have a:=Nat.le_of_ble_eq_true a;have c:=Z7f h;refine FnOK.of_call hf.2 (CallL.fn Z3 hf.1 hf.2 (first:=[]) (caps:=[]) 0 (Nat.le_refl _) (by simpa using a) ?_);have conv: ∀ (s:St) (d:D),RetL 0 (RE true (λd _=>d=r)) s d->RetL 0 (RetK r) s d:=by
  rintro s d ⟨g,b,rfl⟩;unfold retE at b;unfold RetL RetK;split at b
  ·grind
  ·grind
 rw[List.nil_append,List.append_nil];refine ZB c λex s1 e=>?_;cases ex<;>simp only[FinQ,EndQ] at e ⊢
 ·grind
 ·grind
 ·grind
theorem FnOK.tree [CodesOf P] (Z3:DrawSound P) {f:FuncId} {N:Nat} {sc:SC} {rs:List SR} (hf:FnC P f N sc rs/\ZC P f=true) {tb:Ctr} (b:tb.OK P) {n:Nat} {args:List D} {r:D} {T:Tr}
  (e:goT P tb 0 (finF true 0 rs) n [.sc sc] ⟨ZM 0 args,[]⟩=T) (h:T.ok (λd _=>d=r) (λK s=>At P 0 K s (FinQ true 0 rs (λd _=>d=r)))) (a:Nat.ble args.length N=true:=by rfl):FnOK P f args r :=
 FnOK.at Z3 hf (Z2p b Z0M (λ_ _ h=>h) (e ▸ h)) a
theorem CallL.tree [CodesOf P] (Z3:DrawSound P) {f:FuncId} {N:Nat} {sc:SC} {rs:List SR} (hf:FnC P f N sc rs/\ZC P f=true) {tb:Ctr} (d:tb.OK P) {n bs:Nat} {first args caps:List D} {ob:Obs} {R:D->Obs->Prop} {T:Tr}
  (e:goT P tb bs (finF false bs rs) n [.sc sc] ⟨ZM 0 (first++args++caps),ob⟩=T) (h:T.ok R (λK s=>At P bs K s (FinQ false bs rs R))) (a:Nat.ble (first++args++caps).length N=true:=by rfl) (b:Nat.ble (Obs.top ob) bs=true:=by rfl):CallL P (.func (.func f) first caps) args ob R:=by
 have a:=Nat.le_of_ble_eq_true a;have b:=Nat.le_of_ble_eq_true b;have c:=Z7f (Z2p d Z0M (λ_ _ h=>h) (e ▸ h));refine CallL.reordG (CallL.fn Z3 hf.1 hf.2 bs b a ?_);refine ZB c λex s1 g=>?_;cases ex<;>simp only[FinQ,RE,EndQ] at g ⊢<;>exact g
end
def finY (k c N:Nat) (ps:Array Tmp) (a b:SC) (keys:List Nat) (ds:List D):Exit->St->Tr:=λe s=>match Z3J e with
 |some pend=>if (lk s.ob c).isNone=true then .ret (.bool pend.isNone) (Z29 ((c,.gen (.loop (if pend.isNone then .ready else .done) pend ps a b N keys) ds)::(s.canon k []).ob)) else .bad
 |none=>.bad
def yldT (P:Program) (tb:Ctr) (k c N:Nat) (ps:Array Tmp) (a b:SC) (keys:List Nat) (ds:List D) (n:Nat) (s:St):Tr :=
 goT P tb k (λe s=>match e with
  |.normal=>goT P tb k (finY k c N ps a b keys ds) n [.sc b] s
  |_=>.bad) n [.sc a] s
section
variable {P:Program}
theorem CallL.yldT [CodesOf P] (Z3:DrawSound P) {tb:Ctr} (g:tb.OK P) {n k c N:Nat} {ps:Array Tmp} {a b:SC} {keys:List Nat} {ds args:List D} {ob:Obs} {R:D->Obs->Prop} {T:Tr}
  (f:lk ob c=some (.gen (.loop .ready none ps a b N keys) ds)) (e:Sx.yldT P tb k c N ps a b keys ds n ⟨putP (ps.toList.zip args) (keys.zip ds),Z8 c ob⟩=T)
  (h:T.ok R (λ_ _=>False)) (hk:Nat.ble (Obs.top ob) k=true:=by rfl) (j:ps.size=args.length:=by rfl) (i:(ps.toList.all λt=>decide (t<N))=true:=by rfl):CallL P (.yld c) args ob R:=by
 have hk:=Nat.le_of_ble_eq_true hk;refine CallL.reordG (CallL.yld Z3 k hk f j (λt m=>by simpa using List.all_eq_true.1 i t m) ?_);have h':(Sx.yldT P tb k c N ps a b keys ds n ⟨putP (ps.toList.zip args) (keys.zip ds),Z8 c ob⟩).ok R (λ_ _=>False):=e ▸ h;unfold Sx.yldT at h';refine Z7f (Z2p g (λe s hf=>?_) (λ_ _ h=>h.elim) h');cases e<;>try exact hf.elim
 refine Z7f (Z2p g (λe s hf=>?_) (λ_ _ h=>h.elim) hf);unfold finY at hf;split at hf
 ·rename_i pend d;split at hf
  ·rename_i l;refine⟨by simpa using l,?_⟩;cases e<;>simp only[Z3J,Option.some.injEq,reduceCtorEq] at d<;>(subst d;exact hf)
  ·exact hf.elim
 ·exact hf.elim
end
def cuts:SC->List Fr->List (List Fr)
 |.seq a b,K=>cuts a (.sc b::K)++cuts b K
 |.cond _ a b,K=>cuts a K++cuts b K
 |.block id c,K=>cuts c (.blk id::K)
 |.loop ts c,K=>(.sc c:: .sc (.loop ts c)::K)::cuts c (.sc (.loop ts c)::K)
 |_,_=>[]
def cut (sc:SC) (n:Nat):List Fr:=(cuts sc []).getD n []
def spcs:SC->List Fr->List (List Fr)
 |.seq a b,K=>spcs a (.sc b::K)++spcs b K
 |.cond _ a b,K=>spcs a K++spcs b K
 |.block id c,K=>spcs c (.blk id::K)
 |.loop ts c,K=>spcs c (.sc (.loop ts c)::K)
 |.spec k,K=>[.sc (.spec k)::K]
 |_,_=>[]
def spc (sc:SC) (n:Nat):List Fr:=(spcs sc []).getD n []
def aft (sc:SC) (n:Nat):List Fr:=(spc sc n).tail
theorem Qs {P:Program} {n bs:Nat} {k:Sp} {K:List Fr} {s:St} {Q:Exit->St->Prop} (h:spS P bs k (λe s'=>e=.normal/\swF P n bs K s' Q) s):swF P (n+1) bs (.sc (.spec k)::K) s Q:=by grind [Z1n,swF]
def SC.rngs:SC->List (SC × SC)
 |.seq a b=>a.rngs++b.rngs
 |.cond _ a b=>a.rngs++b.rngs
 |.block _ c=>c.rngs
 |.loop _ c=>c.rngs
 |.rangeF _ _ _ a b=>(a,b)::(a.rngs++b.rngs)
 |_=>[]
def SC.rngA (sc:SC) (n:Nat):SC:=(sc.rngs.getD n (.skip,.skip)).1
def SC.rngB (sc:SC) (n:Nat):SC:=(sc.rngs.getD n (.skip,.skip)).2
end Go.Sx
/- TERMS COMPARED,in plain words. -/
namespace Go.Sx
def ncmp (a b:Int):Int:=if a<b then -1 else if b<a then 1 else 0
def rkI (k:Int):Int:=if k=1 then 0 else if k=2 then 1 else if k=4 then 2 else if k=3 then 3 else if k=5 then 4 else if k=6 then 5 else 6+k
def idxI (k:Int):Int:=if k=1 then 0 else if k=2 then 1 else if k=4 then 2 else if k=3 then 3 else if k=5 then 4 else if k=6 then 5 else -1
def fst0:List Int->Int
 |[]=>0
 |x::r=>if x≠0 then x else fst0 r
mutual
def Tm.cmp:Tm->Tm->Int
 |.mk k n s l,b=>match b with
  |.mk d c s' a=>fst0 [ncmp (rkI k) (rkI d),if k=1 then ncmp n c else 0,ncmp l.length a.length,Lib.compareBytes s s',Tm.cmpL l a,ncmp n c]
def Tm.cmpL:List Tm->List Tm->Int
 |[],q=>match q with
  |[]=>0
  |_::_=>-1
 |a::r,q=>match q with
  |[]=>1
  |b::q=>if a.cmp b≠0 then a.cmp b else Tm.cmpL r q
end
mutual
def Tm.sz:Tm->Int->Int
 |.mk _ _ _ l,m=>1+Tm.szL l (m-1) 0
def Tm.szL:List Tm->Int->Int->Int
 |[],m,n=>n
 |a::r,m,n=>if n<=m then Tm.szL r m (n+a.sz (m-n)) else n
end
mutual
def Tm.eqb:Tm->Tm->Bool
 |.mk k n s l,b=>match b with
  |.mk a d s' c=>decide (k=a) && decide (n=d) && decide (s=s') && Tm.eqbL l c
def Tm.eqbL:List Tm->List Tm->Bool
 |[],q=>match q with
  |[]=>true
  |_::_=>false
 |a::r,q=>match q with
  |[]=>false
  |b::q=>a.eqb b && Tm.eqbL r q
end
theorem Z1T {a b:Int}:ncmp a b=0 ↔ a=b:=by grind [ncmp]
theorem Z61: ∀ {a b:List UInt8},Lib.compareBytes a b=0 ↔ a=b
 |[],[]=>by simp[Lib.compareBytes]
 |[],_::_=>by simp[Lib.compareBytes]
 |_::_,[]=>by simp[Lib.compareBytes]
 |a::r,b::q=>by
  unfold Lib.compareBytes;split
  ·rename_i h;simp;intro e;subst e;exact absurd h (UInt8.lt_irrefl _)
  ·split
   ·rename_i h;simp;intro e;subst e;exact absurd h (UInt8.lt_irrefl _)
   ·rename_i h1 h2;have:a=b:=by
     rw[<- UInt8.toNat_inj];rw[UInt8.lt_iff_toNat_lt] at h1 h2;omega
    rw[Z61 (a:=r) (b:=q)];simp[this]
theorem Z7e: ∀ (a b:List UInt8),Lib.compareBytes a b=if Op.bytesLess a b=true then -1 else if (!(Op.bytesLess a b ||decide (a=b)))=true then 1 else 0
 |[],[]=>rfl
 |[],_::_=>rfl
 |_::_,[]=>by simp[Lib.compareBytes,Op.bytesLess]
 |a::r,b::q=>by
  unfold Lib.compareBytes Op.bytesLess;by_cases h1:a<b
  ·simp[h1]
  ·by_cases h2:b<a
   ·have:a≠b:=λe=>by subst e;exact h1 h2
    simp[h1,h2,this]
   ·have c:a=b:=by
     rw[<- UInt8.toNat_inj];rw[UInt8.lt_iff_toNat_lt] at h1 h2;omega
    subst c;rw[Z7e r q];simp[h1]
end Go.Sx
namespace Go.Sx
mutual
def Tm.few (N:Nat):Tm->Prop
 |.mk _ _ _ l=>l.length<=N/\Tm.fewL N l
def Tm.fewL (N:Nat):List Tm->Prop
 |[]=>True
 |a::r=>a.few N/\Tm.fewL N r
end
theorem Qu {N:Nat}: ∀ {l:List Tm},Tm.fewL N l ↔ ∀ t∈l,t.few N
 |[]=>by simp[Tm.fewL]
 |a::r=>by simp[Tm.fewL,Qu (l:=r)]
mutual
theorem Qg: ∀ (t:Tm) (m:Int),1<=t.sz m
 |.mk k n s l,m=>by
  have:=Qh l (m-1) 0;simp only[Tm.sz];omega
theorem Qh: ∀ (l:List Tm) (m n:Int),n<=Tm.szL l m n
 |[],m,n=>by simp only[Tm.szL];omega
 |a::r,m,n=>by
  simp only[Tm.szL];split
  ·have:=Qh r m (n+a.sz (m-n))
   have:=Qg a (m-n);omega
  ·omega
end
mutual
theorem Z3w: ∀ (t:Tm) (m:Int),0<=m->t.sz m<=m+1
 |.mk k n s l,m,hm=>by
  have:=Z26 l (m-1) 0 (by omega);simp only[Tm.sz];omega
theorem Z26: ∀ (l:List Tm) (m n:Int),n<=m+1->Tm.szL l m n<=m+1
 |[],m,n,h=>by simp only[Tm.szL];omega
 |a::r,m,n,h=>by
  simp only[Tm.szL];split
  ·have:=Z3w a (m-n) (by omega);exact Z26 r m _ (by omega)
  ·omega
end
mutual
theorem ZbL {N:Nat}: ∀ (t:Tm) (m:Int),m<=N->t.sz m<=m->t.few N
 |.mk k n s l,m,hm,h=>by
  simp only[Tm.sz] at h
  have:=ZbM (N:=N) l (m-1) 0 (by omega) (by omega);exact⟨by omega,this.1⟩
theorem ZbM {N:Nat}: ∀ (l:List Tm) (m n:Int),m-n<=N->Tm.szL l m n<=m->Tm.fewL N l/\n+l.length<=Tm.szL l m n
 |[],m,n,hm,h=>by simp[Tm.szL,Tm.fewL]
 |a::r,m,n,hm,h=>by
  simp only[Tm.szL] at h ⊢;split at h
  ·rename_i b;rw[if_pos b];have h1:=Qg a (m-n);have h2:=ZbM (N:=N) r m (n+a.sz (m-n)) (by omega) h;have c:=ZbL (N:=N) a (m-n) hm (by omega);exact⟨⟨c,h2.1⟩,by rw[List.length_cons];omega⟩
  ·omega
end
theorem Z6R: ∀ {l:List Int},fst0 l=0 ↔ ∀ x∈l,x=0
 |[]=>by simp[fst0]
 |x::r=>by
  unfold fst0;split
  ·rename_i h;simp[h]
  ·rename_i h;have hx:x=0:=Classical.not_not.1 h;rw[Z6R (l:=r)];simp[hx]
theorem Zkt {k a:Nat} (h:rkI k=rkI a):k=a:=by
 unfold rkI at h
 (repeat' split at h)<;>omega
mutual
theorem ZdZ: ∀ {a b:Tm},a.cmp b=0 ↔ a=b
 |.mk k n s l,.mk i j s' h=>by
  simp only[Tm.cmp,Z6R,Tm.mk.injEq,List.mem_cons,List.not_mem_nil,or_false,forall_eq_or_imp,forall_eq];constructor
  ·rintro⟨h1,_,d,e,f,g⟩;have c:l.length=h.length:=by have:=Z1T.1 d;omega
   exact⟨Zkt (Z1T.1 h1),Z1T.1 g,Z61.1 e,(Z8p c).1 f⟩
  ·rintro⟨rfl,rfl,rfl,rfl⟩;refine⟨Z1T.2 rfl,?_,Z1T.2 rfl,Z61.2 rfl,(Z8p rfl).2 rfl,Z1T.2 rfl⟩;split
   ·exact Z1T.2 rfl
   ·rfl
theorem Z8p: ∀ {a b:List Tm},a.length=b.length->(Tm.cmpL a b=0 ↔ a=b)
 |[],[],_=>by simp[Tm.cmpL]
 |[],_::_,h=>by cases h
 |_::_,[],h=>by cases h
 |a::r,b::q,h=>by
  simp only[Tm.cmpL,List.cons.injEq];by_cases hc:a.cmp b=0
  ·rw[if_neg (by simpa using hc)]
   have:=ZdZ.1 hc;rw[Z8p (by simpa using h)];simp[this]
  ·rw[if_pos hc];have:a≠b:=λe=>hc (ZdZ.2 e);simp[hc,this]
end
mutual
theorem ZdC: ∀ {a b:Tm},a.eqb b=true ↔ a=b
 |.mk k n s l,.mk e g s' f=>by
  simp only[Tm.eqb,Bool.and_eq_true,decide_eq_true_eq,ZdD,Tm.mk.injEq];constructor
  ·rintro⟨⟨⟨h1,h2⟩,c⟩,d⟩;exact⟨h1,h2,c,d⟩
  ·rintro⟨h1,h2,c,d⟩;exact⟨⟨⟨h1,h2⟩,c⟩,d⟩
theorem ZdD: ∀ {a b:List Tm},Tm.eqbL a b=true ↔ a=b
 |[],[]=>by simp[Tm.eqbL]
 |[],_::_=>by simp[Tm.eqbL]
 |_::_,[]=>by simp[Tm.eqbL]
 |a::r,b::q=>by
  simp only[Tm.eqbL,Bool.and_eq_true,List.cons.injEq,ZdC (a:=a) (b:=b),ZdD (a:=r) (b:=q)]
end
theorem Zlv (a b:Tm):a.eqb b=decide (a.cmp b=0):=by
 rw[Bool.eq_iff_iff,ZdC,decide_eq_true_eq,ZdZ]
end Go.Sx
/- Plain laws on bytes and lists. -/
namespace Go.Sx
theorem Zea (s:List UInt8) (i:Nat):0<=((s.getD i 0).toNat:Int)/\((s.getD i 0).toNat:Int)<256:=by
 have:=(s.getD i 0).toNat_lt;omega
end Go.Sx
/- The lexer,plainly. -/
namespace Go.Sx.Lx
open Go.Sx
def Z2o (b:UInt8):Bool:=decide (97<=b.toNat) && decide (b.toNat<=122)
def Z83 (b:UInt8):Bool:=decide (65<=b.toNat) && decide (b.toNat<=90)
def Z19 (b:UInt8):Bool:=decide (48<=b.toNat) && decide (b.toNat<=57)
def Zgc (b:UInt8):Bool:=Z2o b ||Z83 b
def Z0l (b:UInt8):Bool:=b == 95
def Z0R (b:UInt8):Bool:=Zgc b ||Z19 b ||Z0l b
def Zl4 (b:UInt8):Bool:=b == 32 ||b == 9 ||b == 10 ||b == 13
def skp:Bool->List UInt8->Nat
 |_,[]=>0
 |false,b::r=>if Zl4 b then 1+skp false r else if b == 37 then 1+skp true r else 0
 |true,b::r=>if b == 10 then 1+skp false r else 1+skp true r
end Go.Sx.Lx
namespace Go.Sx.Lx
def Z2y (first:UInt8->Bool) (s:List UInt8):Bool:=match s.dropWhile Z0l with
 |[]=>false
 |b::r=>first b && (b::r).all Z0R && decide (s.length<=32)
def Zud:List UInt8:=[110,111,116]
def Qm (s:List UInt8):Bool:=Z2y Z2o s && decide (s≠Zud)
def Zk (s:List UInt8):Bool:=Z2y Z83 s ||(match s with
 |95::r=>r.all Z19 && decide (s.length<=32)
 |_=>false)
end Go.Sx.Lx
namespace Go.Sx
def strC (l:List (List UInt8)):List (List D):=l.map λt=>[D.str t]
theorem Z5j {l:List (List UInt8)} {i:Nat} (h:i<l.length):(strC l)[i]? = some [D.str (l.getD i [])]:=by grind [strC]
theorem Zp (l:List (List UInt8)):(strC l).length=l.length:=by simp[strC]
end Go.Sx
namespace Go.Sx.Lx
def ZtS:List (List UInt8):=[[58,45],[58,126],[58],[46,46],[46],[44],[59],[124],[40],[41],[123],[125],[91],[93],[61],[33,61],[60,61],[62,61],[60],[62],[43],[45],[42],[47],[92],[64]]
def Zhs (s:List UInt8):List UInt8:=(ZtS.find? (·.isPrefixOf s)).getD []
end Go.Sx.Lx
namespace Go.Sx.Lx
def ZnY (s:List UInt8):Int × Int:=if s=Zud then (4,0) else if Qm s=true then (1,0) else if Zk s=true then (2,0) else (0,31)
def dirs:List (List UInt8):=[[35,99,111,110,115,116],[35,115,104,111,119],[35,109,105,110,105,109,105,122,101],[35,99,111,117,110,116],[35,115,117,109]]
def numE (s:List UInt8):Int:=match Lib.atoiAll s with
 |.ok n=>if 2147483647<n then 32 else if Lib.itoa n=s then 0 else 32
 |_=>32
def tok (s:List UInt8):Int × List UInt8 × Int:=match s with
 |[]=>(0,[],0)
 |b::r =>
  if Zgc b ||Z0l b then ((ZnY (s.takeWhile Z0R)).1,s.takeWhile Z0R,(ZnY (s.takeWhile Z0R)).2)
  else if Z19 b then (3,s.takeWhile Z19,numE (s.takeWhile Z19))
  else if b == 35 then (5,35::r.takeWhile Zgc,if 35::r.takeWhile Zgc∈dirs then 0 else 31)
  else (6,Zhs s,if Zhs s=[] then 30 else 0)
end Go.Sx.Lx
namespace Go.Sx.Lx
abbrev Tk:=Int × List UInt8 × Int
def Zo0:Nat->Nat->List UInt8->List Tk × Option (Nat × Int) × Nat
 |0,o,_=>([],none,o)
 |_+1,o,[]=>([],none,o)
 |f+1,o,b::r =>
  if (tok (b::r)).2.2=0 then
   let n:=(tok (b::r)).2.1.length;let k:=skp false ((b::r).drop n);let q:=Zo0 f (o+n+k) ((b::r).drop (n+k))
   (((tok (b::r)).1,(tok (b::r)).2.1,(o:Int))::q.1,q.2)
  else ([],some (o,(tok (b::r)).2.2),o+(tok (b::r)).2.1.length)
end Go.Sx.Lx
namespace Go.Sx.Lx
end Go.Sx.Lx
namespace Go.Sx.Lx
def Zu7 (n m:Int):Int:=if n.tmod m<0 then n.tmod m+m else n.tmod m
end Go.Sx.Lx
/- All subterms of a term. -/
namespace Go.Sx
mutual
def Tm.all (h:Tm->Bool):Tm->Bool
 |.mk k n s l=>h (.mk k n s l) && Tm.allL h l
def Tm.allL (h:Tm->Bool):List Tm->Bool
 |[]=>true
 |a::r=>a.all h && Tm.allL h r
end
mutual
def Tm.depth:Tm->Nat
 |.mk _ _ _ l=>Tm.depthL l+1
def Tm.depthL:List Tm->Nat
 |[]=>0
 |a::r=>Nat.max a.depth (Tm.depthL r)
end
end Go.Sx
namespace Go.Sx
def Qi (k n:Int) (s:List UInt8) (len:Nat):Bool :=
 if k=1 then decide (-2147483647<=n) && decide (n<=2147483647) && decide (s=[]) && decide (len=0)
 else if k=2 then decide (n=0) && Lx.Qm s && decide (len=0)
 else if k=3 then decide (n=0) && Lx.Zk s && decide (len=0)
 else if k=4 then decide (n=0) && Lx.Qm s && decide (1<=len) && decide (len<=8)
 else if k=5 then decide (n=0) && (decide (s=[43]) ||decide (s=[45]) ||decide (s=[42]) ||decide (s=[47]) ||decide (s=[92])) && (decide (len=2) ||decide (s=[45]) && decide (len=1))
 else if k=6 then decide (n=0) && decide (s=[]) && decide (len=2)
 else false
def Tm.shape:Tm->Bool
 |.mk k n s l=>Qi k n s l.length
def Tm.valid (t:Tm):Bool:=decide (t.depth<=12) && t.all Tm.shape
end Go.Sx
/- Terms: plain,ground,their depth. -/
namespace Go.Sx
theorem Zm0 (h:Tm->Bool): ∀ l:List Tm,Tm.allL h l=l.all λx=>x.all h:=by intro l;induction l<;>grind [Tm.allL]
def Tm.plain:Tm->Bool
 |.mk k _ _ _=>decide (k=1) ||decide (k=2) ||decide (k=4)
def Tm.gr:Tm->Bool
 |.mk k _ _ _=>!decide (k=3)
mutual
theorem Zaa {h h':Tm->Bool} (H: ∀ y,h y=true->h' y=true): ∀ x:Tm,x.all h=true->x.all h'=true
 |.mk k n s l,hx=>by
  simp only[Tm.all,Bool.and_eq_true] at hx ⊢;exact⟨H _ hx.1,Z7k H l hx.2⟩
theorem Z7k {h h':Tm->Bool} (H: ∀ y,h y=true->h' y=true): ∀ l:List Tm,Tm.allL h l=true->Tm.allL h' l=true
 |[],_=>rfl
 |a::r,hl=>by
  simp only[Tm.allL,Bool.and_eq_true] at hl ⊢;exact⟨Zaa H a hl.1,Z7k H r hl.2⟩
end
theorem Z71 {M:Nat}: ∀ {l:List Tm},(∀ x∈l,x.depth<=M)->Tm.depthL l<=M
 |[],_=>by simp[Tm.depthL]
 |a::r,h=>by
  simp only[Tm.depthL];exact Nat.max_le.2 ⟨h a (List.mem_cons_self ..),Z71 λx hx=>h x (List.mem_cons_of_mem _ hx)⟩
theorem Z8m {l:List Tm} {x:Tm} (h:x∈l):x.depth<=Tm.depthL l:=by induction l<;>grind [Nat.le_max_left,Nat.le_trans,Nat.le_max_right,Tm.depthL]
theorem ZI {h:Tm->Bool} {k:Nat} {n:Int} {s:List UInt8} {l:List Tm}:(Tm.mk k n s l).all h=true ↔ h (.mk k n s l)=true/\ ∀ x∈l,x.all h=true:=by
 rw[Tm.all,Zm0,Bool.and_eq_true,List.all_eq_true]
def Tm.value (t:Tm):Bool:=t.all Tm.plain && t.valid
end Go.Sx
/- ARITHMETIC,PLAIN. -/
namespace Go.Sx
def Zu (n:Int):Bool:=decide (-2147483647<=n) && decide (n<=2147483647)
theorem ZD {n:Int}:Zu n=true ↔ -2147483647<=n/\n<=2147483647:=by simp[Zu]
def Z4k (op:List UInt8) (a b:Int):Option Int :=
 if op=[43] then some (a+b) else if op=[45] then some (a-b) else if op=[42] then some (a*b)
 else if op=[47] then (if b=0 then none else some (a.tdiv b)) else if op=[92] then (if b=0 then none else some (a.tmod b)) else none
def fitO (o:Option Int):Option Int:=match o with
 |some n=>if Zu n=true then some n else none
 |none=>none
def Z0p (op:List UInt8) (l:List Int):Option Int:=if l.all Zu=true then (match l with
 |[a]=>if op=[45] then some (-a) else none
 |[a,b]=>fitO (Z4k op a b)
 |_=>none) else none
def resT (o:Option Int):D:=.tuple [.int .i64 (o.getD 0),.bool o.isSome]
theorem ZkK {a b:Int} (ha:Zu a=true) (c:Zu b=true): -4611686014132420609<=a*b/\a*b<=4611686014132420609:=by
 rw[ZD] at ha c;have h1:(a*b).natAbs<=2147483647*2147483647:=by
  rw[Int.natAbs_mul];exact Nat.mul_le_mul (by omega) (by omega)
 omega
theorem Zfs {a b:Int} (ha:Zu a=true):Zu (a.tdiv b)=true:=by
 rw[ZD] at ha ⊢;have h1:(a.tdiv b).natAbs<=a.natAbs:=by
  rw[Int.natAbs_tdiv];exact Nat.div_le_self _ _
 omega
end Go.Sx
/- ALL ROWS OF LISTS,PLAIN. -/
namespace Go.Sx
def insI (n:Int) (a:List Int):List Int:=if n∈a then a else a++[n]
def intD (l:List Int):List D:=l.map (.int .i64)
theorem Z9s (n:Int): ∀ a:List Int,mput (.int .i64 n) (.int .i64 n) (intD a) (intD a)=some (intD (insI n a),intD (insI n a)):=by intro a;induction a<;>grind [intD,mput,keqD,insI]
theorem Zgf (n:Int) (a:List Int):a.length<=(insI n a).length:=by grind [insI]
def opB (s:List UInt8) (row a:List Int):List Int:=match Z0p s row with
 |some n=>insI n a
 |none=>a
theorem ZcE (s:List UInt8) (row a:List Int):a.length<=(opB s row a).length:=by
 unfold opB;split
 ·exact Zgf _ _
 ·grind
def Zh {α β:Type} (f:List α->β->β):List (List α)->Nat->List α × β->List α × β
 |[],_,p=>(p.1,f p.1 p.2)
 |l::ls,k,p=>l.foldl (λp x=>Zh f ls (k+1) (p.1.set k x,p.2)) p
theorem QI {α β:Type} {f:List α->β->β}: ∀ (ls:List (List α)) (k:Nat) (p:List α × β),(Zh f ls k p).1.length=p.1.length
 |[],_,_=>rfl
 |l::ls,k,p=>by
  simp only[Zh];have b:=QI (f:=f) ls (k+1);generalize Zh f ls (k+1)=g at b;revert p;intro p;induction l generalizing p with
  |nil=>rfl
  |cons x l a=>simp only[List.foldl_cons];rw[a,b];simp
theorem Z4U {α β:Type} {f:List α->β->β} {z:β->Nat} (c: ∀ r b,z b<=z (f r b)): ∀ (ls:List (List α)) (k:Nat) (p:List α × β),z p.2<=z (Zh f ls k p).2
 |[],_,p=>c _ _
 |l::ls,k,p=>by
  simp only[Zh];have d:=Z4U c ls (k+1);generalize Zh f ls (k+1)=g at d;revert p;intro p;induction l generalizing p with
  |nil=>exact Nat.le_refl _
  |cons x l a=>simp only[List.foldl_cons];exact Nat.le_trans (d (p.1.set k x,p.2)) (a _)
theorem Z09 {α β:Type} {f:List α->β->β} {z:β->Nat} (a: ∀ r b,z b<=z (f r b)) (ls:List (List α)) (k:Nat): ∀ (l:List α) (p:List α × β),z p.2<=z (l.foldl (λp x=>Zh f ls (k+1) (p.1.set k x,p.2)) p).2
 |[],p=>Nat.le_refl _
 |x::l,p=>by
  simp only[List.foldl_cons];exact Nat.le_trans (Z4U a ls (k+1) (p.1.set k x,p.2)) (Z09 a ls k l _)
def ZJ {α:Type}:List (List α)->List (List α)
 |[]=>[[]]
 |l::ls=>l.flatMap λx=>(ZJ ls).map (x:: ·)
theorem Z1C {α β:Type} (f:List α->β->β): ∀ (ls:List (List α)) (k:Nat) (row:List α) (b:β),k+ls.length=row.length->(Zh f ls k (row,b)).2=(ZJ ls).foldl (λb r=>f (row.take k++r) b) b/\(Zh f ls k (row,b)).1.take k=row.take k
 |[],k,row,b,h=>by
  simp only[List.length_nil,Nat.add_zero] at h;subst h;simp[Zh,ZJ]
 |l::ls,k,row,b,h=>by
  simp only[List.length_cons] at h;have d:=Z1C f ls (k+1);have hl:=QI (f:=f) ls (k+1);simp only[Zh,ZJ];generalize Zh f ls (k+1)=g at d hl ⊢;generalize hm:ZJ ls=m at d ⊢;clear hm
  suffices H: ∀ (l:List α) (row:List α) (b:β),k+(ls.length+1)=row.length->(l.foldl (λp x=>g (p.1.set k x,p.2)) (row,b)).2=(l.flatMap λx=>m.map (x:: ·)).foldl (λb r=>f (row.take k++r) b) b/\(l.foldl (λp x=>g (p.1.set k x,p.2)) (row,b)).1.take k=row.take k from H l row b h
  intro l;induction l with
  |nil=>intro row b _;exact⟨rfl,rfl⟩
  |cons x l e =>
   intro row b h;obtain⟨h1,h2⟩:=d (row.set k x) b (by simp;omega);have a:=hl (row.set k x,b);simp only[List.foldl_cons,List.flatMap_cons,List.foldl_append];have c:(g (row.set k x,b)).1.take k=row.take k:=by
    have:=congrArg (List.take k) h2;rw[List.take_take,List.take_take,Nat.min_eq_left (by omega)] at this;rw[this];exact List.take_set_of_le (Nat.le_refl k)
   obtain⟨i,j⟩:=e (g (row.set k x,b)).1 (g (row.set k x,b)).2 (by rw[a];simpa using h);rw[c] at i j;refine⟨?_,j⟩;rw[i,h1,List.foldl_map];have n:(row.set k x).take (k+1)=row.take k++[x]:=by
    rw[List.take_add_one];rw[List.take_set_of_le (Nat.le_refl k),List.getElem?_set_self (by omega)];rfl
   rw[n];simp only[List.append_assoc,List.singleton_append]
def numT (n:Int):Tm:=.mk 1 n [] []
def numC (l:List Int):List (List D):=l.map λn=>[.int .u8 1,.int .i64 n,.str [],.slice [] []]
theorem ZaU (l:List Int):numC l=Tm.cellsL (l.map numT):=by
 rw[Zn];simp[numC,numT,Tm.cells,Tm.cellsL]
def Tm.int? : Tm->Option Int
 |.mk k n _ _=>if k=1 then some n else none
def Zl (l:List Tm):List Int:=l.filterMap Tm.int?
theorem Z4P (k:Nat) (n:Int) (s:List UInt8) (a r:List Tm):Zl (.mk k n s a::r)=if k=1 then n::Zl r else Zl r:=by grind [Zl,Tm.int?]
theorem Z8e {n:Nat} {ix:List Nat} (c:ix.Nodup) (b: ∀ i∈ix,i<n) (hl:n<=ix.length) (i:Nat) (hi:i<n):i∈ix:=by
 by_cases h:i∈ix
 ·exact h
 ·have:=List.Nodup.length_le_of_subset (List.nodup_cons.2 ⟨h,c⟩) (l₂:=List.range n) (λj a=>by
   rcases List.mem_cons.1 a with rfl|a
   ·exact List.mem_range.2 hi
   ·exact List.mem_range.2 (b j a))
  simp at this;omega
theorem Zcz {a:List Int} {ix:List Nat} (d:ix.Nodup) (c: ∀ i∈ix,i<a.length) (b: ∀ i,i<a.length->i∈ix):(ix.map λi=>a.getD i 0).Perm a:=by
 have h:ix.Perm (List.range a.length):=(List.perm_ext_iff_of_nodup d List.nodup_range).2 λi=>⟨λhi=>List.mem_range.2 (c i hi),λhi=>b i (List.mem_range.1 hi)⟩;refine (h.map _).trans ?_;have e:(List.range a.length).map (λi=>a.getD i 0)=a:=by
  refine List.ext_getElem? λj=>?_;rw[List.getElem?_map];by_cases f:j<a.length
  ·simp[f]
  ·grind
 rw[e]
end Go.Sx
/- Texts in order. -/
namespace Go.Sx
theorem blt: ∀ (x y:List UInt8),Op.bytesLess x y=decide (x<y)
 |[],[]=>by simp[Op.bytesLess]
 |_::_,[]=>by simp[Op.bytesLess]
 |[],_::_=>by simp[Op.bytesLess]
 |a::x,b::y=>by
  rw[Op.bytesLess,blt x y];simp only[List.cons_lt_cons_iff];by_cases h1:a<b<;>by_cases h2:a=b<;>by_cases c:x<y<;>simp[h1,h2,c]
theorem ZcX {a b:List UInt8} (h:a<=b) (c:a≠b):a<b:=by grind
end Go.Sx
namespace Go.Sx
/- THE ORDER IS TRANSITIVE. -/
end Go.Sx
/- BINDINGS,PLAIN. -/
namespace Go.Sx
structure Bd where
 n:List UInt8
 v:Tm
def Bd.c (x:Bd):List D:=.str x.n::x.v.cells
def bdL (l:List Bd):List (List D):=l.map Bd.c
theorem Z1e (l:List Bd):(bdL l).length=l.length:=by simp[bdL]
theorem Z1f {l:List Bd} {i:Nat} (h:i<l.length):(bdL l)[i]? = some l[i].c:=by simp[bdL,h]
theorem ZlR (x:Bd):x.c.length=5:=by simp[Bd.c,Qq]
def okB:Option (List UInt8)->List Bd->Bool
 |_,[]=>true
 |p,x::r=>Lx.Zk x.n && x.v.value && (match p with
  |none=>true
  |some q=>decide (q<x.n)) && okB (some x.n) r
def ZP (b:List Bd):Bool:=okB none b
def srtB (b:List Bd):Prop:=b.Pairwise λx y=>x.n<y.n
theorem ZcI: ∀ (b:List Bd) (p:Option (List UInt8)),okB p b=true->srtB b/\(∀ x∈b,Lx.Zk x.n=true/\x.v.value=true)/\ ∀ q,p=some q-> ∀ x∈b,q<x.n
 |[],p,_=>⟨List.Pairwise.nil,λx h=>(by cases h),λq _ x h=>(by cases h)⟩
 |x::r,p,h=>by
  simp only[okB,Bool.and_eq_true] at h;obtain⟨⟨⟨h1,h2⟩,d⟩,e⟩:=h;obtain⟨g,i,c⟩:=ZcI r _ e;refine⟨List.pairwise_cons.2 ⟨λy a=>c _ rfl y a,g⟩,λy a=>?_,λq f y a=>?_⟩
  ·rcases List.mem_cons.1 a with rfl|a
   ·exact⟨h1,h2⟩
   ·exact i y a
  ·subst f;have hx:q<x.n:=of_decide_eq_true d;rcases List.mem_cons.1 a with rfl|a
   ·exact hx
   ·exact List.lt_trans hx (c _ rfl y a)
theorem ZhE: ∀ (b:List Bd) (p:Option (List UInt8)),srtB b->(∀ x∈b,Lx.Zk x.n=true/\x.v.value=true)->(∀ q,p=some q-> ∀ x∈b,q<x.n)->okB p b=true
 |[],p,_,_,_=>rfl
 |x::r,p,h1,h2,c=>by
  have h1:=List.pairwise_cons.1 h1;have hx:=h2 x (List.mem_cons_self ..);have e:=ZhE r (some x.n) h1.2 (λy a=>h2 y (List.mem_cons_of_mem _ a)) (λq d y a=>by cases d;exact h1.1 y a);simp only[okB,hx.1,hx.2,e,Bool.and_true,Bool.true_and];cases p with
  |none=>rfl
  |some q=>exact decide_eq_true (c q rfl x (List.mem_cons_self ..))
theorem Q8 {b:List Bd}:ZP b=true ↔ srtB b/\ ∀ x∈b,Lx.Zk x.n=true/\x.v.value=true:=by grind [ZcI,ZhE,Bd,ZP,srtB]
def posB (b:List Bd) (s:List UInt8):Nat:=(b.takeWhile λx=>decide (x.n<s)).length
theorem Z2j (x:Bd) (r:List Bd) (s:List UInt8):posB (x::r) s=if x.n<s then posB r s+1 else 0:=by grind [List.takeWhile_cons_of_pos,List.takeWhile_cons_of_neg,posB]
theorem Zcy (b:List Bd) (s:List UInt8):posB b s<=b.length:=by
 induction b with
 |nil=>exact Nat.le_refl _
 |cons x r a =>
  rw[Z2j,List.length_cons];split<;>omega
theorem Z9i: ∀ {b:List Bd} {s:List UInt8},srtB b-> ∀ (i:Nat) (h:i<b.length),b[i].n<s ↔ i<posB b s
 |[],s,_,i,h=>by simp at h
 |x::r,s,hs,i,h=>by
  have hs:=List.pairwise_cons.1 hs;rw[Z2j];by_cases hx:x.n<s
  ·rw[if_pos hx];cases i with
   |zero=>simpa using hx
   |succ i =>
    have:=Z9i (s:=s) hs.2 i (by simpa using h);simp only[List.getElem_cons_succ];rw[this];omega
  ·rw[if_neg hx];refine⟨λhi=>?_,λhi=>by omega⟩;cases i with
   |zero=>exact absurd (by simpa using hi) hx
   |succ i =>
    simp only[List.getElem_cons_succ] at hi;exact absurd (List.lt_trans (hs.1 _ (List.getElem_mem _)) hi) hx
def getB (b:List Bd) (s:List UInt8):Option Tm:=(b.find? λx=>decide (x.n=s)).map Bd.v
theorem Z3Y (x:Bd) (r:List Bd) (s:List UInt8):getB (x::r) s=if x.n=s then some x.v else getB r s:=by grind [getB]
theorem Z4M (a:List UInt8): ¬ a<a:=List.lt_irrefl a
theorem Z3m: ∀ {b:List Bd} {s:List UInt8},srtB b->getB b s=match b[posB b s]? with
  |some x=>if x.n=s then some x.v else none
  |none=>none
 |[],s,_=>rfl
 |x::r,s,hs=>by
  have hs:=List.pairwise_cons.1 hs;rw[Z3Y,Z2j];by_cases hx:x.n<s
  ·have c: ¬ x.n=s:=λe=>Z4M s (e ▸ hx);rw[if_neg c,if_pos hx,Z3m hs.2,List.getElem?_cons_succ]
  ·rw[if_neg hx,List.getElem?_cons_zero];simp only;by_cases a:x.n=s
   ·rw[if_pos a,if_pos a]
   ·rw[if_neg a,if_neg a];unfold getB;have:r.find? (λx=>decide (x.n=s))=none:=by
     rw[List.find?_eq_none];intro y d e;have e:y.n=s:=of_decide_eq_true e
     have:=hs.1 y d;rw[e] at this;exact hx this
    rw[this];rfl
def Z1J (b:List Bd) (s:List UInt8) (v:Tm):List Bd:=b.take (posB b s)++⟨s,v⟩::b.drop (posB b s)
theorem Z6M (x:Bd) (r:List Bd) (s:List UInt8) (v:Tm):Z1J (x::r) s v=if x.n<s then x::Z1J r s v else⟨s,v⟩::x::r:=by grind [Z2j,Z1J]
theorem Z9M (b:List Bd) (s:List UInt8) (v:Tm):(Z1J b s v).length=b.length+1:=by grind [Z1J]
theorem Z1y {b:List Bd} {s:List UInt8} {v:Tm} {x:Bd}:x∈Z1J b s v ↔ x=⟨s,v⟩\/x∈b:=by induction b<;>grind [Z6M,Z1J,posB]
theorem Z9L: ∀ {b:List Bd} {s:List UInt8} {v:Tm},srtB b->getB b s=none->srtB (Z1J b s v)
 |[],s,v,_,_=>List.pairwise_singleton ..
 |x::r,s,v,hs,f=>by
  have a:=List.pairwise_cons.1 hs;rw[Z3Y] at f;have g: ¬ x.n=s:=λe=>by rw[if_pos e] at f;cases f
  rw[if_neg g] at f;rw[Z6M];by_cases hx:x.n<s
  ·rw[if_pos hx];refine List.pairwise_cons.2 ⟨λy c=>?_,Z9L a.2 f⟩;rcases Z1y.1 c with rfl|c
   ·exact hx
   ·exact a.1 y c
  ·rw[if_neg hx];have d:s<x.n:=ZcX (List.not_lt.1 hx) λe=>g e.symm;refine List.pairwise_cons.2 ⟨λy c=>?_,hs⟩;rcases List.mem_cons.1 c with rfl|c
   ·exact d
   ·exact List.lt_trans d (a.1 y c)
theorem Z3n: ∀ {b:List Bd},srtB b-> ∀ {x:Bd},x∈b->getB b x.n=some x.v
 |[],_,x,h=>by cases h
 |y::r,hs,x,h=>by
  have hs:=List.pairwise_cons.1 hs;rw[Z3Y];rcases List.mem_cons.1 h with rfl|h
  ·rw[if_pos rfl]
  ·have a:=hs.1 x h;rw[if_neg (λe:y.n=x.n=>Z4M x.n (by rw[e] at a;exact a))];exact Z3n hs.2 h
theorem Z1a {b:List Bd} {s:List UInt8} {v:Tm} (h:getB b s=some v):⟨s,v⟩∈b:=by
 unfold getB at h;cases hf:b.find? (λx=>decide (x.n=s)) with
 |none=>rw[hf] at h;cases h
 |some x =>
  rw[hf] at h;cases h;have h1:=List.mem_of_find?_eq_some hf;have h2:=List.find?_some hf;have h2:x.n=s:=of_decide_eq_true h2;rw[<- h2];exact h1
def QV (b:List Bd) (s:List UInt8) (v:Tm):Option (List Bd):=if (ZP b && (Lx.Zk s && v.value))=true then (match getB b s with
 |some w=>if w.eqb v=true then some b else none
 |none=>some (Z1J b s v)) else none
theorem Z1F {b:List Bd} {s:List UInt8} {v:Tm} {c:List Bd} (h:QV b s v=some c):ZP c=true/\getB c s=some v/\(∀ x∈b,getB c x.n=some x.v)/\c.length=b.length+(if (getB b s).isSome=true then 0 else 1):=by
 unfold QV at h;split at h
 ·rename_i hc;simp only[Bool.and_eq_true] at hc;obtain⟨f,hs,hv⟩:=hc;have a:=(Q8.1 f).1;split at h
  ·rename_i w d;split at h
   ·rename_i e;have e:=ZdC.1 e;subst e;cases h;exact⟨f,d,λx hx=>Z3n a hx,by rw[d];rfl⟩
   ·cases h
  ·rename_i d;cases h;have h1:=Z9L (v:=v) a d;have h2:ZP (Z1J b s v)=true:=Q8.2 ⟨h1,λx hx=>by
    rcases Z1y.1 hx with rfl|hx
    ·exact⟨hs,hv⟩
    ·exact (Q8.1 f).2 x hx⟩
   refine⟨h2,?_,λx hx=>Z3n h1 (Z1y.2 (.inr hx)),by rw[Z9M,d];rfl⟩
   have:=Z3n h1 (x:=⟨s,v⟩) (Z1y.2 (.inl rfl));exact this
 ·cases h
def apK (b:List Bd) (k:Nat) (n:Int) (s:List UInt8) (l:List Tm):Tm:=if k=3 then (match getB b s with
 |some v=>v
 |none=>.mk k n s l) else .mk k n s l
mutual
def Tm.ap (b:List Bd):Tm->Tm
 |.mk k n s l=>apK b k n s (Tm.apL b l)
def Tm.apL (b:List Bd):List Tm->List Tm
 |[]=>[]
 |a::r=>a.ap b::Tm.apL b r
end
theorem Zel (b:List Bd): ∀ l:List Tm,Tm.apL b l=l.map (Tm.ap b):=by intro l;induction l<;>grind [Tm.apL]
mutual
theorem Zsd {B:Nat} {b:List Bd} (a: ∀ x∈b,x.v.wf B): ∀ t:Tm,t.wf B->(t.ap b).wf B
 |.mk k n s l,h=>by
  simp only[Tm.wf] at h;obtain⟨h1,h2,c,d,e,f⟩:=h;have hl:(Tm.mk k n s (Tm.apL b l)).wf B:=by
   simp only[Tm.wf];exact⟨h1,h2,c,d,by rw[Zel,List.length_map];exact e,Zi3 a l f⟩
  rw[Tm.ap];unfold apK;split
  ·split
   ·rename_i v hv;exact a _ (Z1a hv)
   ·exact hl
  ·exact hl
theorem Zi3 {B:Nat} {b:List Bd} (c: ∀ x∈b,x.v.wf B): ∀ l:List Tm,Tm.wfL B l->Tm.wfL B (Tm.apL b l)
 |[],_=>trivial
 |a::r,h=>by
  simp only[Tm.wfL] at h;simp only[Tm.apL,Tm.wfL];exact⟨Zsd c a h.1,Zi3 c r h.2⟩
end
def smB:List Bd->Int->Int
 |[],n=>n
 |x::r,n=>if n<=150 then smB r (n+x.v.sz 150) else n
def opD:Option Tm->D
 |some v=>.tuple [.agg v.cells,.bool true]
 |none=>.tuple [.agg [.int .u8 0,.int .i64 0,.str [],.slice [] []],.bool false]
def getV (b:List Bd) (s:List UInt8):Option Tm:=if ZP b=true then getB b s else none
end Go.Sx
/- BINDINGS ARE READ. -/
namespace Go.Sx
open Go.RowKit Go.Deep Go.ChangeShapes Go.WideShapes
def Bd.wf (B:Nat) (x:Bd):Prop:=x.n.length<=B/\x.v.wf B
structure IsBd (P:Program) (U T:TypeId) (fs:Array Field) (f0 f1:Field):Prop where
 u:P.underlying U=some (.struct fs)
 l:fs.toList=[f0,f1]
 o0:f0.offset=0
 o1:f1.offset=1
 c0:P.cellsOf f0.type=1
 c1:P.cellsOf f1.type=4
 c:P.cellsOf U=5
 b:0<P.bytesOf U
 t:f1.type=T
 u0:P.underlying f0.type=some .string
variable {H:Type} {enc:TypeId × Value->H} {P:Program} {w:World}
section
variable [Globs] [Codes]
end
end Go.Sx
/- AN OWN ROW THAT A CALL HANDS BACK IS NO MORE WRITTEN TO. -/
namespace Go.Sx
open Go.RowKit
variable [Globs] [Codes]
variable {P:Program}
def memF (φ:Mem) (g n:Nat) (xs:List Value):Mem:=λb o=>if b=g then (if o<n then xs[o]? else none) else φ b o
theorem CallL.frz {d:D} {args:List D} {ob:Obs} {sz:Nat} {e:TypeId} {es:List (List D)} {i0:Nat} (hc:CallL P d args ob λr o=>r=.vec i0/\o=[(i0,.arr false sz e es)]):CallL P d args ob λr o=>r=.vec i0/\o=[(i0,.arr true sz e es)]:=by
 intro F Y n φ h w v vs hp hv S;refine (hc F Y n φ h w v vs hp hv S).mono ?_;intro e' w' t;obtain⟨u,r0,ob0,φ',h',rfl,⟨rfl,rfl⟩,G,ha⟩:=t.dest λr o hr=>by rw[hr.1];rfl
 have O:=ha.loc.obj i0 (.arr false sz e es) (by simp[lk]);obtain⟨h0,hsz,xs,l,hrep,J⟩:=O;rcases l.2 with⟨C,W⟩|⟨g,cap,cur,R,hge,hblk,hn,hcap,hcs,Q⟩
 ·-- nothing V
  have L:blk (h' i0)=none:=by rw[C];rfl
  refine .ret ⟨rfl,rfl⟩ (φ':=φ') (h':=h') G ⟨⟨ha.loc.one,ha.loc.glob.sub λb ⟨i,hi,K⟩=>?_,ha.loc.mem,λi o k=>?_,λi j b hi B K hbj=>?_⟩,ha.ext,ha.new,ha.frame,ha.hfix,ha.os,ha.tape,ha.output,ha.grow⟩
  ·grind [List.getElem?_take_of_lt,lk,blk,memF,ZOf,hx]
  ·simp only[lk] at k;split at k
   ·rename_i e;subst e;cases k;exact⟨h0,hsz,xs,l,hrep,λb f=>by rw[L] at f;cases f⟩
   ·cases k
  ·simp only[lk] at hi B;split at hi
   ·grind
   ·cases hi
 ·have a:blk (h' i0)=some g:=by rw[R];rfl
  obtain⟨E,p⟩:=J g a;have p: ∀ o,φ' g o=none:=λo=>by rw[p o];simp
  obtain⟨φ2,q⟩: ∃ m,m=memF φ' g (es.length*sz) xs:=⟨_,rfl⟩;have s: ∀ b o,b≠g->φ2 b o=φ' b o:=λb o J=>by rw[q];exact if_neg J
  have c: ∀ b o v,φ' b o=some v->φ2 b o=some v:=λb o v hv=>by
   grind
  have I: ∀ o,φ2 g o=if o<es.length*sz then xs[o]? else none:=λo=>by rw[q];exact if_pos rfl
  have A: ∀ b,ZOf [(i0,Ob.arr true sz e es)] h' b->ZOf [(i0,Ob.arr false sz e es)] h' b:=by
   grind [List.getElem?_take_of_lt,lk,blk,memF,ZOf,hx]
  have M: ∀ o,o<es.length*sz->w'.cell? ⟨g,o,none⟩=xs[o]? :=λo k=>by
   have h1:(cur.toList.take (es.length*sz))[o]? = xs[o]? :=by rw[Q]
   rw[List.getElem?_take_of_lt k,Array.getElem?_toList] at h1;simp only[World.cell?,hblk];rw[<- h1];simp
  refine .ret ⟨rfl,rfl⟩ (φ':=φ2) (h':=h') (G.mono c) ⟨⟨ha.loc.one,⟨λz cs N=>(ha.loc.glob.ok z cs N).mono c,λz arr hx=>?_,λz hx=>?_⟩,λb o u X=>?_,λi o k=>?_,λi j b hi B _ _=>?_⟩,λb o v hv=>c _ _ _ (ha.ext b o v hv),λb o u h1 h2=>?_,ha.frame,λi hi=>ha.hfix i hi,ha.os,ha.tape,ha.output,ha.grow⟩
  ·obtain⟨T,U⟩:=ha.loc.glob.x z arr hx;exact⟨T,λy=>U (A _ y)⟩
  ·obtain⟨T,U⟩:=ha.loc.glob.i z hx;exact⟨T,λy=>U (A _ y)⟩
  ·by_cases a:b=g
   ·grind
   ·rw[s b o a] at X;exact ha.loc.mem b o u X
  ·simp only[lk] at k;split at k
   ·rename_i e;subst e;cases k;refine⟨h0,hsz,xs,l,λi x j d hi B=>(hrep i x j d hi B).mono c,λb f=>?_⟩;rw[a] at f;cases f;exact⟨E,λo=>by rw[I o];simp⟩
   ·cases k
  ·simp only[lk] at hi B;split at hi
   ·grind
   ·cases hi
  ·by_cases a:b=g
   ·exact a ▸ E
   ·rw[s b o a] at h1;exact ha.new b o u h1 h2
end Go.Sx
/- A ROW THAT IS HANDED BACK,AS PLAIN DATA. -/
namespace Go.Sx
open Go.RowKit
variable [Globs] [Codes]
variable {P:Program}
theorem CallL.vecR {d:D} {args:List D} {ob ob0:Obs} {sz k:Nat} {e:TypeId} {es:List (List D)} (hk:lk ob0 k=none) (hc:CallL P d args ob λr o=>r=.vec k/\o=ob0++[(k,.arr true sz e es)]):CallL P d args ob λr o=>r=.slice es []/\o=ob0:=by
 intro F q n φ h w v vs hp hv m;refine (hc F q n φ h w v vs hp hv m).mono ?_;intro y w' c;obtain⟨u,r0,ob1,φ',h',rfl,⟨rfl,rfl⟩,l,ha⟩:=c.dest λr o hr=>by rw[hr.1];rfl
 have f: ∀ i o,lk ob0 i=some o->lk (ob0++[(k,Ob.arr true sz e es)]) i=some o:=λi o g=>by rw[Z08,g];rfl
 have a: ∀ i,(lk ob0 i).isSome->(lk (ob0++[(k,Ob.arr true sz e es)]) i).isSome:=λi hi=>by
  obtain⟨o,g⟩:=Option.isSome_iff_exists.1 hi;rw[f i o g];rfl
 have x: ∀ b,ZOf ob0 h' b->ZOf (ob0++[(k,Ob.arr true sz e es)]) h' b:=λb ⟨i,hi,s⟩=>⟨i,a i hi,s⟩;have h2:=Z4a (obs:=lk (ob0++[(k,Ob.arr true sz e es)])) (λi o hi _=>ha.loc.obj i o hi) l;have p:dvt (lk (ob0++[(k,Ob.arr true sz e es)])) (.vec k)=.slice es []:=by
  have hl:lk (ob0++[(k,Ob.arr true sz e es)]) k=some (.arr true sz e es):=by rw[Z08,hk];simp[lk]
  simp only[dvt,dv,hl]
 rw[p] at h2;exact .ret ⟨rfl,rfl⟩ h2 ⟨⟨ha.loc.one,ha.loc.glob.sub x,ha.loc.mem,λi o g=>ha.loc.obj i o (f i o g),λi j b hi t=>ha.loc.sep i j b (a i hi) (a j t)⟩,ha.ext,ha.new,ha.frame,ha.hfix,ha.os,ha.tape,ha.output,ha.grow⟩
end Go.Sx
/- EVALUATION OF TERMS WITHOUT INTERVALS,PLAIN. -/
namespace Go.Sx
def ZcM:List Tm->Option (List Int)
 |[]=>some []
 |a::r=>match a.int?,ZcM r with
  |some n,some l=>some (n::l)
  |_,_=>none
def Zvn (a:Option Tm) (r:Option (List Tm)):Option (List Tm):=match a,r with
 |some x,some l=>some (x::l)
 |_,_=>none
def evK (k:Nat) (s:List UInt8) (o:Option (List Tm)):Option Tm:=match o with
 |none=>none
 |some vs=>if k=5 then (match ZcM vs with
  |some l=>(Z0p s l).map numT
  |none=>none) else some (.mk 4 0 s vs)
mutual
def Tm.ev:Tm->Option Tm
 |.mk k n s l=>if l.isEmpty=true then some (.mk k n s []) else evK k s (Tm.evL l)
def Tm.evL:List Tm->Option (List Tm)
 |[]=>some []
 |a::r=>Zvn a.ev (Tm.evL r)
end
def Tm.ns:Tm->Bool
 |.mk k _ _ _=>!decide (k=6)
def Tm.eval (t:Tm):Option Tm:=if (t.valid && (t.all Tm.gr && t.all Tm.ns))=true then t.ev else none
def Tm.ex (t:Tm):List Tm:=t.ev.toList
theorem Zbk {s:List UInt8} {l:List Int} {n:Int} (h:Z0p s l=some n):Zu n=true:=by
 unfold Z0p at h;split at h
 ·rename_i hf;split at h
  ·grind [ZD,Z0p,Zu,fitO]
  ·unfold fitO at h;split at h
   ·grind
   ·cases h
  ·cases h
 ·cases h
theorem ZaA {k:Nat} {n:Int} {s:List UInt8} {l:List Tm} (h:Tm.shape (.mk k n s l)=true) (hl:l≠[]) (a:k≠6):k=4/\n=0/\Lx.Qm s=true/\l.length<=8\/k=5:=by grind [Tm.shape,Qi]
theorem ZaT {n:Int} (h:Zu n=true):(numT n).all Tm.plain=true/\(numT n).all Tm.shape=true/\(numT n).depth=1:=by
 rw[ZD] at h;refine⟨rfl,?_,rfl⟩;simp[numT,Tm.all,Tm.allL,Tm.shape,Qi,h.1,h.2]
theorem Z21 {t:Tm}:t.valid=true ↔ t.depth<=12/\t.all Tm.shape=true:=by simp[Tm.valid]
def Tm.sp (t:Tm):Bool:=!t.all Tm.ns
theorem Qc (a b:List Tm):Tm.cellsL (a++b)=Tm.cellsL a++Tm.cellsL b:=by simp[Zn]
theorem Z1D (row:List Tm) (i b:Nat) (nx:Int) (c:List UInt8) (a:List Tm):(Tm.cellsL row).set i [.int .u8 (b:Int),.int .i64 nx,.str c,.slice (Tm.cellsL a) []]=Tm.cellsL (row.set i (.mk b nx c a)):=by
 rw[Zn row,Zn (row.set i _),List.map_set];rfl
def outF (s:List UInt8) (row a:List Tm):List Tm:=a++[.mk 4 0 s row]
theorem Z3k (s:List UInt8) (row a:List Tm):a.length<=(outF s row a).length:=by simp[outF]
theorem Zb8 (s:List UInt8): ∀ (l:List (List Tm)) (a:List Tm),l.foldl (λb r=>outF s ([]++r) b) a=a++l.map (λr=>.mk 4 0 s r):=by intro l;induction l<;>grind [outF]
theorem Zdn (s:List UInt8) (L:List (List Tm)) (row:List Tm) (h:row.length=L.length):(Zh (outF s) L 0 (row,[])).2=(ZJ L).map (λr=>.mk 4 0 s r):=by grind [Z1C,Zb8,outF]
theorem Z0u {α:Type}: ∀ L:List (List α),(ZJ L).length=(L.map List.length).prod
 |[]=>rfl
 |l::ls=>by
  rw[ZJ,List.map_cons,List.prod_cons,<- Z0u ls];induction l with
  |nil=>simp
  |cons a r b=>simp only[List.flatMap_cons,List.length_append,List.length_map,List.length_cons,b,Nat.succ_mul,Nat.add_comm]
end Go.Sx
