/- Own work: a layer over the kit: plain data,a walk over it,its soundness. -/
import Derived.Lib.Bytealg
import Derived.Lib.AtoiAll
import Derived.Lib.ItoaNum
import Derived.Lib.Join
import Derived.Test.YtecgehidegnmnaaGreatDoorSx7
set_option linter.all false
namespace Go.Sx
open Go.RowKit
variable [Globs] [Codes]
/- AN OPERATION COMES TO ONE END. -/
section
variable {P:Program} {dst:Nat} {obs:Nat->Option Ob} {K:D->Option Ob->Prop}
theorem Zas {op:BinOp} {k:IntKind} {a b:Int} {K:D->Prop} (h:binI op k a b K): ∃ d,K d/\ ∀ K':D->Prop,K' d->binI op k a b K':=by
 cases op<;>simp only[binI] at h<;>first|exact h.elim|exact⟨_,h,λK' c=>c⟩|exact⟨_,h.2,λK' c=>⟨h.1,c⟩⟩
theorem Zaq {op:BinOp} {a b:List UInt8} {K:D->Prop} (h:binS op a b K): ∃ d,K d/\ ∀ K':D->Prop,K' d->binS op a b K':=by
 cases op<;>simp only[binS] at h<;>first|exact h.elim|exact⟨_,h,λK' c=>c⟩|exact⟨_,h.2,λK' c=>⟨h.1,c⟩⟩
theorem Zcl {d:D} (h:evl P dst .b2s [d] obs K): ∃ a nb,K a nb/\ ∀ K':D->Option Ob->Prop,K' a nb->evl P dst .b2s [d] obs K':=by
 simp only[evl] at h ⊢;cases b:Z1Z obs d with
 |none=>rw[b] at h;exact h.elim
 |some es=>rw[b] at h;exact⟨_,_,h.2,λK' c=>⟨h.1,c⟩⟩
theorem Zb9 {agg:Bool} {sz id i j a:Nat} (h:evl P dst (.load agg sz) [.vptr id i j a] obs K): ∃ c nb,K c nb/\ ∀ K':D->Option Ob->Prop,K' c nb->evl P dst (.load agg sz) [.vptr id i j a] obs K':=by
 simp only[evl] at h ⊢;cases g:obs id with
 |none=>rw[g] at h;exact h.elim
 |some o =>
  rw[g] at h;cases o with
  |cells _=>exact h.elim
  |gen _ _=>exact h.elim
  |arr fz k e es =>
   cases fz with
   |true=>exact h.elim
   |false =>
    simp only at h ⊢;have h2:=h.2.2;cases hi:es[i]? with
    |none=>rw[hi] at h2;exact h2.elim
    |some cs =>
     rw[hi] at h2;cases agg with
     |true=>exact⟨_,_,h2,λK' b=>⟨h.1,h.2.1,b⟩⟩
     |false =>
      simp only[Bool.false_eq_true,if_false] at h2 ⊢;cases f:cs[j]? with
      |none=>rw[f] at h2;exact h2.elim
      |some d=>rw[f] at h2;exact⟨_,_,h2,λK' b=>⟨h.1,h.2.1,b⟩⟩
theorem Z7M {kd:Option IntKind} {z key:D} {id:Nat} (h:evl P dst (.mlook kd z) [.map id,key] obs K): ∃ a nb,K a nb/\ ∀ K':D->Option Ob->Prop,K' a nb->evl P dst (.mlook kd z) [.map id,key] obs K':=by
 simp only[evl] at h ⊢;cases b:obs id with
 |none=>rw[b] at h;exact h.elim
 |some o =>
  rw[b] at h;cases o with
  |cells _=>exact h.elim
  |arr _ _ _ _=>exact h.elim
  |gen g ds =>
   cases g with
   |loop=>exact h.elim
   |mapC=>exact h.elim
   |mapB=>exact h.elim
   |mapS=>exact h.elim
   |iter=>exact h.elim
   |map ks =>
    simp only at h ⊢;cases hf:Z2r key ks ds with
    |none=>rw[hf] at h;exact h.2.elim
    |some r=>rw[hf] at h;exact⟨_,_,h.2,λK' c=>⟨h.1,c⟩⟩
theorem Z70 {op:AOp} {xs:List D} (h:evl P dst op xs obs K): ∃ d nb,K d nb/\ ∀ K':D->Option Ob->Prop,K' d nb->evl P dst op xs obs K':=by
 by_cases k:op=.b2s/\ ∃ d,xs=[d]
 ·obtain⟨rfl,d,rfl⟩:=k;exact Zcl h
 by_cases hl:(∃ a s,op=.load a s)/\ ∃ a b c d,xs=[.vptr a b c d]
 ·obtain⟨⟨_,_,rfl⟩,_,_,_,_,rfl⟩:=hl;exact Zb9 h
 by_cases g:(∃ a s,op=.mlook a s)/\ ∃ a b,xs=[.map a,b]
 ·obtain⟨⟨_,_,rfl⟩,_,_,rfl⟩:=g;exact Z7M h
 unfold evl at h;split at h;all_goals try exact absurd ⟨rfl,_,rfl⟩ k
 all_goals try exact absurd ⟨⟨_,_,rfl⟩,_,_,_,_,rfl⟩ hl
 all_goals try exact absurd ⟨⟨_,_,rfl⟩,_,_,rfl⟩ g
 all_goals clear k hl g
 all_goals try simp only[evl]
 all_goals first
  |exact h.elim
  |(obtain⟨d,e,i⟩:=Zas h.2;exact⟨d,none,e,λK' f=>⟨h.1,i _ f⟩⟩)
  |(obtain⟨d,e,i⟩:=Zaq h;exact⟨d,none,e,λK' f=>i _ f⟩)
  |exact⟨_,_,h,λK' e=>e⟩
  |exact⟨_,_,h.2,λK' e=>⟨h.1,e⟩⟩
  |exact⟨_,_,h.2.2,λK' e=>⟨h.1,h.2.1,e⟩⟩
  |exact⟨_,_,h.2.2.2,λK' e=>⟨h.1,h.2.1,h.2.2.1,e⟩⟩
  |skip
 all_goals first
  |(obtain⟨r,hr,f⟩:=h;cases r<;>exact⟨_,_,f,λK' e=>⟨_,hr,e⟩⟩)
  |skip
 all_goals
  repeat' split at h
 all_goals first
  |exact h.elim
  |exact⟨_,_,h,λK' e=>by simp only[*];exact e⟩
  |exact⟨_,_,h,λK' e=>by simp[*]⟩
  |exact⟨_,_,h.2,λK' e=>by simp only[*];exact⟨h.1,e⟩⟩
  |exact⟨_,_,h.2,λK' e=>by simp only[*];exact⟨trivial,e⟩⟩
  |exact⟨_,_,h.2.2,λK' e=>by simp only[*];exact⟨h.1,h.2.1,e⟩⟩
  |exact⟨_,_,h.2.2.2,λK' e=>by simp only[*];exact⟨h.1,h.2.1,h.2.2.1,e⟩⟩
  |exact⟨_,_,h.2.2.2.2,λK' e=>by simp only[*];exact⟨h.1,h.2.1,h.2.2.1,h.2.2.2.1,e⟩⟩
  |skip
 all_goals first
  |exact⟨_,_,h.2,λK' e=>⟨h.1,e⟩⟩
  |exact⟨_,_,h.2.2.2,λK' e=>⟨h.1,h.2.1,h.2.2.1,e⟩⟩
  |exact⟨_,_,h.2.2.2.2,λK' e=>⟨h.1,h.2.1,h.2.2.1,h.2.2.2.1,e⟩⟩
  |(rename_i j;subst j;exact⟨_,_,h.2,λK' e=>⟨h.1,e⟩⟩)
end
def repl (t:Nat) (d:D):Env->Env
 |[]=>[]
 |(j,x)::r=>if t=j then (j,d)::r else (j,x)::repl t d r
theorem Z0Z {t:Nat} {d:D}: ∀ {l:Env},lk l t=some d->repl t d l=l
 |[],h=>by cases h
 |(j,x)::r,h=>by
  simp only[lk] at h;simp only[repl];split at h
  ·rename_i a;cases h;rw[if_pos a]
  ·rename_i a;rw[if_neg a,Z0Z h]
def gudT (g:Option (Nat × Bool)) (s:St) (body skip:St->Tr):Tr:=match g with
 |none=>body s
 |some (t,a)=>match lk s.tm t with
  |some (.bool b)=>match a with
   |true=>brT b (body ⟨repl t (.bool true) s.tm,s.ob⟩) (skip ⟨repl t (.bool false) s.tm,s.ob⟩)
   |false=>brT b (skip ⟨repl t (.bool true) s.tm,s.ob⟩) (body ⟨repl t (.bool false) s.tm,s.ob⟩)
  |some (.tuple [])=>skip s
  |_=>.bad
section
variable {R:D->Obs->Prop} {J:List Fr->St->Prop} {P:Program}
theorem Z0n {g:Option (Nat × Bool)} {s:St} {body skip:St->Tr} (h:(gudT g s body skip).ok R J):((body s).ok R J/\ ∀ p q:Prop,p->gud g s p q)\/((skip s).ok R J/\ ∀ p q:Prop,q->gud g s p q):=by
 cases g with
 |none=>exact .inl ⟨h,λp q hp=>hp⟩
 |some a =>
  obtain⟨t,w⟩:=a;simp only[gudT] at h;simp only[gud];split at h
  ·rename_i b heq;rw[heq];split at h
   ·rcases Z57 h with⟨rfl,h⟩|⟨rfl,h⟩
    ·rw[Z0Z heq] at h;exact .inl ⟨h,λp q hp=>by simpa using hp⟩
    ·rw[Z0Z heq] at h;exact .inr ⟨h,λp q hp=>by simpa using hp⟩
   ·rcases Z57 h with⟨rfl,h⟩|⟨rfl,h⟩
    ·rw[Z0Z heq] at h;exact .inr ⟨h,λp q hp=>by simpa using hp⟩
    ·rw[Z0Z heq] at h;exact .inl ⟨h,λp q hp=>by simpa using hp⟩
  ·rename_i heq;rw[heq];exact .inr ⟨h,λp q hp=>hp⟩
  ·exact h.elim
end
def stT0 (sz:SK) (x y:D) (obs:Nat->Option Ob) (K:Nat->Ob->Tr):Tr:=match stO sz x y obs with
 |some (a,b,id,o)=>match x with
  |.ptr .. =>K id o
  |.map .. =>K id o
  |_=>.owe (a<b) (K id o)
 |none=>.bad
theorem Ze0 {sz:SK} {a b id i off:Nat} {y:D} {o:Ob} {obs:Nat->Option Ob} (h:stO sz (.ptr i off) y obs=some (a,b,id,o)):a<b:=by
 unfold stO at h;cases sz with
 |m key=>cases h
 |k kd x=>cases h
 |cp _ _=>cases h
 |c sz =>
 simp only at h;split at h
 ·split at h
  ·cases h;decide
  ·cases h
 ·cases h
theorem Ze1 {sz:SK} {a b id i:Nat} {y:D} {o:Ob} {obs:Nat->Option Ob} (h:stO sz (.map i) y obs=some (a,b,id,o)):a<b:=by
 unfold stO at h;cases sz with
 |c sz=>cases h
 |k kd x=>cases h
 |cp _ _=>cases h
 |m key =>
 simp only at h;split at h
 ·split at h
  ·cases h;decide
  ·cases h
 ·split at h
  ·split at h
   ·cases h;decide
   ·cases h
  ·cases h
 ·cases h
theorem Z8D {sz:SK} {x y:D} {obs:Nat->Option Ob} {K:Nat->Ob->Tr} {R:D->Obs->Prop} {J:List Fr->St->Prop} (h:(stT0 sz x y obs K).ok R J): ∃ a b id o,stO sz x y obs=some (a,b,id,o)/\a<b/\(K id o).ok R J:=by
 unfold stT0 at h;split at h
 ·rename_i a b id o c;split at h
  ·exact⟨_,_,id,o,c,Ze0 c,h⟩
  ·exact⟨_,_,id,o,c,Ze1 c,h⟩
  ·exact⟨_,_,id,o,c,h.1,h.2⟩
 ·exact h.elim
def xN:X->Nat
 |.t n=>n
 |.c _=>0
def stT (tb:Ctr) (n:Nat) (sz:SK) (x y:D) (obs:Nat->Option Ob) (K:Nat->Ob->Tr):Tr:=match tb.E n (-1) with
 |[.agg b,.agg a]=>(match x with
  |.map id=>match sz with
   |.m key=>match obs id with
    |some (.gen (.map ks) ds)=>.owe (mput key y ks ds=some (b,a)) (K id (.gen (.map b) a))
    |some (.gen (.mapC ks cs) [])=>if Z1l y=true then .owe (mput key y ks cs=some (b,a)) (K id (.gen (.mapC b a) [])) else .bad
    |_=>.bad
   |_=>.bad
  |_=>stT0 sz x y obs K)
 |_=>stT0 sz x y obs K
theorem Zdf {tb:Ctr} {n:Nat} {sz:SK} {x y:D} {obs:Nat->Option Ob} {K:Nat->Ob->Tr} {R:D->Obs->Prop} {J:List Fr->St->Prop} (h:(stT tb n sz x y obs K).ok R J): ∃ a b id o,stO sz x y obs=some (a,b,id,o)/\a<b/\(K id o).ok R J:=by
 unfold stT at h;split at h
 ·split at h
  ·split at h
   ·split at h
    ·rename_i heq;refine⟨0,1,_,_,?_,by decide,h.2⟩;simp only[stO,heq,h.1]
    ·rename_i heq;split at h
     ·rename_i hv;refine⟨0,1,_,_,?_,by decide,h.2⟩;simp only[stO,heq,if_pos hv,h.1]
     ·exact h.elim
    ·exact h.elim
   ·exact h.elim
  ·exact Z8D h
 ·exact Z8D h
def panT (r:D) (Kp:Value->Tr) (K:Tr):Tr:=match r with
 |.pan v=>Kp v
 |_=>K
theorem Z2K {R:D->Obs->Prop} {J:List Fr->St->Prop} {r:D} {Kp:Value->Tr} {K:Tr} (h:(panT r Kp K).ok R J):(r.isPan=false/\K.ok R J)\/ ∃ v,r=.pan v/\(Kp v).ok R J:=by
 cases r<;>first|exact .inl ⟨rfl,h⟩|exact .inr ⟨_,rfl,h⟩
def opT (tb:Ctr) (b:Nat) (o:SOp) (s:St) (K:St->Tr):Tr :=
 match o with
 |.a dst g op xs=>gudT g s (λs=>evT tb (dst.getD 0) (b+dst.getD 0) op (xs.map s.get) (lk s.ob) λd nb=>match nb with
   |none=>K (s.put dst d)
   |some ob=>match dst with
    |some t=>if s.clean (b+t)=true then K (s.put2 t (b+t) d ob) else .bad
    |none=>.bad) (λs=>K (s.put dst .nov))
 |.st g sz x y=>gudT g s (λs=>stT tb (xN x) (sz.at s) (s.get x) (s.get y) (lk s.ob) λid o=>K {s with ob:=(id,o)::Za id s.ob}) (λs=>K s)
 |.app dst g fz sz a x y=>gudT g s (λs=>match Z3i (lk s.ob) (s.get y) with
   |some (ys,_)=>(match s.get x with
    |.nils=>if s.clean (b+dst)=true then .owe (Zk sz ys/\ys.length<=1073741824) (K (s.put2 dst (b+dst) (.vec (b+dst)) (.arr fz sz a ys))) else .bad
    |.vec id=>match lk s.ob id with
     |some (.arr c e h es)=>if e=sz/\h=a/\s.clean (b+dst)=true then .owe (Zk sz ys/\es.length+ys.length<=1073741824) (K (St.put2 ⟨s.tm,Za id s.ob⟩ dst (b+dst) (.vec (b+dst)) (.arr c sz a (es++ys)))) else .bad
     |_=>.bad
    |_=>.bad)
   |none=>.bad) (λs=>K (s.put (some dst) .nov))
 |.cd dst g x xs=>gudT g s
   (λs =>
     let f:=xs.map λy=>dva (s.get x) (lk s.ob) (s.get y);let nm:=Z1u s (s.get x::f)
     if Z0s nm=true then (match tb.C (dst.getD 0) ((s.get x).ren (idx · nm)) (f.map (D.ren (idx · nm))) (Q4 s.ob (idx · nm) 0 nm) with
      |some rt=>rtT rt λr ob'=>panT r (λ_=>.bad) (K ((s.back (s.base b) nm ob').put dst (r.ren (bkN (s.base b) nm))))
      |none=>.bad) else .bad)
   (λs=>K (s.put dst .nov))
section
variable {R:D->Obs->Prop} {J:List Fr->St->Prop} {P:Program}
theorem Zdl {tb:Ctr} (k:tb.OK P) {b:Nat} {o:SOp} {s:St} {K:St->Tr} (h:(opT tb b o s K).ok R J): ∃ s',(∀ K':St->Prop,K' s'->stp P b o s K')/\(K s').ok R J:=by
 cases o with
 |a dst g op xs =>
  simp only[opT] at h;rcases Z0n h with⟨h,e⟩|⟨h,e⟩
  ·obtain⟨d,nb,f,u⟩:=Z70 (Zdr k h);cases nb with
   |none=>exact⟨s.put dst d,λK' c=>e _ _ (u _ c),f⟩
   |some ob =>
    cases dst with
    |none=>exact f.elim
    |some t =>
     simp only at f;split at f
     ·rename_i hc;exact⟨_,λK' c=>e _ _ (u _ ⟨hc,c⟩),f⟩
     ·exact f.elim
  ·exact⟨_,λK' c=>e _ _ c,h⟩
 |st g sz x y =>
  simp only[opT] at h;rcases Z0n h with⟨h,e⟩|⟨h,e⟩
  ·obtain⟨C,E,id,ob,q,l,h⟩:=Zdf h;exact⟨_,λK' c=>e _ _ (by simp only[q];exact⟨l,c⟩),h⟩
  ·exact⟨_,λK' c=>e _ _ c,h⟩
 |app dst g fz sz G x y =>
  simp only[opT] at h;rcases Z0n h with⟨h,e⟩|⟨h,e⟩
  ·split at h
   ·rename_i ys ext j;split at h
    ·rename_i hx;split at h
     ·rename_i hc;exact⟨_,λK' c=>e _ _ (by simp only[hx,j];exact⟨h.1.1,h.1.2,hc,c⟩),h.2⟩
     ·exact h.elim
    ·rename_i id hx;split at h
     ·rename_i v B F es hl;split at h
      ·rename_i hc;exact⟨_,λK' c=>e _ _ (by simp only[hx,j,hl];exact⟨h.1.1,hc.1,hc.2.1,h.1.2,hc.2.2,c⟩),h.2⟩
      ·exact h.elim
     ·exact h.elim
    ·exact h.elim
   ·exact h.elim
  ·exact⟨_,λK' c=>e _ _ c,h⟩
 |cd dst g x xs =>
  simp only[opT] at h;rcases Z0n h with⟨h,e⟩|⟨h,e⟩
  ·split at h
   ·rename_i m;split at h
    ·rename_i rt p;obtain⟨r,ob',hc,f⟩:=Z2i (k.C _ _ _ _ _ p) h;have z:b+4096<=s.base b:=Nat.le_max_left ..;have A:s.top<=s.base b:=Nat.le_max_right ..;rcases Z2K f with⟨n,f⟩|⟨_,_,f⟩
     ·exact⟨_,λK' c=>e _ _ ⟨_,_,s.base b,Zx m,λi hi=>ZO i hi,z,A,hc,λr0 ob0 hr=>by rw[hr.1,hr.2];exact⟨n,c⟩⟩,f⟩
     ·exact f.elim
    ·exact h.elim
   ·exact h.elim
  ·exact⟨_,λK' c=>e _ _ c,h⟩
end
def opsT (tb:Ctr) (b:Nat):List SOp->St->(St->Tr)->Tr
 |[],s,K=>K s
 |o::l,s,K=>opT tb b o s λs=>opsT tb b l s K
def hasT (tb:Ctr) (b:Nat) (o:SOp) (s:St) (K:St->Eff->Tr):Tr :=
 match o with
 |.a dst g op xs=>gudT g s (λs=>evT tb (dst.getD 0) (b+dst.getD 0) op (xs.map s.get) (lk s.ob) λd nb=>match nb with
   |none=>K s ⟨rdA (lk s.ob) op (xs.map s.get),dst.map (·,d),[],none⟩
   |some ob=>if dst.isSome then K s ⟨rdA (lk s.ob) op (xs.map s.get),dst.map (·,d),[(b+dst.getD 0,some ob)],none⟩ else .bad) (λs=>K s ⟨[],dst.map (·,.nov),[],none⟩)
 |.st g sz x y=>gudT g s (λs=>stT tb (xN x) (sz.at s) (s.get x) (s.get y) (lk s.ob) λid o=>K s ⟨[id],none,[(id,some o)],none⟩) (λs=>K s ⟨[],none,[],none⟩)
 |.app dst g fz sz a x y=>gudT g s (λs=>match Z3i (lk s.ob) (s.get y) with
   |some (ys,_)=>(match s.get x with
    |.nils=>.owe (Zk sz ys/\ys.length<=1073741824) (K s ⟨vids [s.get y],some (dst,.vec (b+dst)),[(b+dst,some (.arr fz sz a ys))],none⟩)
    |.vec id=>match lk s.ob id with
     |some (.arr c e h es)=>if e=sz/\h=a then .owe (Zk sz ys/\es.length+ys.length<=1073741824) (K s ⟨id::vids [s.get y],some (dst,.vec (b+dst)),[(b+dst,some (.arr c sz a (es++ys))),(id,none)],none⟩) else .bad
     |_=>.bad
    |_=>.bad)
   |none=>.bad) (λs=>K s ⟨[],some (dst,.nov),[],none⟩)
 |.cd dst g x xs=>gudT g s
   (λs =>
     let f:=xs.map λy=>dva (s.get x) (lk s.ob) (s.get y);let nm:=Z1u s (s.get x::f)
     if Z0s nm=true then (match tb.C (dst.getD 0) ((s.get x).ren (idx · nm)) (f.map (D.ren (idx · nm))) (Q4 s.ob (idx · nm) 0 nm) with
      |some rt=>rtT rt λr ob'=>panT r (λ_=>.bad) (K s ⟨nm++vids (xs.map s.get),dst.map (·,r.ren (bkN (s.base b) nm)),(renO (λj=>match nm[j]? with|some i=>i|none=>s.base b+j) (bkN (s.base b) nm) ob').map (λp=>(p.1,some p.2))++nm.map (·,none),some (s.base b)⟩)
      |none=>.bad) else .bad)
   (λs=>K s ⟨[],dst.map (·,.nov),[],none⟩)
def caT (tb:Ctr) (b:Nat):List SOp->St->(List Eff->St->Tr)->Tr
 |[],s,K=>K [] s
 |o::l,s,K=>hasT tb b o s λs e=>caT tb b l (s.app e) λes s=>K (e::es) s
section
variable {R:D->Obs->Prop} {J:List Fr->St->Prop} {P:Program}
theorem Z2L {tb:Ctr} (a:tb.OK P) {b:Nat} {K:St->Tr}: ∀ {ops:List SOp} {s:St},(opsT tb b ops s K).ok R J-> ∃ s',(∀ K':St->Prop,K' s'->stps P b ops s K')/\(K s').ok R J
 |[],s,h=>⟨s,λK' c=>c,h⟩
 |o::l,s,h=>by
  obtain⟨s1,h1,d⟩:=Zdl a h;obtain⟨f,h2,e⟩:=Z2L a d;exact⟨f,λK' c=>h1 _ (h2 _ c),e⟩
theorem Z9J {tb:Ctr} (k:tb.OK P) {b:Nat} {o:SOp} {s:St} {K:St->Eff->Tr} (h:(hasT tb b o s K).ok R J): ∃ e,Has P b o s e/\(K s e).ok R J:=by
 cases o with
 |a dst g op xs =>
  simp only[hasT] at h;rcases Z0n h with⟨h,c⟩|⟨h,c⟩
  ·obtain⟨d,nb,f,t⟩:=Z70 (Zdr k h);cases nb with
   |none=>exact⟨_,c _ _ ⟨rfl,rfl,t _ ⟨rfl,rfl⟩⟩,f⟩
   |some ob =>
    simp only at f;split at f
    ·rename_i hc;exact⟨_,c _ _ ⟨rfl,rfl,t _ ⟨rfl,hc,rfl⟩⟩,f⟩
    ·exact f.elim
  ·exact⟨_,c _ _ rfl,h⟩
 |st g sz x y =>
  simp only[hasT] at h;rcases Z0n h with⟨h,c⟩|⟨h,c⟩
  ·obtain⟨A,B,id,ob,q,l,h⟩:=Zdf h;exact⟨_,c _ _ (by simp only[HasB,q];exact⟨l,trivial⟩),h⟩
  ·exact⟨_,c _ _ rfl,h⟩
 |app dst g fz sz E x y =>
  simp only[hasT] at h;rcases Z0n h with⟨h,c⟩|⟨h,c⟩
  ·split at h
   ·rename_i ys ext j;split at h
    ·rename_i hx;exact⟨_,c _ _ (by simp only[HasB,hx,j];exact⟨h.1.1,h.1.2,trivial⟩),h.2⟩
    ·rename_i id hx;split at h
     ·rename_i u z C es hl;split at h
      ·rename_i hc;exact⟨_,c _ _ (by simp only[HasB,hx,j,hl];exact⟨h.1.1,hc.1,hc.2,h.1.2,trivial⟩),h.2⟩
      ·exact h.elim
     ·exact h.elim
    ·exact h.elim
   ·exact h.elim
  ·exact⟨_,c _ _ rfl,h⟩
 |cd dst g x xs =>
  simp only[hasT] at h;rcases Z0n h with⟨h,c⟩|⟨h,c⟩
  ·split at h
   ·rename_i m;split at h
    ·rename_i rt p;obtain⟨r,ob',hc,f⟩:=Z2i (k.C _ _ _ _ _ p) h;have v:b+4096<=s.base b:=Nat.le_max_left ..;rcases Z2K f with⟨n,f⟩|⟨_,_,f⟩
     ·exact⟨_,c _ _ ⟨_,r,ob',s.base b,Zx m,λi hi=>ZO i hi,v,hc,n,rfl⟩,f⟩
     ·exact f.elim
    ·exact h.elim
   ·exact h.elim
  ·exact⟨_,c _ _ rfl,h⟩
theorem Zan {tb:Ctr} (a:tb.OK P) {b:Nat}: ∀ {ops:List SOp} {s:St} {K:List Eff->St->Tr},(caT tb b ops s K).ok R J-> ∃ es s',Z5a P b ops s es s'/\(K es s').ok R J
 |[],s,K,h=>⟨[],s,rfl,h⟩
 |o::l,s,K,h=>by
  obtain⟨e,h1,c⟩:=Z9J a h;obtain⟨es,f,h2,d⟩:=Zan a c;exact⟨e::es,f,⟨h1,h2⟩,d⟩
end
def opXT (tb:Ctr) (b:Nat) (o:SOp) (s:St) (K:St->Tr) (Kp:Value->St->Tr):Tr :=
 match o with
 |.cd dst g x xs=>gudT g s
   (λs =>
     let a:=xs.map λy=>dva (s.get x) (lk s.ob) (s.get y);let nm:=Z1u s (s.get x::a)
     if Z0s nm=true then (match tb.C (dst.getD 0) ((s.get x).ren (idx · nm)) (a.map (D.ren (idx · nm))) (Q4 s.ob (idx · nm) 0 nm) with
      |some rt=>rtT rt λr ob'=>panT r (λv=>Kp v (s.back (s.base b) nm ob')) (K ((s.back (s.base b) nm ob').put dst (r.ren (bkN (s.base b) nm))))
      |none=>.bad) else .bad)
   (λs=>K (s.put dst .nov))
 |.a none g .pnk [x]=>gudT g s (λs=>match s.get x with
   |.raw v=>(match v with
    |.iface t u=>Kp (.iface t u) s
    |_=>.bad)
   |_=>.bad) (λs=>K s)
 |o=>opT tb b o s K
def Zfv (tb:Ctr) (b:Nat):List SOp->St->(St->Tr)->(Value->St->Tr)->Tr
 |[],s,K,_=>K s
 |o::l,s,K,Kp=>opXT tb b o s (λs=>Zfv tb b l s K Kp) Kp
section
variable {R:D->Obs->Prop} {J:List Fr->St->Prop} {P:Program}
theorem Zfx {tb:Ctr} (m:tb.OK P) {b:Nat} {o:SOp} {s:St} {K:St->Tr} {Kp:Value->St->Tr} (h:(opXT tb b o s K Kp).ok R J) :
  (∃ s',(∀ (Kn:St->Prop) (Kq:Value->St->Prop),Kn s'->stpX P b o s Kn Kq)/\(K s').ok R J)\/ ∃ v s',(∀ (Kn:St->Prop) (Kq:Value->St->Prop),Kq v s'->stpX P b o s Kn Kq)/\(Kp v s').ok R J:=by
 have f:(opT tb b o s K).ok R J-> ∃ s',(∀ (Kn:St->Prop) (Kq:Value->St->Prop),Kn s'->stpX P b o s Kn Kq)/\(K s').ok R J:=λh=>by
  obtain⟨s',h1,h2⟩:=Zdl m h;exact⟨s',λKn Kq k=>Z8A (h1 Kn k),h2⟩
 cases o with
 |st g sz x y=>exact .inl (f h)
 |app dst g fz sz e x y=>exact .inl (f h)
 |cd dst g x xs =>
  simp only[opXT] at h;rcases Z0n h with⟨h,j⟩|⟨h,j⟩
  ·split at h
   ·rename_i l;split at h
    ·rename_i rt p;obtain⟨r,ob',hc,k⟩:=Z2i (m.C _ _ _ _ _ p) h;have q:b+4096<=s.base b:=Nat.le_max_left ..;have A:s.top<=s.base b:=Nat.le_max_right ..;rcases Z2K k with⟨n,k⟩|⟨v,rfl,k⟩
     ·exact .inl ⟨_,λK' Kq c=>j _ _ ⟨_,_,s.base b,Zx l,λi hi=>ZO i hi,q,A,hc,λr0 ob0 hr=>.inl (by rw[hr.1,hr.2];exact⟨n,c⟩)⟩,k⟩
     ·exact .inr ⟨v,_,λK' Kq c=>j _ _ ⟨_,_,s.base b,Zx l,λi hi=>ZO i hi,q,A,hc,λr0 ob0 hr=>.inr ⟨v,hr.1,by rw[hr.2];exact c⟩⟩,k⟩
    ·exact h.elim
   ·exact h.elim
  ·exact .inl ⟨_,λK' Kq c=>j _ _ c,h⟩
 |a dst g op xs =>
  by_cases z:dst=none/\op=.pnk/\ ∃ x,xs=[x]
  ·obtain⟨rfl,rfl,x,rfl⟩:=z;simp only[opXT] at h;rcases Z0n h with⟨h,j⟩|⟨h,j⟩
   ·split at h
    ·rename_i v hv;split at h
     ·rename_i t u;exact .inr ⟨_,s,λK' Kq c=>j _ _ ⟨t,u,hv,c⟩,h⟩
     ·exact h.elim
    ·exact h.elim
   ·exact .inl ⟨s,λK' Kq c=>j _ _ c,h⟩
  ·refine .inl (f ?_);cases dst with
   |some d=>exact h
   |none=>cases op<;>first|exact h|(cases xs with
     |nil=>exact h
     |cons x r=>cases r with
      |nil=>exact absurd ⟨rfl,rfl,x,rfl⟩ z
      |cons _ _=>exact h)
theorem Z6G {tb:Ctr} (e:tb.OK P) {b:Nat} {K:St->Tr} {Kp:Value->St->Tr}: ∀ {ops:List SOp} {s:St},(Zfv tb b ops s K Kp).ok R J →
  (∃ s',(∀ (Kn:St->Prop) (Kq:Value->St->Prop),Kn s'->Z1U P b ops s Kn Kq)/\(K s').ok R J)\/ ∃ v s',(∀ (Kn:St->Prop) (Kq:Value->St->Prop),Kq v s'->Z1U P b ops s Kn Kq)/\(Kp v s').ok R J
 |[],s,h=>.inl ⟨s,λ_ _ a=>a,h⟩
 |o::l,s,h=>by
  rcases Zfx e h with⟨s1,h1,c⟩|⟨v,s1,h1,c⟩
  ·rcases Z6G e c with⟨f,h2,d⟩|⟨v,f,h2,d⟩
   ·exact .inl ⟨f,λKn Kq a=>h1 _ _ (h2 _ _ a),d⟩
   ·exact .inr ⟨v,f,λKn Kq a=>h1 _ _ (h2 _ _ a),d⟩
  ·exact .inr ⟨v,s1,λKn Kq a=>h1 _ _ a,c⟩
end
def ZbW (tb:Ctr) (b:Nat) (o:SOp) (s:St) (K:St->Eff × Option (Nat × Nat × D)->Tr):Tr :=
 match o with
 |.a (some t) none (.load false 1) [x]=>(match s.get x with
  |.ptr id off=>(match lk s.ob id with
   |some (.cells cs)=>(match cs[off]? with
    |some (.vec m)=>K s (⟨[],some (t,.vec m),[],none⟩,some (id,off,.vec m))
    |some (.int k n)=>K s (⟨[],some (t,.int k n),[],none⟩,some (id,off,.int k n))
    |_=>hasT tb b o s λs e=>K s (e,none))
   |_=>hasT tb b o s λs e=>K s (e,none))
  |_=>hasT tb b o s λs e=>K s (e,none))
 |_=>hasT tb b o s λs e=>K s (e,none)
def ZfR (tb:Ctr) (b:Nat) (o:SOp) (s:St) (K:St->Eff × Option (Nat × Nat × D)->Tr) (Kp:Value->St->Eff × Option (Nat × Nat × D)->Tr):Tr :=
 match o with
 |.cd dst none x xs =>
  let a:=xs.map λy=>dva (s.get x) (lk s.ob) (s.get y);let nm:=Z1u s (s.get x::a)
  if Z0s nm=true then (match tb.C (dst.getD 0) ((s.get x).ren (idx · nm)) (a.map (D.ren (idx · nm))) (Q4 s.ob (idx · nm) 0 nm) with
   |some rt=>rtT rt λr ob'=>panT r (λv=>Kp v s (⟨nm++vids (xs.map s.get),none,[],some (s.base b)⟩,none))
     (K s (⟨nm++vids (xs.map s.get),dst.map (·,r.ren (bkN (s.base b) nm)),(renO (λj=>match nm[j]? with|some i=>i|none=>s.base b+j) (bkN (s.base b) nm) ob').map (λp=>(p.1,some p.2))++nm.map (·,none),some (s.base b)⟩,none))
   |none=>.bad) else .bad
 |_=>ZbW tb b o s K
def caPT (tb:Ctr) (b:Nat) (pre:List Nat) (c:Nat):Nat->List SOp->St->(List (Eff × Option (Nat × Nat × D))->Tr)->Tr
 |_,[],_,K=>K []
 |k,o::r,s,K=>match Qb pre c k with
  |true=>caPT tb b pre c (k+1) r s λqs=>K ((⟨[],none,[],none⟩,none)::qs)
  |false=>ZbW tb b o s λs q=>caPT tb b pre c (k+1) r (s.app q.1) λqs=>K (q::qs)
def caOT (tb:Ctr) (b:Nat) (pre:List Nat):Nat->List SOp->St->(List (Eff × Option (Nat × Nat × D))->St->Tr)->(Nat->Value->List (Eff × Option (Nat × Nat × D))->Tr)->Tr
 |_,[],s,K,_=>K [] s
 |k,o::r,s,K,Kp=>ZfR tb b o s (λs q=>caOT tb b pre (k+1) r (s.app q.1) (λqs s'=>K (q::qs) s') λc v qs=>match Qb pre c k with
   |true=>.bad
   |false=>Kp c v (q::qs)) (λv s q=>caPT tb b pre k (k+1) r (s.app q.1) λqs=>Kp k v (q::qs))
section
variable {R:D->Obs->Prop} {J:List Fr->St->Prop} {P:Program}
theorem Z6V {tb:Ctr} (c:tb.OK P) {b:Nat} {o:SOp} {s:St} {K:St->Eff × Option (Nat × Nat × D)->Tr} (h:(ZbW tb b o s K).ok R J): ∃ q,HasC P b o s q/\(K s q).ok R J:=by
 have a:(hasT tb b o s λs e=>K s (e,none)).ok R J-> ∃ q,HasC P b o s q/\(K s q).ok R J:=λh=>by
  obtain⟨e,h1,h2⟩:=Z9J c h;exact⟨(e,none),h1,h2⟩
 unfold ZbW at h;split at h
 ·rename_i t x;split at h
  ·rename_i id off hx;split at h
   ·rename_i cs d;split at h
    ·rename_i m hm;exact⟨(⟨[],some (t,.vec m),[],none⟩,some (id,off,.vec m)),⟨hx,rfl⟩,h⟩
    ·rename_i k n hm;exact⟨(⟨[],some (t,.int k n),[],none⟩,some (id,off,.int k n)),⟨hx,rfl⟩,h⟩
    ·exact a h
   ·exact a h
  ·exact a h
 ·exact a h
theorem ZbV {tb:Ctr} (d:tb.OK P) {b:Nat} {o:SOp} {s:St} {K:St->Eff × Option (Nat × Nat × D)->Tr} {Kp:Value->St->Eff × Option (Nat × Nat × D)->Tr} (h:(ZfR tb b o s K Kp).ok R J) :
  (∃ q,HasC P b o s q/\(K s q).ok R J)\/ ∃ v q,HasPn P b o s v q.1/\(Kp v s q).ok R J:=by
 unfold ZfR at h;split at h
 ·rename_i dst x xs;simp only at h;split at h
  ·rename_i c;split at h
   ·rename_i rt f;obtain⟨r,ob',hc,a⟩:=Z2i (d.C _ _ _ _ _ f) h;have g:b+4096<=s.base b:=Nat.le_max_left ..;rcases Z2K a with⟨e,a⟩|⟨v,rfl,a⟩
    ·exact .inl ⟨(_,none),(show HasB P b (.cd dst none x xs) s _ from⟨_,r,ob',s.base b,Zx c,λi hi=>ZO i hi,g,hc,e,rfl⟩),a⟩
    ·exact .inr ⟨v,(_,none),⟨_,s.base b,Zx c,λi hi=>ZO i hi,g,hc.mono λ_ _ hr=>hr.1,rfl⟩,a⟩
   ·exact h.elim
  ·exact h.elim
 ·exact .inl (Z6V d h)
theorem Z60 {tb:Ctr} (d:tb.OK P) {b:Nat} {pre:List Nat} {c:Nat} {v:Value}: ∀ {ops:List SOp} {k:Nat} {s:St} {K:List (Eff × Option (Nat × Nat × D))->Tr},c<k->(caPT tb b pre c k ops s K).ok R J-> ∃ qs s',Z3g P b pre (some (c,v)) k ops s qs s'/\(K qs).ok R J
 |[],k,s,K,_,h=>⟨[],s,rfl,h⟩
 |o::l,k,s,K,i,h=>by
  simp only[caPT] at h;split at h
  ·rename_i e;obtain⟨qs,g,h2,a⟩:=Z60 d (by omega) h;exact⟨(⟨[],none,[],none⟩,none)::qs,g,⟨(show if k=c then _ else if Qb pre c k=true then _ else _ from by rw[if_neg (by omega),if_pos e]),h2⟩,a⟩
  ·rename_i e;obtain⟨q,h1,f⟩:=Z6V d h;obtain⟨qs,g,h2,a⟩:=Z60 d (by omega) f;exact⟨q::qs,g,⟨by simp only[HasO];rw[if_neg (by omega),if_neg (by simp[e])];exact h1,h2⟩,a⟩
theorem Zao {tb:Ctr} (e:tb.OK P) {b:Nat} {pre:List Nat}: ∀ {ops:List SOp} {k:Nat} {s:St} {K:List (Eff × Option (Nat × Nat × D))->St->Tr} {Kp:Nat->Value->List (Eff × Option (Nat × Nat × D))->Tr},(caOT tb b pre k ops s K Kp).ok R J →
  (∃ qs s',Z3g P b pre none k ops s qs s'/\(K qs s').ok R J)\/ ∃ c v qs s',k<=c/\c<k+ops.length/\Z3g P b pre (some (c,v)) k ops s qs s'/\(Kp c v qs).ok R J
 |[],k,s,K,Kp,h=>.inl ⟨[],s,rfl,h⟩
 |o::l,k,s,K,Kp,h=>by
  rcases ZbV e h with⟨q,h1,d⟩|⟨v,q,h1,d⟩
  ·rcases Zao e d with⟨qs,f,h2,a⟩|⟨c,v,qs,f,i,j,h2,a⟩
   ·exact .inl ⟨q::qs,f,⟨h1,h2⟩,a⟩
   ·split at a
    ·exact a.elim
    ·rename_i g;refine .inr ⟨c,v,q::qs,f,by omega,by simp only[List.length_cons];omega,⟨?_,h2⟩,a⟩;simp only[HasO];rw[if_neg (by omega),if_neg (by simp[g])];exact h1
  ·obtain⟨qs,f,h2,a⟩:=Z60 (v:=v) e (Nat.lt_succ_self k) d;exact .inr ⟨k,v,q::qs,f,Nat.le_refl _,by simp only[List.length_cons];omega,⟨(show if k=k then _ else _ from by rw[if_pos rfl];exact h1),h2⟩,a⟩
end
end Go.Sx
namespace Go.Sx
open Go.RowKit
variable [Globs] [Codes]
def swF (P:Program):Nat->Nat->List Fr->St->(Exit->St->Prop)->Prop
 |0,_,_,_,_=>False
 |n+1,bs,K,s,Q=>match K with
  |[]=>Q .normal s
  |.blk _::K=>swF P n bs K s Q
  |.sc c::K=>match c with
   |.skip=>swF P n bs K s Q
   |.ret=>Q .ret s
   |.exit i=>match Z10 i K with
    |some K'=>swF P n bs K' s Q
    |none=>Q (.exit i) s
   |.reg ops=>stps P (s.nx bs) ops s λs'=>swF P n bs K s' Q
   |.drw pre ops=>∃ es s',Z5a P (s.nx bs) ops s es s'/\dchk (s.nx bs) pre ops es s=true/\swF P n bs K s' Q
   |.seq a b=>swF P n bs (.sc a:: .sc b::K) s Q
   |.cond x a b=>match s.get x with
    |.bool t=>swF P n bs (.sc (if t=true then a else b)::K) s Q
    |_=>False
   |.block id c=>swF P n bs (.sc c:: .blk id::K) s Q
   |.loop ts c=>swF P n bs (.sc c:: .sc (.loop ts c)::K) (s.canon bs ts) Q
   |.spec k=>spS P bs k (λe s'=>match e with
    |.normal=>swF P n bs K s' Q
    |.ret=>Q .ret s'
    |.exit i=>match Z10 i K with
     |some K'=>swF P n bs K' s' Q
     |none=>Q (.exit i) s'
    |.panic c=>Q (.panic c) s'
    |_=>False) s
   |.rangeF N g ps a b=>sw P bs (.rangeF N g ps a b) (λe s'=>match e with
    |.normal=>swF P n bs K s' Q
    |.ret=>Q .ret s'
    |.exit i=>match Z10 i K with
     |some K'=>swF P n bs K' s' Q
     |none=>Q (.exit i) s'
    |.panic c=>Q (.panic c) s'
    |_=>False) s
section
variable {P:Program}
def Zfo (P:Program) (m bs:Nat) (K:List Fr) (ex:Exit) (s:St) (Q:Exit->St->Prop):Prop:=match ex with
 |.normal=>swF P m bs K s Q
 |.ret=>Q .ret s
 |.exit i=>match Z10 i K with
  |some K'=>swF P m bs K' s Q
  |none=>Q (.exit i) s
 |.panic c=>Q (.panic c) s
 |_=>False
theorem Z8x: ∀ (n bs:Nat) (c:SC) (K:List Fr) (s:St) (Q:Exit->St->Prop),swF P n bs (.sc c::K) s Q->sw P bs c (λex s1=>∃ m,m<n/\Zfo P m bs K ex s1 Q) s:=by
 intro n;induction n using Nat.strongRecOn with
 |_ n d =>
  intro bs c K s Q h;cases n with
  |zero=>cases h
  |succ n =>
   cases c with
   |spec k =>
    simp only[swF] at h;exact Z41 (Q:=λe s'=>match e with
     |.normal=>swF P n bs K s' Q
     |.ret=>Q .ret s'
     |.exit i=>match Z10 i K with
      |some K'=>swF P n bs K' s' Q
      |none=>Q (.exit i) s'
     |.panic c=>Q (.panic c) s'
     |_=>False) h λex s1 hr=>⟨n,Nat.lt_succ_self n,by cases ex<;>exact hr⟩
   |skip=>exact⟨n,Nat.lt_succ_self n,h⟩
   |ret=>exact⟨n,Nat.lt_succ_self n,h⟩
   |exit i=>exact⟨n,Nat.lt_succ_self n,h⟩
   |reg ops=>exact Z0U (K:=λs'=>swF P n bs K s' Q) h λs' j=>⟨n,Nat.lt_succ_self n,j⟩
   |drw pre ops =>
    obtain⟨es,s',h1,h2,l⟩:=h;exact⟨es,s',h1,h2,n,Nat.lt_succ_self n,l⟩
   |seq a b =>
    show sw P bs a (thenS (sw P bs b _) _) s;refine ZI (d n (Nat.lt_succ_self n) bs a _ s Q h) λex s1 ⟨m,hm,hr⟩=>?_;cases ex<;>simp only[thenS]
    ·exact ZI (d m (by omega) bs b K s1 Q hr) λex r ⟨q,p,f⟩=>⟨q,by omega,f⟩
    ·exact⟨m,by omega,hr⟩
    ·exact hr.elim
    ·exact⟨m,by omega,hr⟩
    all_goals first|exact⟨m,by omega,hr⟩|exact hr.elim
   |cond x a b =>
    simp only[swF] at h;simp only[sw];split at h
    ·rename_i t hx;cases t
     ·rw[if_neg (by simp)] at h;rw[hx];simp only[Bool.false_eq_true,if_false];exact ZI (d n (Nat.lt_succ_self n) bs b K s Q h) λex s1 ⟨m,hm,hr⟩=>⟨m,by omega,hr⟩
     ·rw[if_pos rfl] at h;rw[hx];simp only[if_true];exact ZI (d n (Nat.lt_succ_self n) bs a K s Q h) λex s1 ⟨m,hm,hr⟩=>⟨m,by omega,hr⟩
    ·exact h.elim
   |block id c =>
    show sw P bs c (Z0E id _) s;refine ZI (d n (Nat.lt_succ_self n) bs c _ s Q h) λex s1 ⟨m,hm,hr⟩=>?_;cases ex<;>simp only[Z0E]
    ·cases m with
     |zero=>cases hr
     |succ m=>exact⟨m,by omega,hr⟩
    ·rename_i i;simp only[Zfo,Z10] at hr;split
     ·rename_i hi;rw[if_pos hi] at hr;exact⟨m,by omega,hr⟩
     ·rename_i hi;rw[if_neg hi] at hr;exact⟨m,by omega,hr⟩
    ·exact hr.elim
    ·exact⟨m,by omega,hr⟩
    all_goals first|exact⟨m,by omega,hr⟩|exact hr.elim
   |loop ts c =>
    refine⟨ts,λk s'=>k<=n/\swF P k bs (.sc c:: .sc (.loop ts c)::K) s' Q,⟨n,Nat.le_refl _,h⟩,λk s' o=>?_⟩;refine ZI (d k (by omega) bs c _ s' Q o.2) λex s1 ⟨m,hm,hr⟩=>?_;cases ex<;>simp only[thenS]
    ·cases m with
     |zero=>cases hr
     |succ m=>exact⟨m,by omega,by omega,hr⟩
    ·exact⟨m,by omega,hr⟩
    ·exact hr.elim
    ·exact⟨m,by omega,hr⟩
    all_goals first|exact⟨m,by omega,hr⟩|exact hr.elim
   |rangeF N g ps a b =>
    simp only[swF] at h;exact ZI h λex s1 hr=>⟨n,Nat.lt_succ_self n,by cases ex<;>exact hr⟩
def At (P:Program) (bs:Nat) (K:List Fr) (s:St) (Q:Exit->St->Prop):Prop:=∃ n,swF P n bs K s Q
theorem CallL.reordG {P:Program} {d:D} {args:List D} {ob:Obs} {R:D->Obs->Prop} (h:CallL P d args ob (λr0 ob0=>R r0 (Z1W ob0))):CallL P d args ob R:=by
 intro F g n φ hh w v vs hp hv f;refine (h F g n φ hh w v vs hp hv f).mono ?_;rintro e w' ⟨r0,ob0,φ',h',a,k,ha⟩;have c: ∀ i,lk (Z1W ob0) i=lk ob0 i:=λi=>Zt i ob0;exact⟨r0,Z1W ob0,φ',h',a,k,⟨⟨ha.loc.one,ha.loc.glob.sub λb ⟨i,hi,l⟩=>⟨i,by rw[<- c];exact hi,l⟩,ha.loc.mem,λi o p=>ha.loc.obj i o (by rw[<- c];exact p),λi j b hi m=>ha.loc.sep i j b (by rw[<- c];exact hi) (by rw[<- c];exact m)⟩,
  ha.ext,ha.new,ha.frame,ha.hfix,ha.os,ha.tape,ha.output,ha.grow⟩⟩
def RE (a:Bool) (R:D->Obs->Prop):D->Obs->Prop:=match a with
 |true=>λd ob=>∃ r,retE d ob=some r/\R r []
 |false=>λd ob=>R d (Z1W ob)
def FinQ (a:Bool) (bs:Nat) (rs:List SR) (R:D->Obs->Prop):Exit->St->Prop:=λe s=>match e with
 |.normal=>∃ ds,rs.mapM (resD s)=some ds/\RetL bs (RE a R) s (Z0C ds)
 |.ret=>∃ ds,rs.mapM (resD s)=some ds/\RetL bs (RE a R) s (Z0C ds)
 |.panic c=>∃ v,c=[{v,recovered:=false}]/\RetL bs (RE a R) s (.pan v)
 |_=>False
def panF (a:Bool) (bs:Nat) (c:List PanicEntry) (s:St):Tr:=match c with
 |[⟨v,false,false⟩]=>(match a with
  |true=>.bad
  |false=>.ret (.pan v) (Z1W (s.fin bs (.pan v)).ob))
 |_=>.bad
def endT (a:Bool) (bs:Nat) (rs:List SR) (s:St):Tr:=match rs.mapM (resD s) with
 |some ds=>match a with
  |true=>match retE ((s.fin bs (Z0C ds)).get (.t 0)) (s.fin bs (Z0C ds)).ob with
   |some r=>.ret r []
   |none=>.bad
  |false=>.ret ((s.fin bs (Z0C ds)).get (.t 0)) (Z1W (s.fin bs (Z0C ds)).ob)
 |none=>.bad
def finF (a:Bool) (bs:Nat) (rs:List SR):Exit->St->Tr:=λe s=>match e with
 |.normal=>endT a bs rs s
 |.ret=>endT a bs rs s
 |.panic c=>panF a bs c s
 |_=>.bad
def intT (a c:Bool) (x:Tr):Tr:=match a with
 |false=>x
 |true=>brT c x .bad
theorem Z4h {R:D->Obs->Prop} {J:List Fr->St->Prop} {a c:Bool} {x:Tr} (h0:a=false->c=true) (h:(intT a c x).ok R J):x.ok R J/\c=true:=by
 cases a with
 |false=>exact⟨h,h0 rfl⟩
 |true =>
  cases c with
  |true=>exact⟨h,rfl⟩
  |false=>exact h.elim
def Z0o (P:Program) (tb:Ctr) (bs:Nat) (fin:Exit->St->Tr) (d:List Fr->St->Tr):List Fr->St->Tr:=λK s=>match K with
 |[]=>fin .normal s
 |.blk _::K=>d K s
 |.sc c::K=>match c with
  |.skip=>d K s
  |.ret=>fin .ret s
  |.exit i=>match Z10 i K with
   |some K'=>d K' s
   |none=>fin (.exit i) s
  |.reg ops=>opsT tb (s.nx bs) ops s λs'=>d K s'
  |.drw pre ops=>caT tb (s.nx bs) ops s λes s'=>if dchk (s.nx bs) pre ops es s=true then d K s' else .bad
  |.seq a b=>d (.sc a:: .sc b::K) s
  |.cond x a b=>match s.get x with
   |.bool t=>brT t (d (.sc a::K) s) (d (.sc b::K) s)
   |_=>.bad
  |.block id c=>d (.sc c:: .blk id::K) s
  |.loop ts c=>.jmp (.sc c:: .sc (.loop ts c)::K) (s.canon bs ts)
  |.spec k=>match k with
   |.frg ts=>.jmp K (s.canon bs ts)
   |.pan ops=>Zfv tb (s.nx bs) ops s (λs'=>d K s') (λv s'=>fin (pnc v) s')
   |.ord pre ops=>caOT tb (s.nx bs) pre 0 ops s (λqs s'=>if (dchk (s.nx bs) pre ops (qs.map (·.1)) s && ZR false pre s (qs.map (·.1)) 0 qs)=true then intT (Z7I qs) (ZR true pre s (qs.map (·.1)) 0 qs) (d K s') else .bad)
     (λ_ v qs=>if (dchk (s.nx bs) pre ops (qs.map (·.1)) s && ZR false pre s (qs.map (·.1)) 0 qs)=true then intT (Z7I qs) (ZR true pre s (qs.map (·.1)) 0 qs) (fin (pnc v) ⟨[],[]⟩) else .bad)
   |_=>.jmp (.sc (.spec k)::K) s
  |.rangeF N g ps a b =>
   let ob1:=rngS P s (s.nx bs) N ps a b;let nm:=Z1u ⟨s.tm,ob1⟩ [s.get g,.yld (s.nx bs)]
   match s.get g with
   |.func (.func f) fa e=>if Z0s nm=true/\QE P f=true then
     (match tb.C 0 ((s.get g).ren (idx · nm)) [(D.yld (s.nx bs)).ren (idx · nm)] (Q4 ob1 (idx · nm) 0 nm) with
     |some rt=>rtT rt λr ob'=>panT r (λv=>fin (pnc v) ⟨s.tm,Za (s.nx bs) (St.back ⟨s.tm,ob1⟩ (s.nx bs+1) nm ob').ob⟩) <|
      let S:=St.back ⟨s.tm,ob1⟩ (s.nx bs+1) nm ob'
      match lk S.ob (s.nx bs) with
      |some (.gen (.loop st pend _ _ _ _ _) _)=>if st=.busy then .bad else (match pend with
       |none=>d K ⟨s.tm,Za (s.nx bs) S.ob⟩
       |some .ret=>fin .ret ⟨s.tm,Za (s.nx bs) S.ob⟩
       |some (.exit i)=>match Z10 i K with
        |some K'=>d K' ⟨s.tm,Za (s.nx bs) S.ob⟩
        |none=>fin (.exit i) ⟨s.tm,Za (s.nx bs) S.ob⟩
       |_=>.bad)
      |_=>.bad
     |none=>.jmp (.sc (.rangeF N g ps a b)::K) s) else .bad
   |_=>.bad
def goT (P:Program) (tb:Ctr) (bs:Nat) (fin:Exit->St->Tr) (n:Nat):List Fr->St->Tr:=Nat.rec (λ_ _=>.bad) (λ_ a=>Z0o P tb bs fin a) n
theorem ZbY (tb:Ctr) (bs:Nat) (fin:Exit->St->Tr) (n:Nat):goT P tb bs fin (n+1)=Z0o P tb bs fin (goT P tb bs fin n):=rfl
theorem Za0 {b:Bool} {bs:Nat} {rs:List SR} {s:St} {R:D->Obs->Prop} {J:List Fr->St->Prop} (h:(endT b bs rs s).ok R J): ∃ ds,rs.mapM (resD s)=some ds/\RetL bs (RE b R) s (Z0C ds):=by
 unfold endT at h;split at h
 ·rename_i ds a;refine⟨ds,a,?_⟩;cases b with
  |true =>
   simp only at h;split at h
   ·rename_i r hr;exact⟨r,hr,h⟩
   ·exact h.elim
  |false=>exact h
 ·exact h.elim
theorem Z16 {a:Bool} {bs:Nat} {rs:List SR} {R:D->Obs->Prop} {J:List Fr->St->Prop} (e:Exit) (s:St) (h:(finF a bs rs e s).ok R J):FinQ a bs rs R e s:=by
 cases e<;>try first|exact Za0 h|exact h.elim
 simp only[finF,panF] at h;split at h
 ·rename_i v;cases a with
  |true=>exact h.elim
  |false=>exact⟨v,rfl,h⟩
 ·exact h.elim
theorem Z2t: ∀ {n m bs:Nat} {K:List Fr} {s:St} {Q:Exit->St->Prop},n<=m->swF P n bs K s Q->swF P m bs K s Q
 |0,_,_,_,_,_,_,h=>h.elim
 |n+1,0,_,_,_,_,f,_=>by omega
 |n+1,m+1,bs,K,s,Q,f,h=>by
  have up: ∀ {K' s'},swF P n bs K' s' Q->swF P m bs K' s' Q:=λh=>Z2t (by omega) h
  match K,h with
  |[],h=>exact h
  |.blk _::K,h=>exact up h
  |.sc c::K,h =>
   cases c with
   |skip=>exact up h
   |ret=>exact h
   |exit i =>
    simp only[swF] at h ⊢;split
    ·rename_i hp;rw[hp] at h;exact up h
    ·rename_i hp;rw[hp] at h;exact h
   |reg ops=>exact Z0U (K:=λs'=>swF P n bs K s' Q) h λs' hs=>up hs
   |drw pre ops=>obtain⟨es,s',h1,h2,j⟩:=h;exact⟨es,s',h1,h2,up j⟩
   |seq a b=>exact up h
   |cond x a b =>
    simp only[swF] at h ⊢;split at h
    ·exact up h
    ·exact h.elim
   |block id c=>exact up h
   |loop ts c=>exact up h
   |spec k =>
    simp only[swF] at h ⊢;refine Z41 h λe s' d=>?_;cases e<;>try exact d
    ·exact up d
    ·simp only at d ⊢;split at d
     ·exact up d
     ·exact d
   |rangeF N g ps a b =>
    simp only[swF] at h ⊢;refine ZI h λe s' d=>?_;cases e<;>try exact d
    ·exact up d
    ·simp only at d ⊢;split at d
     ·exact up d
     ·exact d
theorem Tr.ok_mono {R:D->Obs->Prop} {J J':List Fr->St->Prop} (h: ∀ K s,J K s->J' K s): ∀ {T:Tr},T.ok R J->T.ok R J'
 |.ret _ _,a=>a
 |.jmp _ _,a=>h _ _ a
 |.owe _ x,a=>⟨a.1,Tr.ok_mono h a.2⟩
 |.bad,a=>a
theorem Tr.ok_at {R:D->Obs->Prop} {J:List Fr->St->Prop} {A:Nat->List Fr->St->Prop} (h: ∀ K s,J K s-> ∃ n,A n K s): ∀ {T:Tr},T.ok R J-> ∃ n,T.ok R λK s=>J K s/\A n K s
 |.ret _ _,a=>⟨0,a⟩
 |.jmp K s,a=>by
  obtain⟨n,b⟩:=h K s a;exact⟨n,a,b⟩
 |.owe _ x,a=>by
  obtain⟨n,b⟩:=Tr.ok_at h a.2;exact⟨n,a.1,b⟩
 |.bad,a=>a.elim
theorem Z7S {tb:Ctr} (n:tb.OK P) {bs:Nat} {fin:Exit->St->Tr} {R:D->Obs->Prop} {J:List Fr->St->Prop} {Q:Exit->St->Prop} {m:Nat} {B:List Fr->St->Tr} (d: ∀ e s,(fin e s).ok R J->Q e s) (p: ∀ K s,J K s->swF P m bs K s Q)
  (up: ∀ {K s},(B K s).ok R J->swF P m bs K s Q) {K:List Fr} {s:St} (h:(Z0o P tb bs fin B K s).ok R J):swF P (m+1) bs K s Q:=by
  match K,h with
  |[],h=>exact d _ _ h
  |.blk _::K,h=>exact up h
  |.sc c::K,h =>
   cases c with
   |skip=>exact up h
   |ret=>exact d _ _ h
   |exit i =>
    simp only[Z0o] at h;split at h
    ·rename_i K' hp;simp only[swF,hp];exact up h
    ·rename_i hp;simp only[swF,hp];exact d _ _ h
   |reg ops =>
    simp only[Z0o] at h;obtain⟨s',h1,h2⟩:=Z2L n h;exact h1 _ (up h2)
   |drw pre ops =>
    simp only[Z0o] at h;obtain⟨es,s',h1,h2⟩:=Zan n h;split at h2
    ·rename_i o;exact⟨es,s',h1,o,up h2⟩
    ·exact h2.elim
   |seq a b=>exact up h
   |cond x a b =>
    simp only[Z0o] at h;split at h
    ·rename_i t hx;rcases Z57 h with⟨rfl,h⟩|⟨rfl,h⟩
     ·simp only[swF,hx,if_true];exact up h
     ·simp only[swF,hx];exact up h
    ·exact h.elim
   |block id c=>exact up h
   |loop ts c =>
    have h1:=p _ _ h;show swF P m bs (.sc c:: .sc (.loop ts c)::K) (s.canon bs ts) Q;exact h1
   |spec k =>
    cases k with
    |frg ts=>exact p _ _ h
    |pan ops =>
     simp only[Z0o] at h;rcases Z6G n h with⟨s',h1,h2⟩|⟨v,s',h1,h2⟩
     ·exact h1 _ _ (up h2)
     ·exact h1 _ _ (d _ _ h2)
    |ord pre ops =>
     simp only[Z0o] at h;rcases Zao n h with⟨qs,s',h1,h2⟩|⟨c,v,qs,s',_,hc,h1,h2⟩
     ·split at h2
      ·rename_i o;simp only[Bool.and_eq_true] at o;exact⟨none,qs,s',h1,o.1,⟨o.2,(Z4h Z03 h2).2⟩,up (Z4h Z03 h2).1⟩
      ·exact h2.elim
     ·split at h2
      ·rename_i o;simp only[Bool.and_eq_true] at o;exact⟨some (c,v),qs,s',h1,o.1,⟨o.2,(Z4h Z03 h2).2⟩,by omega,d _ _ (Z4h Z03 h2).1⟩
      ·exact h2.elim
    |_=>exact Z2t (Nat.le_succ m) (p _ _ h)
   |rangeF N g ps a b =>
    simp only[Z0o] at h;split at h
    ·rename_i f fa z A;split at h
     ·rename_i hc;split at h
      ·rename_i rt u;obtain⟨r,ob',l,j⟩:=Z2i (n.C _ _ _ _ _ u) h;rcases Z2K j with⟨q,j⟩|⟨v,rfl,j⟩
       case inr =>
        refine⟨_,_,Zx hc.1,λi hi=>ZO (s:=⟨s.tm,rngS P s (s.nx bs) N ps a b⟩) i hi,⟨f,fa,z,A,hc.2⟩,l,?_⟩;rintro r0 ob0 ⟨rfl,rfl⟩;exact .inl ⟨v,rfl,d _ _ j⟩
       split at j
       ·rename_i st pend _ _ _ _ _ _ hl;split at j
        ·exact j.elim
        ·rename_i y;have fin:(match pend with
           |none=>swF P m bs K ⟨s.tm,Za (s.nx bs) (St.back ⟨s.tm,rngS P s (s.nx bs) N ps a b⟩ (s.nx bs+1) (Z1u ⟨s.tm,rngS P s (s.nx bs) N ps a b⟩ [s.get g,.yld (s.nx bs)]) ob').ob⟩ Q
           |some .ret=>Q .ret ⟨s.tm,Za (s.nx bs) (St.back ⟨s.tm,rngS P s (s.nx bs) N ps a b⟩ (s.nx bs+1) (Z1u ⟨s.tm,rngS P s (s.nx bs) N ps a b⟩ [s.get g,.yld (s.nx bs)]) ob').ob⟩
           |some (.exit i)=>(match Z10 i K with
            |some K'=>swF P m bs K' ⟨s.tm,Za (s.nx bs) (St.back ⟨s.tm,rngS P s (s.nx bs) N ps a b⟩ (s.nx bs+1) (Z1u ⟨s.tm,rngS P s (s.nx bs) N ps a b⟩ [s.get g,.yld (s.nx bs)]) ob').ob⟩ Q
            |none=>Q (.exit i) ⟨s.tm,Za (s.nx bs) (St.back ⟨s.tm,rngS P s (s.nx bs) N ps a b⟩ (s.nx bs+1) (Z1u ⟨s.tm,rngS P s (s.nx bs) N ps a b⟩ [s.get g,.yld (s.nx bs)]) ob').ob⟩)
           |_=>False)->swF P (m+1) bs (.sc (.rangeF N g ps a b)::K) s Q:=λhm=>by
          refine⟨_,_,Zx hc.1,λi hi=>ZO (s:=⟨s.tm,rngS P s (s.nx bs) N ps a b⟩) i hi,⟨f,fa,z,A,hc.2⟩,l,?_⟩;rintro r0 ob0 ⟨rfl,rfl⟩;refine .inr ⟨q,st,pend,_,_,_,_,_,_,hl,y,?_⟩;split at hm
          ·exact hm
          ·exact hm
          ·exact hm
          ·exact hm.elim
         cases pend with
         |none=>exact fin (up j)
         |some c0 =>
          cases c0<;>try exact j.elim
          ·rename_i i0;simp only at j;refine fin ?_;simp only;split at j
           ·exact up j
           ·exact d _ _ j
          ·exact fin (d _ _ j)
       ·exact j.elim
      ·exact Z2t (Nat.le_succ m) (p _ _ h)
     ·exact h.elim
    ·exact h.elim
theorem ZiJ {tb:Ctr} (b:tb.OK P) {bs:Nat} {fin:Exit->St->Tr} {R:D->Obs->Prop} {J:List Fr->St->Prop} {Q:Exit->St->Prop} {d:Nat} (a: ∀ e s,(fin e s).ok R J->Q e s) (c: ∀ K s,J K s->swF P d bs K s Q) :
  ∀ {n:Nat} {K:List Fr} {s:St},(goT P tb bs fin n K s).ok R J->swF P (d+n) bs K s Q
 |0,K,s,h=>h.elim
 |n+1,K,s,h=>by
  rw[ZbY] at h;exact Z7S b a (λK s f=>Z2t (Nat.le_add_right _ _) (c K s f)) (λh=>ZiJ b a c h) h
theorem Z2V {tb:Ctr} (b:tb.OK P) {bs:Nat} {fin:Exit->St->Tr} {R:D->Obs->Prop} {J:List Fr->St->Prop} {Q:Exit->St->Prop} (a: ∀ e s,(fin e s).ok R J->Q e s) (c: ∀ K s,J K s->At P bs K s Q)
  {n:Nat} {K:List Fr} {s:St} (h:(goT P tb bs fin n K s).ok R J):At P bs K s Q:=by
 obtain⟨d,h0⟩:=Tr.ok_at (A:=λn K s=>swF P n bs K s Q) c h;exact⟨_,ZiJ b (λe s hf=>a e s (Tr.ok_mono (λ_ _ h=>h.1) hf)) (λ_ _ h=>h.2) h0⟩
def SC.tl:SC->Nat->SC
 |c,0=>c
 |.seq _ b,n+1=>b.tl n
 |c,_+1=>c
def frgs:SC->List Fr->List (List Fr)
 |.seq (.spec (.frg _)) b,K=>(.sc b::K)::frgs b K
 |.seq a b,K=>frgs a (.sc b::K)++frgs b K
 |.cond _ a b,K=>frgs a K++frgs b K
 |.block id c,K=>frgs c (.blk id::K)
 |.loop ts c,K=>frgs c (.sc (.loop ts c)::K)
 |_,_=>[]
def frg (sc:SC) (n:Nat):List Fr:=(frgs sc []).getD n []
theorem At.tree {tb:Ctr} (a:tb.OK P) {b:Bool} {bs:Nat} {rs:List SR} {R:D->Obs->Prop} {n:Nat} {K:List Fr} {s:St} {T:Tr} (e:goT P tb bs (finF b bs rs) n K s=T)
  (h:T.ok R (λK s=>At P bs K s (FinQ b bs rs R))):At P bs K s (FinQ b bs rs R):=Z2V a Z16 (λ_ _ h=>h) (e ▸ h)
theorem Z85 {bs:Nat} {sc:SC} {s:St} {Q:Exit->St->Prop} (h:At P bs [.sc sc] s Q):sw P bs sc Q s:=by
 obtain⟨n,a⟩:=h;refine ZI (Z8x n bs sc [] s Q a) λex s1 ⟨m,_,hr⟩=>?_;cases ex<;>simp only[Zfo,Z10] at hr
 ·cases m with
  |zero=>cases hr
  |succ m=>exact hr
 ·exact hr
 ·exact hr
 ·exact hr
theorem FnOK.at[CodesOf P] (Z5:DrawSound P) {f:FuncId} {N:Nat} {sc:SC} {rs:List SR} (hf:FnC P f N sc rs/\QE P f=true) {args:List D} {r:D}
  (h:At P 0 [.sc sc] ⟨Zu 0 args,[]⟩ (FinQ true 0 rs (λd _=>d=r))) (b:Nat.ble args.length N=true:=by rfl):FnOK P f args r:=by
 have b:=Nat.le_of_ble_eq_true b;have j:=Z85 h;refine FnOK.of_call hf.2 (CallL.fn Z5 hf.1 hf.2 (first:=[]) (caps:=[]) 0 (Nat.le_refl _) (by simpa using b) ?_);have conv: ∀ (s:St) (d:D),RetL 0 (RE true (λd _=>d=r)) s d->RetL 0 (RetK r) s d:=by
  rintro s d ⟨k,a,rfl⟩;unfold retE at a;unfold RetL RetK;split at a
  ·rename_i id hid;split at a
   ·rename_i sz e es hl;cases a;exact .inl ⟨id,sz,e,es,hid,hl,rfl⟩
   ·cases a
  ·split at a
   ·rename_i g;cases a;exact .inr ⟨g,rfl⟩
   ·cases a
 rw[List.nil_append,List.append_nil];refine ZI j λex s1 i=>?_;cases ex<;>simp only[FinQ,EndQ] at i ⊢
 ·obtain⟨ds,c,hr⟩:=i;exact⟨ds,c,conv _ _ hr⟩
 ·obtain⟨ds,c,hr⟩:=i;exact⟨ds,c,conv _ _ hr⟩
 ·obtain⟨v,rfl,hr⟩:=i;exact⟨v,rfl,conv _ _ hr⟩
theorem FnOK.tree [CodesOf P] (Z5:DrawSound P) {f:FuncId} {N:Nat} {sc:SC} {rs:List SR} (hf:FnC P f N sc rs/\QE P f=true) {tb:Ctr} (b:tb.OK P) {n:Nat} {args:List D} {r:D} {T:Tr}
  (e:goT P tb 0 (finF true 0 rs) n [.sc sc] ⟨Zu 0 args,[]⟩=T) (h:T.ok (λd _=>d=r) (λK s=>At P 0 K s (FinQ true 0 rs (λd _=>d=r)))) (a:Nat.ble args.length N=true:=by rfl):FnOK P f args r :=
 FnOK.at Z5 hf (Z2V b Z16 (λ_ _ h=>h) (e ▸ h)) a
theorem CallL.tree [CodesOf P] (Z5:DrawSound P) {f:FuncId} {N:Nat} {sc:SC} {rs:List SR} (hf:FnC P f N sc rs/\QE P f=true) {tb:Ctr} (d:tb.OK P) {n bs:Nat} {first args caps:List D} {ob:Obs} {R:D->Obs->Prop} {T:Tr}
  (e:goT P tb bs (finF false bs rs) n [.sc sc] ⟨Zu 0 (first++args++caps),ob⟩=T) (h:T.ok R (λK s=>At P bs K s (FinQ false bs rs R))) (a:Nat.ble (first++args++caps).length N=true:=by rfl) (b:Nat.ble (Obs.top ob) bs=true:=by rfl):CallL P (.func (.func f) first caps) args ob R:=by
 have a:=Nat.le_of_ble_eq_true a;have b:=Nat.le_of_ble_eq_true b;have c:=Z85 (Z2V d Z16 (λ_ _ h=>h) (e ▸ h));refine CallL.reordG (CallL.fn Z5 hf.1 hf.2 bs b a ?_);refine ZI c λex s1 g=>?_;cases ex<;>simp only[FinQ,RE,EndQ] at g ⊢<;>exact g
end
def finY (k c N:Nat) (ps:Array Tmp) (a b:SC) (keys:List Nat) (ds:List D):Exit->St->Tr:=λe s=>match ZbC e with
 |some pend=>if (lk s.ob c).isNone=true then .ret (.bool pend.isNone) (Z1W ((c,.gen (.loop (if pend.isNone then .ready else .done) pend ps a b N keys) ds)::(s.canon k []).ob)) else .bad
 |none=>.bad
def yldT (P:Program) (tb:Ctr) (k c N:Nat) (ps:Array Tmp) (a b:SC) (keys:List Nat) (ds:List D) (n:Nat) (s:St):Tr :=
 goT P tb k (λe s=>match e with
  |.normal=>goT P tb k (finY k c N ps a b keys ds) n [.sc b] s
  |_=>.bad) n [.sc a] s
section
variable {P:Program}
theorem CallL.yldT [CodesOf P] (Z5:DrawSound P) {tb:Ctr} (g:tb.OK P) {n k c N:Nat} {ps:Array Tmp} {a b:SC} {keys:List Nat} {ds args:List D} {ob:Obs} {R:D->Obs->Prop} {T:Tr}
  (f:lk ob c=some (.gen (.loop .ready none ps a b N keys) ds)) (e:Sx.yldT P tb k c N ps a b keys ds n ⟨putP (ps.toList.zip args) (keys.zip ds),Za c ob⟩=T)
  (h:T.ok R (λ_ _=>False)) (i:Nat.ble (Obs.top ob) k=true:=by rfl) (l:ps.size=args.length:=by rfl) (j:(ps.toList.all λt=>decide (t<N))=true:=by rfl):CallL P (.yld c) args ob R:=by
 have i:=Nat.le_of_ble_eq_true i;refine CallL.reordG (CallL.yld Z5 k i f l (λt o=>by simpa using List.all_eq_true.1 j t o) ?_);have h':(Sx.yldT P tb k c N ps a b keys ds n ⟨putP (ps.toList.zip args) (keys.zip ds),Za c ob⟩).ok R (λ_ _=>False):=e ▸ h;unfold Sx.yldT at h';refine Z85 (Z2V g (λe s hf=>?_) (λ_ _ h=>h.elim) h');cases e<;>try exact hf.elim
 refine Z85 (Z2V g (λe s hf=>?_) (λ_ _ h=>h.elim) hf);unfold finY at hf;split at hf
 ·rename_i pend d;split at hf
  ·rename_i m;refine⟨by simpa using m,?_⟩;cases e<;>simp only[ZbC,Option.some.injEq,reduceCtorEq] at d<;>(subst d;exact hf)
  ·exact hf.elim
 ·exact hf.elim
end
def cuts:SC->List Fr->List (List Fr)
 |.seq a b,K=>cuts a (.sc b::K)++cuts b K
 |.cond _ a b,K=>cuts a K++cuts b K
 |.block id c,K=>cuts c (.blk id::K)
 |.loop ts c,K=>(.sc c:: .sc (.loop ts c)::K)::cuts c (.sc (.loop ts c)::K)
 |_,_=>[]
def cut (sc:SC) (n:Nat):List Fr:=(cuts sc []).getD n []
def spcs:SC->List Fr->List (List Fr)
 |.seq a b,K=>spcs a (.sc b::K)++spcs b K
 |.cond _ a b,K=>spcs a K++spcs b K
 |.block id c,K=>spcs c (.blk id::K)
 |.loop ts c,K=>spcs c (.sc (.loop ts c)::K)
 |.spec k,K=>[.sc (.spec k)::K]
 |_,_=>[]
def spc (sc:SC) (n:Nat):List Fr:=(spcs sc []).getD n []
def aft (sc:SC) (n:Nat):List Fr:=(spc sc n).tail
def SC.rngs:SC->List (SC × SC)
 |.seq a b=>a.rngs++b.rngs
 |.cond _ a b=>a.rngs++b.rngs
 |.block _ c=>c.rngs
 |.loop _ c=>c.rngs
 |.rangeF _ _ _ a b=>(a,b)::(a.rngs++b.rngs)
 |_=>[]
def SC.rngA (sc:SC) (n:Nat):SC:=(sc.rngs.getD n (.skip,.skip)).1
def SC.rngB (sc:SC) (n:Nat):SC:=(sc.rngs.getD n (.skip,.skip)).2
end Go.Sx
/- WHAT COMES IN WITH TERMS IN IT: structs and slices over terms,as plain data. -/
namespace Go.Sx
open Go.RowKit Go.Deep Go.ChangeShapes Go.WideShapes
inductive ShT where
 |bool
 |int (k:IntKind)
 |str
 |tms
 |slice (e:List ShT)
mutual
def ShT.fit (B:Nat):ShT->D->Prop
 |.bool,d=>∃ b,d=.bool b
 |.int k,d=>∃ n,d=.int k n/\(Lit.int k n).wf=true
 |.str,d=>∃ s,d=.str s/\s.length<=B
 |.tms,d=>∃ l,d=.slice (Tm.cellsL l) []/\l.length<=B/\Tm.wfL B l
 |.slice l,d=>∃ es,d=.slice es []/\es.length<=B/\ ∀ e,e∈es->ShT.fits B l e
def ShT.fits (B:Nat):List ShT->List D->Prop
 |[],ds=>ds=[]
 |s::r,ds=>∃ d t,ds=d::t/\ShT.fit B s d/\ShT.fits B r t
end
variable {H:Type} {enc:TypeId × Value->H} {P:Program} {w:World}
section
variable [Globs] [Codes]
end
end Go.Sx
/- TERMS COMPARED,in plain words. -/
namespace Go.Sx
def ncmp (a b:Int):Int:=if a<b then -1 else if b<a then 1 else 0
def rkI (k:Int):Int:=if k=1 then 0 else if k=2 then 1 else if k=4 then 2 else if k=3 then 3 else if k=5 then 4 else if k=6 then 5 else 6+k
def fst0:List Int->Int
 |[]=>0
 |x::r=>if x≠0 then x else fst0 r
mutual
def Tm.cmp:Tm->Tm->Int
 |.mk k n s l,b=>match b with
  |.mk d c s' a=>fst0 [ncmp (rkI k) (rkI d),if k=1 then ncmp n c else 0,ncmp l.length a.length,Lib.compareBytes s s',Tm.cmpL l a,ncmp n c]
def Tm.cmpL:List Tm->List Tm->Int
 |[],q=>match q with
  |[]=>0
  |_::_=>-1
 |a::r,q=>match q with
  |[]=>1
  |b::q=>if a.cmp b≠0 then a.cmp b else Tm.cmpL r q
end
mutual
def Tm.sz:Tm->Int->Int
 |.mk _ _ _ l,m=>1+Tm.szL l (m-1) 0
def Tm.szL:List Tm->Int->Int->Int
 |[],m,n=>n
 |a::r,m,n=>if n<=m then Tm.szL r m (n+a.sz (m-n)) else n
end
end Go.Sx
namespace Go.Sx
mutual
def Tm.few (N:Nat):Tm->Prop
 |.mk _ _ _ l=>l.length<=N/\Tm.fewL N l
def Tm.fewL (N:Nat):List Tm->Prop
 |[]=>True
 |a::r=>a.few N/\Tm.fewL N r
end
end Go.Sx
/- Zlz laws on bytes and lists. -/
namespace Go.Sx
def Zl (p:UInt8->Bool) (s:List UInt8) (i:Nat):Nat:=i+((s.drop i).takeWhile p).length
theorem Z1Y {p:UInt8->Bool} {s:List UInt8} {i:Nat} (h:i<s.length) (hp:p (s.getD i 0)=true):Zl p s i=Zl p s (i+1):=by
 unfold Zl;rw[List.drop_eq_getElem_cons h,List.takeWhile_cons];rw[List.getD_eq_getElem?_getD,List.getElem?_eq_getElem h,Option.getD_some] at hp;rw[if_pos hp,List.length_cons];omega
theorem Z3y {p:UInt8->Bool} {s:List UInt8} {i:Nat} (h:i<s.length) (hp:p (s.getD i 0)=false):Zl p s i=i:=by
 unfold Zl;rw[List.drop_eq_getElem_cons h,List.takeWhile_cons];rw[List.getD_eq_getElem?_getD,List.getElem?_eq_getElem h,Option.getD_some] at hp;rw[if_neg (by simp[hp])];simp
theorem Z4L {p:UInt8->Bool} {s:List UInt8} {i:Nat} (h:s.length<=i):Zl p s i=i:=by
 unfold Zl;rw[List.drop_eq_nil_of_le h];simp
theorem Z48 (p:UInt8->Bool) (s:List UInt8) (i:Nat):i<=Zl p s i:=by unfold Zl;omega
theorem Z2H {p:UInt8->Bool} {s:List UInt8} {i:Nat} (h:i<=s.length):Zl p s i<=s.length:=by
 unfold Zl
 have:=(List.takeWhile_sublist (l:=s.drop i) p).length_le;rw[List.length_drop] at this;omega
theorem Z7E (p:UInt8->Bool) (s:List UInt8) (i:Nat):(s.take (Zl p s i)).drop i=(s.drop i).takeWhile p:=by
 unfold Zl;rw[List.drop_take,Nat.add_sub_cancel_left];exact (List.prefix_iff_eq_take.1 (List.takeWhile_prefix p)).symm
theorem Z61 (s:List UInt8) (i:Nat):0<=((s.getD i 0).toNat:Int)/\((s.getD i 0).toNat:Int)<256:=by
 have:=(s.getD i 0).toNat_lt;omega
end Go.Sx
/- The lexer,plainly. -/
namespace Go.Sx.Lx
open Go.Sx
def Z1M (b:UInt8):Bool:=decide (97<=b.toNat) && decide (b.toNat<=122)
def Z5N (b:UInt8):Bool:=decide (65<=b.toNat) && decide (b.toNat<=90)
def Qx (b:UInt8):Bool:=decide (48<=b.toNat) && decide (b.toNat<=57)
def Z09 (b:UInt8):Bool:=Z1M b ||Z5N b
def QR (b:UInt8):Bool:=b == 95
def Q0 (b:UInt8):Bool:=Z09 b ||Qx b ||QR b
def ZQ (b:UInt8):Bool:=b == 32 ||b == 9 ||b == 10 ||b == 13
def Qf (b:UInt8):Bool:=!(b == 10)
def skp:Bool->List UInt8->Nat
 |_,[]=>0
 |false,b::r=>if ZQ b then 1+skp false r else if b == 37 then 1+skp true r else 0
 |true,b::r=>if b == 10 then 1+skp false r else 1+skp true r
theorem Z1C: ∀ (c:Bool) (l:List UInt8),skp c l<=l.length
 |_,[]=>by simp[skp]
 |false,b::r=>by
  simp only[skp];have h1:=Z1C false r;have h2:=Z1C true r;repeat' split
  all_goals simp only[List.length_cons];omega
 |true,b::r=>by
  simp only[skp];have h1:=Z1C false r;have h2:=Z1C true r;repeat' split
  all_goals simp only[List.length_cons];omega
theorem Z4G: ∀ l:List UInt8,skp false l=(l.takeWhile ZQ).length+skp false (l.drop (l.takeWhile ZQ).length)
 |[]=>rfl
 |b::r=>by
  cases a:ZQ b with
  |true =>
   rw[List.takeWhile_cons,if_pos a];simp only[List.length_cons,List.drop_succ_cons];rw[show skp false (b::r)=1+skp false r by simp[skp,a],Z4G r];omega
  |false=>rw[List.takeWhile_cons,if_neg (by simp[a])];simp
theorem Z6z: ∀ l:List UInt8,skp true l=(l.takeWhile Qf).length+skp false (l.drop (l.takeWhile Qf).length)
 |[]=>rfl
 |b::r=>by
  cases a:Qf b with
  |true =>
   rw[List.takeWhile_cons,if_pos a];simp only[List.length_cons,List.drop_succ_cons];have h:(b == 10)=false:=by simpa [Qf] using a
   rw[show skp true (b::r)=1+skp true r by simp[skp,h],Z6z r];omega
  |false =>
   rw[List.takeWhile_cons,if_neg (by simp[a])];have h:b=10:=by simpa [Qf] using a
   subst h;simp[skp,ZQ]
theorem Ze3 {l:List UInt8} (h:l.head? = some 37):skp false l=(l.takeWhile Qf).length+skp false (l.drop (l.takeWhile Qf).length):=by
 cases l with
 |nil=>cases h
 |cons b r =>
  simp only[List.head?_cons,Option.some.injEq] at h;subst h;rw[show skp false (37::r)=1+skp true r by simp[skp,ZQ],List.takeWhile_cons,if_pos (by decide),Z6z r];simp only[List.length_cons,List.drop_succ_cons];omega
theorem Zbl {l:List UInt8} (h: ∀ b,l.head? = some b->ZQ b=false/\b≠37):skp false l=0:=by
 cases l with
 |nil=>rfl
 |cons b r =>
  obtain⟨h1,h2⟩:=h b rfl;simp[skp,h1,h2]
def ZU (s:List UInt8) (i:Nat):Nat:=i+skp false (s.drop i)
theorem Z3x {s:List UInt8} {i:Nat} (h:i<=s.length):ZU s i<=s.length:=by
 have:=Z1C false (s.drop i);rw[List.length_drop] at this;unfold ZU;omega
theorem Z2h (s:List UInt8) (i:Nat):ZU s i=ZU s (Zl ZQ s i):=by
 unfold ZU Zl;rw[Z4G (s.drop i),List.drop_drop];omega
theorem Z7r {s:List UInt8} {i:Nat} (h:i<s.length) (a:s.getD i 0=37):ZU s i=ZU s (Zl Qf s i):=by
 unfold ZU Zl;rw[List.getD_eq_getElem?_getD,List.getElem?_eq_getElem h,Option.getD_some] at a;rw[Ze3 (by rw[List.head?_drop,List.getElem?_eq_getElem h,a]),List.drop_drop];omega
theorem Z8U {p:UInt8->Bool} {s:List UInt8} {i:Nat} (h:Zl p s i<s.length):p (s.getD (Zl p s i) 0)=false:=by
 suffices ∀ (l:List UInt8),(l.takeWhile p).length<l.length->p (l.getD (l.takeWhile p).length 0)=false by
  have h2:=this (s.drop i) (by unfold Zl at h;rw[List.length_drop];omega);unfold Zl;simpa [List.getD,List.getElem?_drop] using h2
 intro l;induction l with
 |nil=>intro h;simp at h
 |cons b r c =>
  intro h;rw[List.takeWhile_cons] at h ⊢;split
  ·rename_i a;rw[if_pos a] at h;simpa using c (by simpa using h)
  ·rename_i a;simpa using a
theorem Z2F {s:List UInt8} {i:Nat} (h:Zl ZQ s i=s.length\/s.getD (Zl ZQ s i) 0≠37) (hi:i<=s.length):ZU s i=Zl ZQ s i:=by
 rw[Z2h];have hl:=Z2H (p:=ZQ) hi;unfold ZU;rw[Zbl]
 ·omega
 ·intro b a;rw[List.head?_drop] at a;obtain⟨c,e⟩:=List.getElem?_eq_some_iff.1 a;have d:s.getD (Zl ZQ s i) 0=b:=by rw[List.getD_eq_getElem?_getD,a];rfl
  refine⟨?_,?_⟩
  ·have:=Z8U (p:=ZQ) c;rwa [d] at this
  ·rcases h with h|h
   ·omega
   ·rwa [d] at h
end Go.Sx.Lx
namespace Go.Sx.Lx
def Z1S (first:UInt8->Bool) (s:List UInt8):Bool:=match s.dropWhile QR with
 |[]=>false
 |b::r=>first b && (b::r).all Q0 && decide (s.length<=32)
def ZC:List UInt8:=[110,111,116]
def ZM (s:List UInt8):Bool:=Z1S Z1M s && decide (s≠ZC)
def ZW (s:List UInt8):Bool:=Z1S Z5N s ||(match s with
 |95::r=>r.all Qx && decide (s.length<=32)
 |_=>false)
end Go.Sx.Lx
namespace Go.Sx
def strC (l:List (List UInt8)):List (List D):=l.map λt=>[D.str t]
theorem Z6v {l:List (List UInt8)} {i:Nat} (h:i<l.length):(strC l)[i]? = some [D.str (l.getD i [])]:=by
 unfold strC;rw[List.getElem?_map,List.getElem?_eq_getElem h];simp[List.getD,h]
theorem Z1z (l:List (List UInt8)):(strC l).length=l.length:=by simp[strC]
def idxS (t:List UInt8):List (List UInt8)->Int->Int
 |[],_=>-1
 |x::r,i=>if t=x then i else idxS t r (i+1)
theorem Z6T (t:List UInt8): ∀ (l:List (List UInt8)) (i:Int),0<=i->(0<=idxS t l i ↔ t∈l)
 |[],i,h=>by simp[idxS]
 |x::r,i,h=>by
  simp only[idxS,List.mem_cons];split
  ·rename_i e;simp[e,h]
  ·rename_i e;rw[Z6T t r (i+1) (by omega)];simp[e]
theorem Z17 {α:Type} {l:List α} {d:α} {i:Nat} (h:i<l.length):l.drop i=l.getD i d::l.drop (i+1):=by
 rw[List.drop_eq_getElem_cons h];simp[List.getD,h]
end Go.Sx
namespace Go.Sx.Lx
def Z42:List (List UInt8):=[[58,45],[58,126],[58],[46,46],[46],[44],[59],[124],[40],[41],[123],[125],[91],[93],[61],[33,61],[60,61],[62,61],[60],[62],[43],[45],[42],[47],[92],[64]]
def Qm (s:List UInt8):List UInt8:=(Z42.find? (·.isPrefixOf s)).getD []
end Go.Sx.Lx
namespace Go.Sx.Lx
def Z0x (s:List UInt8):Int × Int:=if s=ZC then (4,0) else if ZM s=true then (1,0) else if ZW s=true then (2,0) else (0,31)
def Zhh:List (List UInt8):=[[35,99,111,110,115,116],[35,115,104,111,119],[35,109,105,110,105,109,105,122,101],[35,99,111,117,110,116],[35,115,117,109]]
def Z9o (s:List UInt8):Int:=match Lib.atoiAll s with
 |.ok n=>if 2147483647<n then 32 else if Lib.itoa n=s then 0 else 32
 |_=>32
def tok (s:List UInt8):Int × List UInt8 × Int:=match s with
 |[]=>(0,[],0)
 |b::r =>
  if Z09 b ||QR b then ((Z0x (s.takeWhile Q0)).1,s.takeWhile Q0,(Z0x (s.takeWhile Q0)).2)
  else if Qx b then (3,s.takeWhile Qx,Z9o (s.takeWhile Qx))
  else if b == 35 then (5,35::r.takeWhile Z09,if 35::r.takeWhile Z09∈Zhh then 0 else 31)
  else (6,Qm s,if Qm s=[] then 30 else 0)
end Go.Sx.Lx
namespace Go.Sx.Lx
abbrev Tk:=Int × List UInt8 × Int
def Zo (t:Tk):List D:=[.int .u8 t.1,.str t.2.1,.int .i64 t.2.2]
theorem Z1y {p:UInt8->Bool} {b:UInt8} {r:List UInt8} (h:p b=true):0<((b::r).takeWhile p).length:=by
 rw[List.takeWhile_cons,if_pos h];simp
theorem Z0R {l:List UInt8} (hl:l≠[]) (h:(tok l).2.2=0):0<(tok l).2.1.length:=by
 cases l with
 |nil=>exact absurd rfl hl
 |cons b r =>
  unfold tok at h ⊢;simp only at h ⊢;split
  ·rename_i a;exact Z1y (by simp only[Q0];simp only[Bool.or_eq_true] at a ⊢;rcases a with h|h<;>simp[h])
  split
  ·rename_i a;exact Z1y a
  split
  ·simp
  ·rename_i h1 h2 c;rw[if_neg h1,if_neg h2,if_neg c] at h;simp only at h;by_cases hs:Qm (b::r)=[]
   ·rw[if_pos hs] at h;cases h
   ·exact List.length_pos_iff.2 hs
theorem Z5n (l:List UInt8):(tok l).2.1.length<=l.length:=by
 cases l with
 |nil=>simp[tok]
 |cons b r =>
  unfold tok;simp only;split
  ·exact (List.takeWhile_sublist _).length_le
  split
  ·exact (List.takeWhile_sublist _).length_le
  split
  ·simpa using (List.takeWhile_sublist (l:=r) Z09).length_le
  ·simp only[Qm];cases hf:Z42.find? (·.isPrefixOf (b::r)) with
   |none=>simp
   |some s =>
    have:=List.find?_some hf;exact (List.isPrefixOf_iff_prefix.1 this).length_le
def Z1p:Nat->Nat->List UInt8->List Tk × Option (Nat × Int) × Nat
 |0,o,_=>([],none,o)
 |_+1,o,[]=>([],none,o)
 |f+1,o,b::r =>
  if (tok (b::r)).2.2=0 then
   let n:=(tok (b::r)).2.1.length;let k:=skp false ((b::r).drop n);let q:=Z1p f (o+n+k) ((b::r).drop (n+k))
   (((tok (b::r)).1,(tok (b::r)).2.1,(o:Int))::q.1,q.2)
  else ([],some (o,(tok (b::r)).2.2),o+(tok (b::r)).2.1.length)
def Qh (s:List UInt8):List Tk × Int × Int :=
 if 32768<s.length then ([],0,3) else
 match Z1p (s.length+1) (skp false s) (s.drop (skp false s)) with
 |(_,some (a,e),_)=>([],a,e)
 |(l,none,_)=>(l,0,0)
end Go.Sx.Lx
namespace Go.Sx.Lx
end Go.Sx.Lx
namespace Go.Sx.Lx
def Zl1 (n m:Int):Int:=if n.tmod m<0 then n.tmod m+m else n.tmod m
end Go.Sx.Lx
/- All subterms of a term. -/
namespace Go.Sx
mutual
def Tm.all (h:Tm->Bool):Tm->Bool
 |.mk k n s l=>h (.mk k n s l) && Tm.allL h l
def Tm.allL (h:Tm->Bool):List Tm->Bool
 |[]=>true
 |a::r=>a.all h && Tm.allL h r
end
mutual
def Tm.depth:Tm->Nat
 |.mk _ _ _ l=>Tm.depthL l+1
def Tm.depthL:List Tm->Nat
 |[]=>0
 |a::r=>Nat.max a.depth (Tm.depthL r)
end
end Go.Sx
namespace Go.Sx
def Qz (k n:Int) (s:List UInt8) (len:Nat):Bool :=
 if k=1 then decide (-2147483647<=n) && decide (n<=2147483647) && decide (s=[]) && decide (len=0)
 else if k=2 then decide (n=0) && Lx.ZM s && decide (len=0)
 else if k=3 then decide (n=0) && Lx.ZW s && decide (len=0)
 else if k=4 then decide (n=0) && Lx.ZM s && decide (1<=len) && decide (len<=8)
 else if k=5 then decide (n=0) && (decide (s=[43]) ||decide (s=[45]) ||decide (s=[42]) ||decide (s=[47]) ||decide (s=[92])) && (decide (len=2) ||decide (s=[45]) && decide (len=1))
 else if k=6 then decide (n=0) && decide (s=[]) && decide (len=2)
 else false
def Tm.shape:Tm->Bool
 |.mk k n s l=>Qz k n s l.length
def Tm.valid (t:Tm):Bool:=decide (t.depth<=12) && t.all Tm.shape
end Go.Sx
/- Laws of the lexer. -/
namespace Go.Sx.Lx
open Go.Sx
theorem Z7o: ∀ (f g o:Nat) (l:List UInt8),l.length<f->l.length<g->Z1p f o l=Z1p g o l:=by
 intro f;induction f with
 |zero=>intro g o l h;omega
 |succ f d =>
  intro g o l hf c;cases g with
  |zero=>omega
  |succ g =>
   cases l with
   |nil=>rfl
   |cons b r =>
    simp only[Z1p];split
    ·rename_i a;have hp:=Z0R (l:=b::r) (by simp) a;have hl:((b::r).drop ((tok (b::r)).2.1.length+skp false ((b::r).drop (tok (b::r)).2.1.length))).length<r.length+1:=by
      rw[List.length_drop,List.length_cons];omega
     rw[List.length_cons] at hf c;rw[d g _ _ (by omega) (by omega)]
    ·rfl
def run (o:Nat) (l:List UInt8):List Tk × Option (Nat × Int) × Nat:=Z1p (l.length+1) (o+skp false l) (l.drop (skp false l))
theorem Z5z {o:Nat} {l:List UInt8} (h:skp false l=l.length):run o l=([],none,o+l.length):=by
 unfold run;rw[h,List.drop_length];rfl
theorem Z8S {o:Nat} {l:List UInt8} (h:skp false l≠l.length):run o l =
  if (tok (l.drop (skp false l))).2.2=0 then
   (((tok (l.drop (skp false l))).1,(tok (l.drop (skp false l))).2.1,((o+skp false l:Nat):Int))::(run (o+skp false l+(tok (l.drop (skp false l))).2.1.length) (l.drop (skp false l+(tok (l.drop (skp false l))).2.1.length))).1,
    (run (o+skp false l+(tok (l.drop (skp false l))).2.1.length) (l.drop (skp false l+(tok (l.drop (skp false l))).2.1.length))).2)
  else ([],some (o+skp false l,(tok (l.drop (skp false l))).2.2),o+skp false l+(tok (l.drop (skp false l))).2.1.length):=by
 have n:=Z1C false l;have c:l.drop (skp false l)≠[]:=λf=>by
  have:=congrArg List.length f;rw[List.length_drop,List.length_nil] at this;omega
 unfold run;generalize i:l.drop (skp false l)=d at c ⊢;have a:d.length<=l.length:=by rw[<- i,List.length_drop];omega
 cases d with
 |nil=>exact absurd rfl c
 |cons b r =>
  have hl:0<l.length:=by rw[List.length_cons] at a;omega
  rw[List.length_cons] at a;cases j:l.length with
  |zero=>omega
  |succ m =>
   simp only[Z1p];split
   ·rename_i f;have hp:=Z0R (l:=b::r) (by simp) f;have e:l.drop (skp false l+(tok (b::r)).2.1.length)=(b::r).drop (tok (b::r)).2.1.length:=by rw[<- i,List.drop_drop]
    rw[e,List.drop_drop];have k:((b::r).drop ((tok (b::r)).2.1.length+skp false ((b::r).drop (tok (b::r)).2.1.length))).length<r.length+1:=by
     rw[List.length_drop,List.length_cons];omega
    have g:((b::r).drop ((tok (b::r)).2.1.length+skp false ((b::r).drop (tok (b::r)).2.1.length))).length<((b::r).drop (tok (b::r)).2.1.length).length+1:=by
     simp only[List.length_drop];omega
    rw[Z7o (m+1) (((b::r).drop (tok (b::r)).2.1.length).length+1) _ _ (by omega) g]
   ·rfl
def shift (d:Nat) (r:List Tk × Option (Nat × Int) × Nat):List Tk × Option (Nat × Int) × Nat:=(r.1.map λt=>(t.1,t.2.1,t.2.2+d),r.2.1.map λe=>(e.1+d,e.2),r.2.2+d)
def ans (r:List Tk × Option (Nat × Int) × Nat):List Tk × Int × Int:=match r with
 |(_,some (a,e),_)=>([],a,e)
 |(l,none,_)=>(l,0,0)
theorem Z9x (s:List UInt8):Qh s=if 32768<s.length then ([],0,3) else ans (run 0 s):=by
 unfold Qh run ans;rw[Nat.zero_add];all_goals rfl
theorem Z8T: ∀ (m:Nat) (l:List UInt8) (o:Nat),l.length<m-> ∀ a e,(run o l).2.1=some (a,e)->e≠0/\o<=a/\a<o+l.length/\(e=30\/e=31\/e=32):=by
 intro m;induction m with
 |zero=>intro l o h;omega
 |succ m s =>
  intro l o hm a e hr;have t:=Z1C false l;by_cases h:skp false l=l.length
  ·rw[Z5z h] at hr;cases hr
  ·have g:l.drop (skp false l)≠[]:=λc=>by
    have:=congrArg List.length c;rw[List.length_drop,List.length_nil] at this;omega
   rw[Z8S h] at hr;by_cases c:(tok (l.drop (skp false l))).2.2=0
   ·rw[if_pos c] at hr;have hp:=Z0R g c;have i:=Z5n (l.drop (skp false l));rw[List.length_drop] at i;obtain⟨h1,h2,d,f⟩:=s _ _ (by rw[List.length_drop];omega) a e hr;rw[List.length_drop] at d;exact⟨h1,by omega,by omega,f⟩
   ·rw[if_neg c] at hr;simp only[Option.some.injEq,Prod.mk.injEq] at hr;obtain⟨rfl,rfl⟩:=hr;refine⟨c,by omega,by omega,?_⟩;generalize l.drop (skp false l)=x at c ⊢;unfold tok at c ⊢;cases x with
    |nil=>simp at c
    |cons b r =>
     simp only at c ⊢;split at c
     ·rename_i h1;rw[if_pos h1];simp only[Z0x] at c ⊢;repeat' split at c
      all_goals first|(exact absurd rfl c)|skip
      rename_i j k p;rw[if_neg j,if_neg k,if_neg p];simp
     ·rename_i h1;rw[if_neg h1];split at c
      ·rename_i h2;rw[if_pos h2];simp only[Z9o] at c ⊢;split at c
       ·rename_i n q;repeat' split at c
        all_goals first|(exact absurd rfl c)|skip
        all_goals simp_all
       ·rename_i q;simp_all
      ·rename_i h2;rw[if_neg h2];split at c
       ·rename_i d;rw[if_pos d];simp only at c ⊢;split at c
        ·exact absurd rfl c
        ·rename_i f;rw[if_neg f];simp
       ·rename_i d;rw[if_neg d];simp only at c ⊢;split at c
        ·rename_i f;rw[if_pos f];simp
        ·exact absurd rfl c
end Go.Sx.Lx
namespace Go.Sx.Lx
theorem Z6C: ∀ (m:Nat) (l:List UInt8) (o:Nat),l.length<m->(run o l).1.length<=l.length/\ ∀ t∈(run o l).1,(o:Int)<=t.2.2/\t.2.2+t.2.1.length<=o+l.length:=by
 intro m;induction m with
 |zero=>intro l o h;omega
 |succ m e =>
  intro l o hm;have f:=Z1C false l;by_cases h:skp false l=l.length
  ·rw[Z5z h];exact⟨by simp,λt a=>by cases a⟩
  ·have c:l.drop (skp false l)≠[]:=λb=>by
    have:=congrArg List.length b;rw[List.length_drop,List.length_nil] at this;omega
   rw[Z8S h];by_cases b:(tok (l.drop (skp false l))).2.2=0
   ·rw[if_pos b];have hp:=Z0R c b;have d:=Z5n (l.drop (skp false l));rw[List.length_drop] at d;obtain⟨h1,h2⟩:=e (l.drop (skp false l+(tok (l.drop (skp false l))).2.1.length)) (o+skp false l+(tok (l.drop (skp false l))).2.1.length) (by rw[List.length_drop];omega);rw[List.length_drop] at h1 h2;refine⟨by simp only[List.length_cons];omega,λt a=>?_⟩;rcases List.mem_cons.1 a with rfl|a
    ·simp only;omega
    ·have:=h2 t a;omega
   ·rw[if_neg b];exact⟨by simp,λt a=>by cases a⟩
end Go.Sx.Lx
namespace Go.Sx.Lx
theorem Z0j (p:UInt8->Bool) (l:List UInt8):(l.takeWhile p).takeWhile p=l.takeWhile p:=by
 induction l with
 |nil=>rfl
 |cons b r a =>
  rw[List.takeWhile_cons];split
  ·rename_i h;rw[List.takeWhile_cons,if_pos h,a]
  ·rfl
theorem Z8H: ∀ s∈Z42,Qm s=s:=by decide +kernel
theorem Z7s: ∀ s∈Z42,∀ b∈s.head?,Z09 b=false/\QR b=false/\Qx b=false/\(b == 35)=false:=by decide +kernel
theorem Z7t {l:List UInt8} (h:Qm l≠[]):Qm l∈Z42:=by
 unfold Qm at h ⊢;cases hf:Z42.find? (·.isPrefixOf l) with
 |none=>rw[hf] at h;exact absurd rfl h
 |some s=>exact List.mem_of_find?_eq_some hf
theorem Zbh {l:List UInt8} (hl:l≠[]) (h:(tok l).2.2=0):tok (tok l).2.1=tok l:=by
 cases l with
 |nil=>exact absurd rfl hl
 |cons b r =>
  by_cases h1:(Z09 b ||QR b)=true
  ·have e:tok (b::r)=((Z0x ((b::r).takeWhile Q0)).1,(b::r).takeWhile Q0,(Z0x ((b::r).takeWhile Q0)).2):=by simp only[tok,h1,if_true]
   have d:Q0 b=true:=by simp only[Q0];simp only[Bool.or_eq_true] at h1 ⊢;rcases h1 with h|h<;>simp[h]
   have f:(b::r).takeWhile Q0=b::r.takeWhile Q0:=by rw[List.takeWhile_cons,if_pos d]
   rw[e];simp only;rw[f];simp only[tok,h1,if_true];have g:(b::r.takeWhile Q0).takeWhile Q0=b::r.takeWhile Q0:=by rw[List.takeWhile_cons,if_pos d,Z0j]
   rw[g]
  ·by_cases h2:Qx b=true
   ·have e:tok (b::r)=(3,(b::r).takeWhile Qx,Z9o ((b::r).takeWhile Qx)):=by simp only[tok,h1,h2,if_true,if_false];simp
    have f:(b::r).takeWhile Qx=b::r.takeWhile Qx:=by rw[List.takeWhile_cons,if_pos h2]
    have g:(b::r.takeWhile Qx).takeWhile Qx=b::r.takeWhile Qx:=by rw[List.takeWhile_cons,if_pos h2,Z0j]
    rw[e];simp only;rw[f];simp only[tok,h1,h2,if_true,g];simp
   ·by_cases c:(b == 35)=true
    ·have e:tok (b::r)=(5,35::r.takeWhile Z09,if 35::r.takeWhile Z09∈Zhh then 0 else 31):=by simp only[tok,h1,h2,c,if_true];simp
     have d:b=35:=eq_of_beq c;subst d;rw[e];have i:tok (35::r.takeWhile Z09)=(5,35::(r.takeWhile Z09).takeWhile Z09,if 35::(r.takeWhile Z09).takeWhile Z09∈Zhh then 0 else 31):=by simp only[tok,h1,h2,c,if_true];simp
     rw[i,Z0j]
    ·have e:tok (b::r)=(6,Qm (b::r),if Qm (b::r)=[] then 30 else 0):=by simp only[tok,h1,h2,c];simp
     rw[e] at h ⊢;simp only at h ⊢;by_cases hs:Qm (b::r)=[]
     ·rw[if_pos hs] at h;cases h
     ·have hm:=Z7t hs;have a:=Z8H _ hm;have hf:=Z7s _ hm;generalize Qm (b::r)=s at hs hm a hf ⊢;cases s with
      |nil=>exact absurd rfl hs
      |cons x s =>
       obtain⟨j,k,m,n⟩:=hf x rfl;simp only[tok,j,k,m,n,Bool.or_self,Bool.false_eq_true,if_false,a]
def Val (t:Tk):Prop:=t.2.1≠[]/\tok t.2.1=(t.1,t.2.1,0)
theorem Zho {l:List UInt8} (hl:l≠[]) (h:(tok l).2.2=0) (a:Int):Val ((tok l).1,(tok l).2.1,a):=by
 have hp:=Z0R hl h;refine⟨λb=>by rw[b] at hp;simp at hp,?_⟩;rw[Zbh hl h];exact Prod.ext rfl (Prod.ext rfl h)
theorem Z8R: ∀ (m:Nat) (l:List UInt8) (o:Nat),l.length<m-> ∀ t∈(run o l).1,Val t:=by
 intro m;induction m with
 |zero=>intro l o h;omega
 |succ m d =>
  intro l o hm;have e:=Z1C false l;by_cases h:skp false l=l.length
  ·rw[Z5z h];intro t a;cases a
  ·have c:l.drop (skp false l)≠[]:=λb=>by
    have:=congrArg List.length b;rw[List.length_drop,List.length_nil] at this;omega
   rw[Z8S h];by_cases b:(tok (l.drop (skp false l))).2.2=0
   ·rw[if_pos b];have hp:=Z0R c b;intro t a;rcases List.mem_cons.1 a with rfl|a
    ·exact Zho c b _
    ·exact d (l.drop (skp false l+(tok (l.drop (skp false l))).2.1.length)) _ (by rw[List.length_drop];omega) t a
   ·rw[if_neg b];intro t a;cases a
end Go.Sx.Lx
namespace Go.Sx.Lx
end Go.Sx.Lx
namespace Go.Sx.Lx
def Zll:List (List UInt8):=[[32],[10],[9,32],[37,10],[32,37,32,97,46,32,35,120,10],[13,10]]
def Zl2 (g:Int):Int:=Zl1 g 6
def Zdq (g:Int):List UInt8:=Zll.getD (Zl2 g).toNat []
def gapF (a:List Int) (i:Nat):Int:=if i<a.length then a.getD i 0 else i
def finB (a:List Int):Nat->List Tk->List UInt8->List Int->List UInt8 × List Int
 |_,[],s,o=>(s,o)
 |i,t::r,s,o=>finB a (i+1) r (s++Zdq (gapF a i)++t.2.1) (o++[((s++Zdq (gapF a i)).length:Int)])
end Go.Sx.Lx
