/- Own work: a layer over the kit: plain data,a walk over it,its soundness. -/
import Derived.Test.YtaclfbhhekhflaaGreatDoorSx4
set_option linter.all false
namespace Go.Sx
open Go.RowKit
variable [Globs] [Codes]
section
variable {P:Program} {dst:Nat} {obs:Nat->Option Ob} {K K':D->Option Ob->Prop}
theorem Z7d {op:BinOp} {k:IntKind} {a b:Int} {K K':D->Prop} (h:binI op k a b K) (hk: ∀ d,K d->K' d):binI op k a b K':=by cases op<;>grind [binI]
theorem Z7c {op:BinOp} {a b:List UInt8} {K K':D->Prop} (h:binS op a b K) (hk: ∀ d,K d->K' d):binS op a b K':=by cases op<;>grind [binS]
theorem Za8 {d:D} (h:evl P dst .b2s [d] obs K) (hk: ∀ d nb,K d nb->K' d nb):evl P dst .b2s [d] obs K':=by grind [evl,Z2H]
theorem Zfj {agg:Bool} {sz id i j a:Nat} (h:evl P dst (.load agg sz) [.vptr id i j a] obs K) (hk: ∀ d nb,K d nb->K' d nb):evl P dst (.load agg sz) [.vptr id i j a] obs K':=by grind [evl]
theorem Z4L {kd:Option IntKind} {z key:D} {id:Nat} (h:evl P dst (.mlook kd z) [.map id,key] obs K) (hk: ∀ d nb,K d nb->K' d nb):evl P dst (.mlook kd z) [.map id,key] obs K':=by grind [evl,Z2K]
theorem Z5O {op:AOp} {xs:List D} (h:evl P dst op xs obs K) (hk: ∀ d nb,K d nb->K' d nb):evl P dst op xs obs K':=by
 by_cases g:op=.b2s/\ ∃ d,xs=[d]
 ·obtain⟨rfl,d,rfl⟩:=g;exact Za8 h hk
 by_cases hl:(∃ a s,op=.load a s)/\ ∃ a b c d,xs=[.vptr a b c d]
 ·grind [Za8,Zfj,Z4L,Z7d,Z7c,evl]
 by_cases f:(∃ a s,op=.mlook a s)/\ ∃ a b,xs=[.map a,b]
 ·obtain⟨⟨_,_,rfl⟩,_,_,rfl⟩:=f;exact Z4L h hk
 unfold evl at h;split at h;all_goals try exact absurd ⟨rfl,_,rfl⟩ g
 all_goals try exact absurd ⟨⟨_,_,rfl⟩,_,_,_,_,rfl⟩ hl
 all_goals try exact absurd ⟨⟨_,_,rfl⟩,_,_,rfl⟩ f
 all_goals clear g hl f
 all_goals try simp only[evl]
 all_goals first
  |exact h.elim
  |exact⟨h.1,Z7d h.2 λd=>hk d none⟩
  |exact Z7c h λd=>hk d none
  |exact hk _ _ h
  |exact⟨h.1,hk _ _ h.2⟩
  |exact⟨h.1,h.2.1,hk _ _ h.2.2⟩
  |exact⟨h.1,h.2.1,h.2.2.1,hk _ _ h.2.2.2⟩
  |skip
 all_goals first
  |(obtain⟨r,hr,i⟩:=h;refine⟨r,hr,?_⟩;cases r<;>exact hk _ _ i)
  |skip
 all_goals
  repeat' split at h
 all_goals first
  |exact h.elim
  |(simp[*] at *;done)
  |exact hk _ _ h
  |exact⟨h.1,hk _ _ h.2⟩
  |exact⟨h.1,h.2.1,hk _ _ h.2.2⟩
  |exact⟨h.1,h.2.1,h.2.2.1,hk _ _ h.2.2.2⟩
  |exact⟨h.1,h.2.1,h.2.2.1,h.2.2.2.1,hk _ _ h.2.2.2.2⟩
  |skip
 all_goals
  repeat' split
 all_goals first
  |contradiction
  |exact hk _ _ h
  |exact⟨h.1,hk _ _ h.2⟩
  |exact⟨h.1,h.2.1,hk _ _ h.2.2⟩
  |exact⟨h.1,h.2.1,h.2.2.1,hk _ _ h.2.2.2⟩
  |exact⟨h.1,h.2.1,h.2.2.1,h.2.2.2.1,hk _ _ h.2.2.2.2⟩
  |skip
end
theorem Zdz {P:Program} {dst:Nat} {obs:Nat->Option Ob} {K:D->Option Ob->Prop} {op:AOp} {xs:List D} (h:evl P dst op xs obs K): ∃ d nb,K d nb:=by
 apply Classical.byContradiction;intro c;have h':evl P dst op xs obs λ_ _=>False:=Z5O h λd nb hk=>c ⟨d,nb,hk⟩;clear h c;unfold evl at h';split at h';all_goals first
  |exact h'
  |exact h'.2
  |exact h'.2.2
  |exact h'.2.2.2
  |(rename_i a _ _ _ _;cases a<;>simp[binI,binS] at h';done)
  |(rename_i a _ _;cases a<;>simp[binI,binS] at h';done)
  |skip
 all_goals first
  |(obtain⟨r,_,h'⟩:=h';cases r<;>exact h')
  |skip
 all_goals
  repeat' split at h'
 all_goals first
  |exact h'
  |exact h'.2
  |exact h'.2.2
  |exact h'.2.2.2
  |exact h'.2.2.2.2
  |skip
theorem Z9B {α:Type}: ∀ {l:List (Nat × α)} {i:Nat} {x:α},lk l i=some x-> ∃ p∈l,p.1=i
 |[],_,_,h=>by simp[lk] at h
 |(j,a)::r,i,x,h=>by
  simp only[lk] at h;split at h
  ·rename_i e;exact⟨(j,a),by simp,e.symm⟩
  ·obtain⟨p,hp,e⟩:=Z9B h;exact⟨p,List.mem_cons_of_mem _ hp,e⟩
theorem ZcJ {n:Nat}: ∀ {ob:Obs},Obs.top ob<=n-> ∀ {p},p∈ob->D.topL p.2.parts<=n
 |[],_,p,hp=>by cases hp
 |(j,a)::r,h,p,hp=>by
  simp only[Obs.top] at h;rcases List.mem_cons.1 hp with rfl|hp
  ·show D.topL a.parts<=n;omega
  ·exact ZcJ (ob:=r) (by omega) hp
def Alike (s s':St):Prop:=(∀ t,lk s.tm t=lk s'.tm t)/\ ∀ i,lk s.ob i=lk s'.ob i
theorem Alike.refl (s:St):Alike s s:=⟨λ_=>rfl,λ_=>rfl⟩
theorem Alike.of_eq {s s':St} (h:s=s'):Alike s s':=h ▸ Alike.refl s
theorem Z5m: ∀ (l:List (Nat × Option Ob)) (ob:Obs) (i:Nat),lk (setO l ob) i=match lk l i with|some x=>x|none=>lk ob i
 |[],ob,i=>rfl
 |(j,none)::r,ob,i=>by
  simp only[setO,lk];rw[Zy];split
  ·rfl
  ·exact Z5m r ob i
 |(j,some o)::r,ob,i=>by
  simp only[setO,lk];split
  ·rfl
  ·rename_i hi;rw[Zy,if_neg hi];exact Z5m r ob i
theorem Zqf {α β:Type} (f:α->β): ∀ (l:List (Nat × α)) (i:Nat),lk (l.map λp=>(p.1,f p.2)) i=(lk l i).map f:=Zg6 f
theorem Z7V {α:Type} (x:α): ∀ (nm:List Nat) (i:Nat),lk (nm.map λj=>(j,x)) i=if i∈nm then some x else none:=by intro nm;induction nm<;>grind [lk]
theorem Z9g {f:Nat->Nat} {g:Nat->Option Nat}: ∀ {l:Obs} {i:Nat} {o:Ob},lk (renO f g l) i=some o-> ∃ j,f j=i
 |[],i,o,h=>by simp[renO,lk] at h
 |(j,x)::r,i,o,h=>by
  simp only[renO,lk] at h;split at h
  ·rename_i e;exact⟨j,e.symm⟩
  ·exact Z9g (l:=r) h
section has
variable {P:Program} {b:Nat} {s s':St} {e:Eff}
theorem Z2F {o:SOp} (hh:Has P b o s e) (f:e.ob≠[]-> ∀ t,o.dst=some t->s.clean (b+t)=true) (p: ∀ q,e.cd=some q->s.top<=q):stp P b o s (λs1=>Alike s1 (s.app e)):=by
 cases o with
 |a dst g op xs =>
  refine Qb (λc=>?_) (λh=>?_) hh
  ·obtain⟨_,_,l⟩:=c;refine Z5O l λd nb hk=>?_;obtain⟨h1,h2⟩:=hk;cases nb with
   |none =>
    simp only at h2;refine Alike.of_eq ?_;cases dst<;>simp_all [St.put,St.app,setO]
   |some ob =>
    obtain⟨h2,l⟩:=h2;cases dst with
    |none=>cases h2
    |some t =>
     refine⟨f (by rw[l];simp) t rfl,Alike.of_eq ?_⟩;simp_all [St.put2,St.app,setO]
  ·subst h;refine Alike.of_eq ?_;cases dst<;>rfl
 |st g sz x y =>
  refine Qb (λc=>?_) (λh=>?_) hh
  ·simp only[HasB] at c;split at c
   ·rename_i M N id ob C;obtain⟨h1,rfl⟩:=c;try simp only[C]
    exact⟨h1,Alike.of_eq rfl⟩
   ·exact c.elim
  ·subst h;exact Alike.of_eq rfl
 |app dst g fz sz Q x y =>
  refine Qb (λc=>?_) (λh=>?_) hh
  ·simp only[HasB] at c;split at c
   ·rename_i ys _ B;obtain⟨h1,h2⟩:=c;try simp only[B]
    refine⟨h1,?_⟩;split at h2
    ·rename_i hx;try simp only[hx]
     obtain⟨h2,rfl⟩:=h2;exact⟨h2,f (by simp) dst rfl,Alike.of_eq rfl⟩
    ·rename_i id hx;try simp only[hx]
     split at h2
     ·rename_i E L O es hl;try simp only[hl]
      obtain⟨H,I,J,rfl⟩:=h2;exact⟨H,I,J,f (by simp) dst rfl,Alike.of_eq rfl⟩
     ·exact h2.elim
    ·exact h2.elim
   ·exact c.elim
  ·subst h;exact Alike.of_eq rfl
 |cd dst g x xs =>
  refine Qb (λc=>?_) (λh=>?_) hh
  ·obtain⟨nm,r,ob',base,h1,h2,l,F,z,rfl⟩:=c;have n:=p base rfl;refine⟨nm,_,base,h1,h2,l,n,F,?_⟩;rintro r0 ob0 ⟨rfl,rfl⟩;refine⟨z,λt=>?_,λi=>?_⟩
   ·cases dst<;>rfl
   ·have w:lk (St.put (s.back base nm ob0) dst (r0.ren (bkN base nm))).ob i=lk (Zba nm s.ob++renO (λj=>match nm[j]? with|some i=>i|none=>base+j) (bkN base nm) ob0) i:=by cases dst<;>rfl
    rw[w];show _=lk (setO _ s.ob) i;rw[Z5m,Z08,Z08,Zqf,Z7V,Z9X];cases G:lk (renO (λj=>match nm[j]? with|some i=>i|none=>base+j) (bkN base nm) ob0) i with
    |some o =>
     simp only[Option.map_some,Option.some_or];by_cases hi:i∈nm
     ·simp[hi]
     ·have u:s.top<=i:=by
       obtain⟨j,m⟩:=Z9g G;cases v:nm[j]? with
       |some R=>rw[v] at m;simp only at m;subst m;exact absurd (List.mem_of_getElem? v) hi
       |none=>rw[v] at m;simp only at m;omega
      have k:lk s.ob i=none:=by
       cases A:lk s.ob i with
       |none=>rfl
       |some o2 =>
        have:=(Obs.top_get (Nat.le_trans (Nat.le_max_right _ _) u:Obs.top s.ob<=i) A).1;omega
      simp[hi,k]
    |none =>
     grind
  ·subst h;refine Alike.of_eq ?_;cases dst<;>rfl
end has
end Go.Sx
