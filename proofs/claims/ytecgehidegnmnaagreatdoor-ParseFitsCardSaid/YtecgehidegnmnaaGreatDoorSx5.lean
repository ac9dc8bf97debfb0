/- Own work: a layer over the kit: plain data,a walk over it,its soundness. -/
import Derived.Test.YtecgehidegnmnaaGreatDoorSx4
set_option linter.all false
namespace Go.Sx
open Go.RowKit
variable [Globs] [Codes]
section
variable {P:Program} {dst:Nat} {obs:Nat->Option Ob} {K K':D->Option Ob->Prop}
theorem Zat {op:BinOp} {k:IntKind} {a b:Int} {K K':D->Prop} (h:binI op k a b K) (c: ∀ d,K d->K' d):binI op k a b K':=by
 cases op<;>simp only[binI] at h ⊢<;>first|exact c _ h|exact⟨h.1,c _ h.2⟩|exact h.elim
theorem Zar {op:BinOp} {a b:List UInt8} {K K':D->Prop} (h:binS op a b K) (c: ∀ d,K d->K' d):binS op a b K':=by
 cases op<;>simp only[binS] at h ⊢<;>first|exact c _ h|exact⟨h.1,c _ h.2⟩|exact h.elim
theorem Zcm {d:D} (h:evl P dst .b2s [d] obs K) (c: ∀ d nb,K d nb->K' d nb):evl P dst .b2s [d] obs K':=by
 simp only[evl] at h ⊢;cases a:Z1Z obs d with
 |none=>rw[a] at h;exact h
 |some es=>rw[a] at h;exact⟨h.1,c _ _ h.2⟩
theorem Zba {agg:Bool} {sz id i j a:Nat} (h:evl P dst (.load agg sz) [.vptr id i j a] obs K) (f: ∀ d nb,K d nb->K' d nb):evl P dst (.load agg sz) [.vptr id i j a] obs K':=by
 simp only[evl] at h ⊢;cases g:obs id with
 |none=>rw[g] at h;exact h.elim
 |some o =>
  rw[g] at h;cases o with
  |cells _=>exact h.elim
  |gen _ _=>exact h.elim
  |arr fz k e es =>
   cases fz with
   |true=>exact h.elim
   |false =>
    refine⟨h.1,h.2.1,?_⟩;have h2:=h.2.2;cases hi:es[i]? with
    |none=>rw[hi] at h2;exact h2.elim
    |some cs =>
     rw[hi] at h2;cases agg with
     |true=>exact f _ _ h2
     |false =>
      simp only[Bool.false_eq_true,if_false] at h2 ⊢;cases c:cs[j]? with
      |none=>rw[c] at h2;exact h2.elim
      |some d=>rw[c] at h2;exact f _ _ h2
theorem Z7N {kd:Option IntKind} {z key:D} {id:Nat} (h:evl P dst (.mlook kd z) [.map id,key] obs K) (c: ∀ d nb,K d nb->K' d nb):evl P dst (.mlook kd z) [.map id,key] obs K':=by
 simp only[evl] at h ⊢;cases a:obs id with
 |none=>rw[a] at h;exact h.elim
 |some o =>
  rw[a] at h;cases o with
  |cells _=>exact h.elim
  |arr _ _ _ _=>exact h.elim
  |gen g ds =>
   cases g with
   |loop=>exact h.elim
   |mapC=>exact h.elim
   |mapB=>exact h.elim
   |mapS=>exact h.elim
   |iter=>exact h.elim
   |map ks =>
    refine⟨h.1,?_⟩;have h2:=h.2;cases hf:Z2r key ks ds with
    |none=>rw[hf] at h2;exact h2.elim
    |some r=>rw[hf] at h2;exact c _ _ h2
theorem Z4l {op:AOp} {xs:List D} (h:evl P dst op xs obs K) (f: ∀ d nb,K d nb->K' d nb):evl P dst op xs obs K':=by
 by_cases i:op=.b2s/\ ∃ d,xs=[d]
 ·obtain⟨rfl,d,rfl⟩:=i;exact Zcm h f
 by_cases hl:(∃ a s,op=.load a s)/\ ∃ a b c d,xs=[.vptr a b c d]
 ·obtain⟨⟨_,_,rfl⟩,_,_,_,_,rfl⟩:=hl;exact Zba h f
 by_cases g:(∃ a s,op=.mlook a s)/\ ∃ a b,xs=[.map a,b]
 ·obtain⟨⟨_,_,rfl⟩,_,_,rfl⟩:=g;exact Z7N h f
 unfold evl at h;split at h;all_goals try exact absurd ⟨rfl,_,rfl⟩ i
 all_goals try exact absurd ⟨⟨_,_,rfl⟩,_,_,_,_,rfl⟩ hl
 all_goals try exact absurd ⟨⟨_,_,rfl⟩,_,_,rfl⟩ g
 all_goals clear i hl g
 all_goals try simp only[evl]
 all_goals first
  |exact h.elim
  |exact⟨h.1,Zat h.2 λd=>f d none⟩
  |exact Zar h λd=>f d none
  |exact f _ _ h
  |exact⟨h.1,f _ _ h.2⟩
  |exact⟨h.1,h.2.1,f _ _ h.2.2⟩
  |exact⟨h.1,h.2.1,h.2.2.1,f _ _ h.2.2.2⟩
  |skip
 all_goals first
  |(obtain⟨r,hr,j⟩:=h;refine⟨r,hr,?_⟩;cases r<;>exact f _ _ j)
  |skip
 all_goals
  repeat' split at h
 all_goals first
  |exact h.elim
  |(simp[*] at *;done)
  |exact f _ _ h
  |exact⟨h.1,f _ _ h.2⟩
  |exact⟨h.1,h.2.1,f _ _ h.2.2⟩
  |exact⟨h.1,h.2.1,h.2.2.1,f _ _ h.2.2.2⟩
  |exact⟨h.1,h.2.1,h.2.2.1,h.2.2.2.1,f _ _ h.2.2.2.2⟩
  |skip
 all_goals
  repeat' split
 all_goals first
  |contradiction
  |exact f _ _ h
  |exact⟨h.1,f _ _ h.2⟩
  |exact⟨h.1,h.2.1,f _ _ h.2.2⟩
  |exact⟨h.1,h.2.1,h.2.2.1,f _ _ h.2.2.2⟩
  |exact⟨h.1,h.2.1,h.2.2.1,h.2.2.2.1,f _ _ h.2.2.2.2⟩
  |skip
end
theorem Zjp {P:Program} {dst:Nat} {obs:Nat->Option Ob} {K:D->Option Ob->Prop} {op:AOp} {xs:List D} (h:evl P dst op xs obs K): ∃ d nb,K d nb:=by
 apply Classical.byContradiction;intro c;have h':evl P dst op xs obs λ_ _=>False:=Z4l h λd nb f=>c ⟨d,nb,f⟩;clear h c;unfold evl at h';split at h';all_goals first
  |exact h'
  |exact h'.2
  |exact h'.2.2
  |exact h'.2.2.2
  |(rename_i a _ _ _ _;cases a<;>simp[binI,binS] at h';done)
  |(rename_i a _ _;cases a<;>simp[binI,binS] at h';done)
  |skip
 all_goals first
  |(obtain⟨r,_,h'⟩:=h';cases r<;>exact h')
  |skip
 all_goals
  repeat' split at h'
 all_goals first
  |exact h'
  |exact h'.2
  |exact h'.2.2
  |exact h'.2.2.2
  |exact h'.2.2.2.2
  |skip
theorem Z6R {α:Type}: ∀ {l:List (Nat × α)} {i:Nat} {x:α},lk l i=some x-> ∃ p∈l,p.1=i
 |[],_,_,h=>by simp[lk] at h
 |(j,a)::r,i,x,h=>by
  simp only[lk] at h;split at h
  ·rename_i e;exact⟨(j,a),by simp,e.symm⟩
  ·obtain⟨p,hp,e⟩:=Z6R h;exact⟨p,List.mem_cons_of_mem _ hp,e⟩
theorem Z9j {n:Nat}: ∀ {ob:Obs},Obs.top ob<=n-> ∀ {p},p∈ob->D.topL p.2.parts<=n
 |[],_,p,hp=>by cases hp
 |(j,a)::r,h,p,hp=>by
  simp only[Obs.top] at h;rcases List.mem_cons.1 hp with rfl|hp
  ·show D.topL a.parts<=n;omega
  ·exact Z9j (ob:=r) (by omega) hp
def Alike (s s':St):Prop:=(∀ t,lk s.tm t=lk s'.tm t)/\ ∀ i,lk s.ob i=lk s'.ob i
theorem Alike.refl (s:St):Alike s s:=⟨λ_=>rfl,λ_=>rfl⟩
theorem Alike.of_eq {s s':St} (h:s=s'):Alike s s':=h ▸ Alike.refl s
theorem Z45: ∀ (l:List (Nat × Option Ob)) (ob:Obs) (i:Nat),lk (setO l ob) i=match lk l i with|some x=>x|none=>lk ob i
 |[],ob,i=>rfl
 |(j,none)::r,ob,i=>by
  simp only[setO,lk];rw[ZD];split
  ·rfl
  ·exact Z45 r ob i
 |(j,some o)::r,ob,i=>by
  simp only[setO,lk];split
  ·rfl
  ·rename_i hi;rw[ZD,if_neg hi];exact Z45 r ob i
theorem Ziu {α β:Type} (f:α->β): ∀ (l:List (Nat × α)) (i:Nat),lk (l.map λp=>(p.1,f p.2)) i=(lk l i).map f:=Z6P f
theorem Z2R {α:Type} (x:α): ∀ (nm:List Nat) (i:Nat),lk (nm.map λj=>(j,x)) i=if i∈nm then some x else none
 |[],i=>by simp[lk]
 |j::r,i=>by
  simp only[List.map_cons,lk,List.mem_cons];by_cases h:i=j
  ·simp[h]
  ·simp[h,Z2R x r i]
theorem Z6E {f:Nat->Nat} {g:Nat->Option Nat}: ∀ {l:Obs} {i:Nat} {o:Ob},lk (renO f g l) i=some o-> ∃ j,f j=i
 |[],i,o,h=>by simp[renO,lk] at h
 |(j,x)::r,i,o,h=>by
  simp only[renO,lk] at h;split at h
  ·rename_i e;exact⟨j,e.symm⟩
  ·exact Z6E (l:=r) h
section has
variable {P:Program} {b:Nat} {s s':St} {e:Eff}
theorem Z1V {o:SOp} (hh:Has P b o s e) (f:e.ob≠[]-> ∀ t,o.dst=some t->s.clean (b+t)=true) (p: ∀ q,e.cd=some q->s.top<=q):stp P b o s (λs1=>Alike s1 (s.app e)):=by
 cases o with
 |a dst g op xs =>
  refine Qj (λc=>?_) (λh=>?_) hh
  ·obtain⟨_,_,l⟩:=c;refine Z4l l λd nb G=>?_;obtain⟨h1,h2⟩:=G;cases nb with
   |none =>
    simp only at h2;refine Alike.of_eq ?_;cases dst<;>simp_all [St.put,St.app,setO]
   |some ob =>
    obtain⟨h2,l⟩:=h2;cases dst with
    |none=>cases h2
    |some t =>
     refine⟨f (by rw[l];simp) t rfl,Alike.of_eq ?_⟩;simp_all [St.put2,St.app,setO]
  ·subst h;refine Alike.of_eq ?_;cases dst<;>rfl
 |st g sz x y =>
  refine Qj (λc=>?_) (λh=>?_) hh
  ·simp only[HasB] at c;split at c
   ·rename_i N O id ob C;obtain⟨h1,rfl⟩:=c;try simp only[C]
    exact⟨h1,Alike.of_eq rfl⟩
   ·exact c.elim
  ·subst h;exact Alike.of_eq rfl
 |app dst g fz sz R x y =>
  refine Qj (λc=>?_) (λh=>?_) hh
  ·simp only[HasB] at c;split at c
   ·rename_i ys _ B;obtain⟨h1,h2⟩:=c;try simp only[B]
    refine⟨h1,?_⟩;split at h2
    ·rename_i hx;try simp only[hx]
     obtain⟨h2,rfl⟩:=h2;exact⟨h2,f (by simp) dst rfl,Alike.of_eq rfl⟩
    ·rename_i id hx;try simp only[hx]
     split at h2
     ·rename_i E M Q es hl;try simp only[hl]
      obtain⟨I,J,L,rfl⟩:=h2;exact⟨I,J,L,f (by simp) dst rfl,Alike.of_eq rfl⟩
     ·exact h2.elim
    ·exact h2.elim
   ·exact c.elim
  ·subst h;exact Alike.of_eq rfl
 |cd dst g x xs =>
  refine Qj (λc=>?_) (λh=>?_) hh
  ·obtain⟨nm,r,ob',base,h1,h2,l,F,z,rfl⟩:=c;have n:=p base rfl;refine⟨nm,_,base,h1,h2,l,n,F,?_⟩;rintro r0 ob0 ⟨rfl,rfl⟩;refine⟨z,λt=>?_,λi=>?_⟩
   ·cases dst<;>rfl
   ·have w:lk (St.put (s.back base nm ob0) dst (r0.ren (bkN base nm))).ob i=lk (Z5X nm s.ob++renO (λj=>match nm[j]? with|some i=>i|none=>base+j) (bkN base nm) ob0) i:=by cases dst<;>rfl
    rw[w];show _=lk (setO _ s.ob) i;rw[Z45,Z08,Z08,Ziu,Z2R,Z2w];cases H:lk (renO (λj=>match nm[j]? with|some i=>i|none=>base+j) (bkN base nm) ob0) i with
    |some o =>
     simp only[Option.map_some,Option.some_or];by_cases hi:i∈nm
     ·simp[hi]
     ·have u:s.top<=i:=by
       obtain⟨j,m⟩:=Z6E H;cases v:nm[j]? with
       |some S=>rw[v] at m;simp only at m;subst m;exact absurd (List.mem_of_getElem? v) hi
       |none=>rw[v] at m;simp only at m;omega
      have k:lk s.ob i=none:=by
       cases A:lk s.ob i with
       |none=>rfl
       |some o2 =>
        have:=(Obs.top_get (Nat.le_trans (Nat.le_max_right _ _) u:Obs.top s.ob<=i) A).1;omega
      simp[hi,k]
    |none =>
     simp only[Option.map_none,Option.none_or,Option.or_none];by_cases hi:i∈nm<;>simp[hi]
  ·subst h;refine Alike.of_eq ?_;cases dst<;>rfl
end has
end Go.Sx
