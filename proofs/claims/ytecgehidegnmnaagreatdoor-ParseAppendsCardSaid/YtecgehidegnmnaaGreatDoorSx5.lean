/- Own work: a layer over the kit: plain data,a walk over it,its soundness. -/
import Derived.Test.YtecgehidegnmnaaGreatDoorSx4
set_option linter.unusedSectionVars false
set_option linter.unusedVariables false
set_option linter.unusedSimpArgs false
set_option linter.deprecated false
namespace Go.Sx
open Go.RowKit
variable [Globs] [Codes]
section
variable {P:Program} {dst:Nat} {obs:Nat->Option Ob} {K K':D->Option Ob->Prop}
theorem ZaY {op:BinOp} {k:IntKind} {a b:Int} {K K':D->Prop} (h:binI op k a b K) (hk: ∀ d,K d->K' d):binI op k a b K':=by
 cases op <;> simp only[binI] at h ⊢ <;> first | exact hk _ h | exact⟨h.1,hk _ h.2⟩ | exact h.elim
theorem ZaW {op:BinOp} {a b:List UInt8} {K K':D->Prop} (h:binS op a b K) (hk: ∀ d,K d->K' d):binS op a b K':=by
 cases op <;> simp only[binS] at h ⊢ <;> first | exact hk _ h | exact⟨h.1,hk _ h.2⟩ | exact h.elim
theorem ZcN {d:D} (h:evl P dst .b2s [d] obs K) (hk: ∀ d nb,K d nb->K' d nb):evl P dst .b2s [d] obs K':=by
 simp only[evl] at h ⊢
 cases hq:Z1Y obs d with
 | none=>rw[hq] at h; exact h
 | some es=>rw[hq] at h; exact⟨h.1,hk _ _ h.2⟩
theorem ZbC {agg:Bool} {sz id i j sz':Nat} (h:evl P dst (.load agg sz) [.vptr id i j sz'] obs K) (hk: ∀ d nb,K d nb->K' d nb):evl P dst (.load agg sz) [.vptr id i j sz'] obs K':=by
 simp only[evl] at h ⊢
 cases hq:obs id with
 | none=>rw[hq] at h; exact h.elim
 | some o =>
  rw[hq] at h
  cases o with
  | cells _=>exact h.elim
  | gen _ _=>exact h.elim
  | arr fz sz2 e es =>
   cases fz with
   | true=>exact h.elim
   | false =>
    refine⟨h.1,h.2.1, ?_⟩
    have h2:=h.2.2
    cases hi:es[i]? with
    | none=>rw[hi] at h2; exact h2.elim
    | some cs =>
     rw[hi] at h2
     cases agg with
     | true=>exact hk _ _ h2
     | false =>
      simp only[Bool.false_eq_true,if_false] at h2 ⊢
      cases hj:cs[j]? with
      | none=>rw[hj] at h2; exact h2.elim
      | some d=>rw[hj] at h2; exact hk _ _ h2
theorem Z8f {kd:Option IntKind} {z key:D} {id:Nat} (h:evl P dst (.mlook kd z) [.map id,key] obs K) (hk: ∀ d nb,K d nb->K' d nb):evl P dst (.mlook kd z) [.map id,key] obs K':=by
 simp only[evl] at h ⊢
 cases hq:obs id with
 | none=>rw[hq] at h; exact h.elim
 | some o =>
  rw[hq] at h
  cases o with
  | cells _=>exact h.elim
  | arr _ _ _ _=>exact h.elim
  | gen g ds =>
   cases g with
   | loop=>exact h.elim
   | mapC=>exact h.elim
   | mapB=>exact h.elim
   | mapS=>exact h.elim
   | iter=>exact h.elim
   | map ks =>
    refine⟨h.1, ?_⟩
    have h2:=h.2
    cases hf:Z2n key ks ds with
    | none=>rw[hf] at h2; exact h2.elim
    | some r=>rw[hf] at h2; exact hk _ _ h2
theorem Z4x {op:AOp} {xs:List D} (h:evl P dst op xs obs K) (hk: ∀ d nb,K d nb->K' d nb):evl P dst op xs obs K':=by
 by_cases hb:op= .b2s/\ ∃ d,xs=[d]
 ·obtain⟨rfl,d,rfl⟩:=hb; exact ZcN h hk
 by_cases hl:(∃ a s,op= .load a s)/\ ∃ a b c d,xs=[.vptr a b c d]
 ·obtain⟨⟨_,_,rfl⟩,_,_,_,_,rfl⟩:=hl; exact ZbC h hk
 by_cases hlm:(∃ a s,op= .mlook a s)/\ ∃ a b,xs=[.map a,b]
 ·obtain⟨⟨_,_,rfl⟩,_,_,rfl⟩:=hlm; exact Z8f h hk
 unfold evl at h
 split at h
 all_goals try exact absurd ⟨rfl,_,rfl⟩ hb
 all_goals try exact absurd ⟨⟨_,_,rfl⟩,_,_,_,_,rfl⟩ hl
 all_goals try exact absurd ⟨⟨_,_,rfl⟩,_,_,rfl⟩ hlm
 all_goals clear hb hl hlm
 all_goals try simp only[evl]
 all_goals first
  | exact h.elim
  | exact⟨h.1,ZaY h.2 fun d=>hk d none⟩
  | exact ZaW h fun d=>hk d none
  | exact hk _ _ h
  | exact⟨h.1,hk _ _ h.2⟩
  | exact⟨h.1,h.2.1,hk _ _ h.2.2⟩
  | exact⟨h.1,h.2.1,h.2.2.1,hk _ _ h.2.2.2⟩
  | skip
 all_goals first
  | (obtain⟨r,hr,hk'⟩:=h; refine⟨r,hr, ?_⟩; cases r <;> exact hk _ _ hk')
  | skip
 all_goals
  repeat' split at h
 all_goals first
  | exact h.elim
  | (simp[*] at *; done)
  | exact hk _ _ h
  | exact⟨h.1,hk _ _ h.2⟩
  | exact⟨h.1,h.2.1,hk _ _ h.2.2⟩
  | exact⟨h.1,h.2.1,h.2.2.1,hk _ _ h.2.2.2⟩
  | exact⟨h.1,h.2.1,h.2.2.1,h.2.2.2.1,hk _ _ h.2.2.2.2⟩
  | skip
 all_goals
  repeat' split
 all_goals first
  | contradiction
  | exact hk _ _ h
  | exact⟨h.1,hk _ _ h.2⟩
  | exact⟨h.1,h.2.1,hk _ _ h.2.2⟩
  | exact⟨h.1,h.2.1,h.2.2.1,hk _ _ h.2.2.2⟩
  | exact⟨h.1,h.2.1,h.2.2.1,h.2.2.2.1,hk _ _ h.2.2.2.2⟩
  | skip
end
theorem ZjC {P:Program} {dst:Nat} {obs:Nat->Option Ob} {K:D->Option Ob->Prop} {op:AOp} {xs:List D} (h:evl P dst op xs obs K): ∃ d nb,K d nb:=by
 apply Classical.byContradiction
 intro hn
 have h':evl P dst op xs obs fun _ _=>False:=Z4x h fun d nb hk=>hn ⟨d,nb,hk⟩
 clear h hn
 unfold evl at h'
 split at h'
 all_goals first
  | exact h'
  | exact h'.2
  | exact h'.2.2
  | exact h'.2.2.2
  | (rename_i op' _ _ _ _; cases op' <;> simp[binI,binS] at h'; done)
  | (rename_i op' _ _; cases op' <;> simp[binI,binS] at h'; done)
  | skip
 all_goals first
  | (obtain⟨r,_,h'⟩:=h'; cases r <;> exact h')
  | skip
 all_goals
  repeat' split at h'
 all_goals first
  | exact h'
  | exact h'.2
  | exact h'.2.2
  | exact h'.2.2.2
  | exact h'.2.2.2.2
  | skip
theorem Z7h {α:Type}: ∀ {l:List (Nat × α)} {i:Nat} {x:α},lk l i=some x-> ∃ p∈l,p.1=i
 | [],_,_,h=>by simp[lk] at h
 | (j,a)::r,i,x,h=>by
  simp only[lk] at h
  split at h
  ·rename_i e; exact⟨(j,a),by simp,e.symm⟩
  ·obtain⟨p,hp,e⟩:=Z7h h; exact⟨p,List.mem_cons_of_mem _ hp,e⟩
theorem Z9P {n:Nat}: ∀ {ob:Obs},Obs.top ob<=n-> ∀ {p},p∈ob->D.topL p.2.parts<=n
 | [],_,p,hp=>by cases hp
 | (j,a)::r,h,p,hp=>by
  simp only[Obs.top] at h
  rcases List.mem_cons.1 hp with rfl | hp
  ·show D.topL a.parts<=n; omega
  ·exact Z9P (ob:=r) (by omega) hp
def Alike (s s':St):Prop:=(∀ t,lk s.tm t=lk s'.tm t)/\ ∀ i,lk s.ob i=lk s'.ob i
theorem Alike.refl (s:St):Alike s s:=⟨fun _=>rfl,fun _=>rfl⟩
theorem Alike.of_eq {s s':St} (h:s=s'):Alike s s':=h ▸ Alike.refl s
theorem Z4f: ∀ (l:List (Nat × Option Ob)) (ob:Obs) (i:Nat),lk (setO l ob) i=match lk l i with | some x=>x | none=>lk ob i
 | [],ob,i=>rfl
 | (j,none)::r,ob,i=>by
  simp only[setO,lk]
  rw[ZE]
  split
  ·rfl
  ·exact Z4f r ob i
 | (j,some o)::r,ob,i=>by
  simp only[setO,lk]
  split
  ·rfl
  ·rename_i hi
   rw[ZE,if_neg hi]
   exact Z4f r ob i
theorem ZiK {α β:Type} (f:α->β): ∀ (l:List (Nat × α)) (i:Nat),lk (l.map fun p=>(p.1,f p.2)) i=(lk l i).map f:=Z7f f
theorem Z2U {α:Type} (x:α): ∀ (nm:List Nat) (i:Nat),lk (nm.map fun j=>(j,x)) i=if i∈nm then some x else none
 | [],i=>by simp[lk]
 | j::r,i=>by
  simp only[List.map_cons,lk,List.mem_cons]
  by_cases h:i=j
  ·simp[h]
  ·simp[h,Z2U x r i]
theorem Z72 {f:Nat->Nat} {g:Nat->Option Nat}: ∀ {l:Obs} {i:Nat} {o:Ob},lk (renO f g l) i=some o-> ∃ j,f j=i
 | [],i,o,h=>by simp[renO,lk] at h
 | (j,x)::r,i,o,h=>by
  simp only[renO,lk] at h
  split at h
  ·rename_i e; exact⟨j,e.symm⟩
  ·exact Z72 (l:=r) h
section has
variable {P:Program} {b:Nat} {s s':St} {e:Eff}
theorem Z1V {o:SOp} (hh:Has P b o s e) (hcl:e.ob≠[]-> ∀ t,o.dst=some t->s.clean (b+t)=true) (hcd: ∀ q,e.cd=some q->s.top<=q):stp P b o s (fun s1=>Alike s1 (s.app e)):=by
 cases o with
 | a dst g op xs =>
  refine Qq (fun hb=> ?_) (fun he=> ?_) hh
  ·obtain⟨_,_,h3⟩:=hb
   refine Z4x h3 fun d nb hk=> ?_
   obtain⟨h1,h2⟩:=hk
   cases nb with
   | none =>
    simp only at h2
    refine Alike.of_eq ?_
    cases dst <;> simp_all [St.put,St.app,setO]
   | some ob =>
    obtain⟨h2,h3⟩:=h2
    cases dst with
    | none=>cases h2
    | some t =>
     refine⟨hcl (by rw[h3]; simp) t rfl,Alike.of_eq ?_⟩
     simp_all [St.put2,St.app,setO]
  ·subst he
   refine Alike.of_eq ?_
   cases dst <;> rfl
 | st g sz x y =>
  refine Qq (fun hb=> ?_) (fun he=> ?_) hh
  ·simp only[HasB] at hb
   split at hb
   ·rename_i a1 b1 id ob hst
    obtain⟨h1,rfl⟩:=hb
    try simp only[hst]
    exact⟨h1,Alike.of_eq rfl⟩
   ·exact hb.elim
  ·subst he
   exact Alike.of_eq rfl
 | app dst g fz sz et x y =>
  refine Qq (fun hb=> ?_) (fun he=> ?_) hh
  ·simp only[HasB] at hb
   split at hb
   ·rename_i ys _ hso
    obtain⟨h1,h2⟩:=hb
    try simp only[hso]
    refine⟨h1, ?_⟩
    split at h2
    ·rename_i hx
     try simp only[hx]
     obtain⟨h2,rfl⟩:=h2
     exact⟨h2,hcl (by simp) dst rfl,Alike.of_eq rfl⟩
    ·rename_i id hx
     try simp only[hx]
     split at h2
     ·rename_i fz' sz' e' es hl
      try simp only[hl]
      obtain⟨q1,q2,q3,rfl⟩:=h2
      exact⟨q1,q2,q3,hcl (by simp) dst rfl,Alike.of_eq rfl⟩
     ·exact h2.elim
    ·exact h2.elim
   ·exact hb.elim
  ·subst he
   exact Alike.of_eq rfl
 | cd dst g x xs =>
  refine Qq (fun hb=> ?_) (fun he=> ?_) hh
  ·obtain⟨nm,r,ob',base,h1,h2,h3,h4,hpn,rfl⟩:=hb
   have htop:=hcd base rfl
   refine⟨nm,_,base,h1,h2,h3,htop,h4, ?_⟩
   rintro r0 ob0 ⟨rfl,rfl⟩
   refine⟨hpn,fun t=> ?_,fun i=> ?_⟩
   ·cases dst <;> rfl
   ·have hob:lk (St.put (s.back base nm ob0) dst (r0.ren (bkN base nm))).ob i=lk (Z6g nm s.ob++renO (fun j=>match nm[j]? with | some i=>i | none=>base+j) (bkN base nm) ob0) i:=by cases dst <;> rfl
    rw[hob]
    show _=lk (setO _ s.ob) i
    rw[Z4f,Z09,Z09,ZiK,Z2U,Z2u]
    cases hq:lk (renO (fun j=>match nm[j]? with | some i=>i | none=>base+j) (bkN base nm) ob0) i with
    | some o =>
     simp only[Option.map_some,Option.some_or]
     by_cases hi:i∈nm
     ·simp[hi]
     ·have hge:s.top<=i:=by
       obtain⟨j,hj⟩:=Z72 hq
       cases hn:nm[j]? with
       | some i'=>rw[hn] at hj; simp only at hj; subst hj; exact absurd (List.mem_of_getElem? hn) hi
       | none=>rw[hn] at hj; simp only at hj; omega
      have hnone:lk s.ob i=none:=by
       cases hq2:lk s.ob i with
       | none=>rfl
       | some o2 =>
        have:=(Obs.top_get (Nat.le_trans (Nat.le_max_right _ _) hge:Obs.top s.ob<=i) hq2).1
        omega
      simp[hi,hnone]
    | none =>
     simp only[Option.map_none,Option.none_or,Option.or_none]
     by_cases hi:i∈nm <;> simp[hi]
  ·subst he
   refine Alike.of_eq ?_
   cases dst <;> rfl
end has
end Go.Sx
