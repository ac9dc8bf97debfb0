/- Own work: a layer over the kit: plain data,a walk over it,its soundness. -/
import Derived.Lib.Bytealg
import Derived.Lib.AtoiAll
import Derived.Lib.ItoaNum
import Derived.Lib.Join
import Derived.Test.YtecgehidegnmnaaGreatDoorSx7
set_option linter.unusedSectionVars false
set_option linter.unusedVariables false
set_option linter.unusedSimpArgs false
set_option linter.deprecated false
namespace Go.Sx
open Go.RowKit
variable [Globs] [Codes]
/- AN OPERATION COMES TO ONE END. -/
section
variable {P:Program} {dst:Nat} {obs:Nat->Option Ob} {K:D->Option Ob->Prop}
theorem ZaX {op:BinOp} {k:IntKind} {a b:Int} {K:D->Prop} (h:binI op k a b K): ∃ d,K d/\ ∀ K':D->Prop,K' d->binI op k a b K':=by
 cases op <;> simp only[binI] at h <;> first | exact h.elim | exact⟨_,h,fun K' hk=>hk⟩ | exact⟨_,h.2,fun K' hk=>⟨h.1,hk⟩⟩
theorem ZaV {op:BinOp} {a b:List UInt8} {K:D->Prop} (h:binS op a b K): ∃ d,K d/\ ∀ K':D->Prop,K' d->binS op a b K':=by
 cases op <;> simp only[binS] at h <;> first | exact h.elim | exact⟨_,h,fun K' hk=>hk⟩ | exact⟨_,h.2,fun K' hk=>⟨h.1,hk⟩⟩
theorem ZcM {d:D} (h:evl P dst .b2s [d] obs K): ∃ d' nb,K d' nb/\ ∀ K':D->Option Ob->Prop,K' d' nb->evl P dst .b2s [d] obs K':=by
 simp only[evl] at h ⊢
 cases hq:Z1Y obs d with
 | none=>rw[hq] at h; exact h.elim
 | some es=>rw[hq] at h; exact⟨_,_,h.2,fun K' hk=>⟨h.1,hk⟩⟩
theorem ZbB {agg:Bool} {sz id i j sz':Nat} (h:evl P dst (.load agg sz) [.vptr id i j sz'] obs K): ∃ d' nb,K d' nb/\ ∀ K':D->Option Ob->Prop,K' d' nb->evl P dst (.load agg sz) [.vptr id i j sz'] obs K':=by
 simp only[evl] at h ⊢
 cases hq:obs id with
 | none=>rw[hq] at h; exact h.elim
 | some o =>
  rw[hq] at h
  cases o with
  | cells _=>exact h.elim
  | gen _ _=>exact h.elim
  | arr fz sz2 e es =>
   cases fz with
   | true=>exact h.elim
   | false =>
    simp only at h ⊢
    have h2:=h.2.2
    cases hi:es[i]? with
    | none=>rw[hi] at h2; exact h2.elim
    | some cs =>
     rw[hi] at h2
     cases agg with
     | true=>exact⟨_,_,h2,fun K' hk=>⟨h.1,h.2.1,hk⟩⟩
     | false =>
      simp only[Bool.false_eq_true,if_false] at h2 ⊢
      cases hj:cs[j]? with
      | none=>rw[hj] at h2; exact h2.elim
      | some d=>rw[hj] at h2; exact⟨_,_,h2,fun K' hk=>⟨h.1,h.2.1,hk⟩⟩
theorem Z8e {kd:Option IntKind} {z key:D} {id:Nat} (h:evl P dst (.mlook kd z) [.map id,key] obs K): ∃ d' nb,K d' nb/\ ∀ K':D->Option Ob->Prop,K' d' nb->evl P dst (.mlook kd z) [.map id,key] obs K':=by
 simp only[evl] at h ⊢
 cases hq:obs id with
 | none=>rw[hq] at h; exact h.elim
 | some o =>
  rw[hq] at h
  cases o with
  | cells _=>exact h.elim
  | arr _ _ _ _=>exact h.elim
  | gen g ds =>
   cases g with
   | loop=>exact h.elim
   | mapC=>exact h.elim
   | mapB=>exact h.elim
   | mapS=>exact h.elim
   | iter=>exact h.elim
   | map ks =>
    simp only at h ⊢
    cases hf:Z2n key ks ds with
    | none=>rw[hf] at h; exact h.2.elim
    | some r=>rw[hf] at h; exact⟨_,_,h.2,fun K' hk=>⟨h.1,hk⟩⟩
theorem Z7r {op:AOp} {xs:List D} (h:evl P dst op xs obs K): ∃ d nb,K d nb/\ ∀ K':D->Option Ob->Prop,K' d nb->evl P dst op xs obs K':=by
 by_cases hb:op= .b2s/\ ∃ d,xs=[d]
 ·obtain⟨rfl,d,rfl⟩:=hb; exact ZcM h
 by_cases hl:(∃ a s,op= .load a s)/\ ∃ a b c d,xs=[.vptr a b c d]
 ·obtain⟨⟨_,_,rfl⟩,_,_,_,_,rfl⟩:=hl; exact ZbB h
 by_cases hlm:(∃ a s,op= .mlook a s)/\ ∃ a b,xs=[.map a,b]
 ·obtain⟨⟨_,_,rfl⟩,_,_,rfl⟩:=hlm; exact Z8e h
 unfold evl at h
 split at h
 all_goals try exact absurd ⟨rfl,_,rfl⟩ hb
 all_goals try exact absurd ⟨⟨_,_,rfl⟩,_,_,_,_,rfl⟩ hl
 all_goals try exact absurd ⟨⟨_,_,rfl⟩,_,_,rfl⟩ hlm
 all_goals clear hb hl hlm
 all_goals try simp only[evl]
 all_goals first
  | exact h.elim
  | (obtain⟨d,hk,hK⟩:=ZaX h.2; exact⟨d,none,hk,fun K' hk'=>⟨h.1,hK _ hk'⟩⟩)
  | (obtain⟨d,hk,hK⟩:=ZaV h; exact⟨d,none,hk,fun K' hk'=>hK _ hk'⟩)
  | exact⟨_,_,h,fun K' hk=>hk⟩
  | exact⟨_,_,h.2,fun K' hk=>⟨h.1,hk⟩⟩
  | exact⟨_,_,h.2.2,fun K' hk=>⟨h.1,h.2.1,hk⟩⟩
  | exact⟨_,_,h.2.2.2,fun K' hk=>⟨h.1,h.2.1,h.2.2.1,hk⟩⟩
  | skip
 all_goals first
  | (obtain⟨r,hr,hk'⟩:=h; cases r <;> exact⟨_,_,hk',fun K' hk=>⟨_,hr,hk⟩⟩)
  | skip
 all_goals
  repeat' split at h
 all_goals first
  | exact h.elim
  | exact⟨_,_,h,fun K' hk=>by simp only[*]; exact hk⟩
  | exact⟨_,_,h,fun K' hk=>by simp[*]⟩
  | exact⟨_,_,h.2,fun K' hk=>by simp only[*]; exact⟨h.1,hk⟩⟩
  | exact⟨_,_,h.2,fun K' hk=>by simp only[*]; exact⟨trivial,hk⟩⟩
  | exact⟨_,_,h.2.2,fun K' hk=>by simp only[*]; exact⟨h.1,h.2.1,hk⟩⟩
  | exact⟨_,_,h.2.2.2,fun K' hk=>by simp only[*]; exact⟨h.1,h.2.1,h.2.2.1,hk⟩⟩
  | exact⟨_,_,h.2.2.2.2,fun K' hk=>by simp only[*]; exact⟨h.1,h.2.1,h.2.2.1,h.2.2.2.1,hk⟩⟩
  | skip
 all_goals first
  | exact⟨_,_,h.2,fun K' hk=>⟨h.1,hk⟩⟩
  | exact⟨_,_,h.2.2.2,fun K' hk=>⟨h.1,h.2.1,h.2.2.1,hk⟩⟩
  | exact⟨_,_,h.2.2.2.2,fun K' hk=>⟨h.1,h.2.1,h.2.2.1,h.2.2.2.1,hk⟩⟩
  | (rename_i hag; subst hag; exact⟨_,_,h.2,fun K' hk=>⟨h.1,hk⟩⟩)
end
def repl (t:Nat) (d:D):Env->Env
 | []=>[]
 | (j,x)::r=>if t=j then (j,d)::r else (j,x)::repl t d r
theorem Z0W {t:Nat} {d:D}: ∀ {l:Env},lk l t=some d->repl t d l=l
 | [],h=>by cases h
 | (j,x)::r,h=>by
  simp only[lk] at h
  simp only[repl]
  split at h
  ·rename_i hj; cases h; rw[if_pos hj]
  ·rename_i hj; rw[if_neg hj,Z0W h]
def gudT (g:Option (Nat × Bool)) (s:St) (body skip:St->Tr):Tr:=match g with
 | none=>body s
 | some (t,want)=>match lk s.tm t with
  | some (.bool b)=>match want with
   | true=>brT b (body ⟨repl t (.bool true) s.tm,s.ob⟩) (skip ⟨repl t (.bool false) s.tm,s.ob⟩)
   | false=>brT b (skip ⟨repl t (.bool true) s.tm,s.ob⟩) (body ⟨repl t (.bool false) s.tm,s.ob⟩)
  | some (.tuple [])=>skip s
  | _=> .bad
section
variable {R:D->Obs->Prop} {J:List Fr->St->Prop} {P:Program}
theorem Z0k {g:Option (Nat × Bool)} {s:St} {body skip:St->Tr} (h:(gudT g s body skip).ok R J):((body s).ok R J/\ ∀ p q:Prop,p->gud g s p q)\/((skip s).ok R J/\ ∀ p q:Prop,q->gud g s p q):=by
 cases g with
 | none=>exact .inl ⟨h,fun p q hp=>hp⟩
 | some gw =>
  obtain⟨t,w⟩:=gw
  simp only[gudT] at h
  simp only[gud]
  split at h
  ·rename_i b heq
   rw[heq]
   split at h
   ·rcases Z5j h with ⟨rfl,h⟩ | ⟨rfl,h⟩
    ·rw[Z0W heq] at h; exact .inl ⟨h,fun p q hp=>by simpa using hp⟩
    ·rw[Z0W heq] at h; exact .inr ⟨h,fun p q hp=>by simpa using hp⟩
   ·rcases Z5j h with ⟨rfl,h⟩ | ⟨rfl,h⟩
    ·rw[Z0W heq] at h; exact .inr ⟨h,fun p q hp=>by simpa using hp⟩
    ·rw[Z0W heq] at h; exact .inl ⟨h,fun p q hp=>by simpa using hp⟩
  ·rename_i heq; rw[heq]; exact .inr ⟨h,fun p q hp=>hp⟩
  ·exact h.elim
end
def stT0 (sz:SK) (x y:D) (obs:Nat->Option Ob) (K:Nat->Ob->Tr):Tr:=match stO sz x y obs with
 | some (a,b,id,o)=>match x with
  | .ptr .. => K id o
  | .map .. => K id o
  | _=> .owe (a<b) (K id o)
 | none=> .bad
theorem Zev {sz:SK} {a b id i off:Nat} {y:D} {o:Ob} {obs:Nat->Option Ob} (h:stO sz (.ptr i off) y obs=some (a,b,id,o)):a<b:=by
 unfold stO at h
 cases sz with
 | m key=>cases h
 | k kd x=>cases h
 | cp _ _=>cases h
 | c sz =>
 simp only at h
 split at h
 ·split at h
  ·cases h; decide
  ·cases h
 ·cases h
theorem Zew {sz:SK} {a b id i:Nat} {y:D} {o:Ob} {obs:Nat->Option Ob} (h:stO sz (.map i) y obs=some (a,b,id,o)):a<b:=by
 unfold stO at h
 cases sz with
 | c sz=>cases h
 | k kd x=>cases h
 | cp _ _=>cases h
 | m key =>
 simp only at h
 split at h
 ·split at h
  ·cases h; decide
  ·cases h
 ·split at h
  ·split at h
   ·cases h; decide
   ·cases h
  ·cases h
 ·cases h
theorem Z94 {sz:SK} {x y:D} {obs:Nat->Option Ob} {K:Nat->Ob->Tr} {R:D->Obs->Prop} {J:List Fr->St->Prop} (h:(stT0 sz x y obs K).ok R J): ∃ a b id o,stO sz x y obs=some (a,b,id,o)/\a<b/\(K id o).ok R J:=by
 unfold stT0 at h
 split at h
 ·rename_i a b id o hst
  split at h
  ·exact⟨_,_,id,o,hst,Zev hst,h⟩
  ·exact⟨_,_,id,o,hst,Zew hst,h⟩
  ·exact⟨_,_,id,o,hst,h.1,h.2⟩
 ·exact h.elim
def xN:X->Nat
 | .t n=>n
 | .c _=>0
def stT (tb:Ctr) (n:Nat) (sz:SK) (x y:D) (obs:Nat->Option Ob) (K:Nat->Ob->Tr):Tr:=match tb.E n (-1) with
 | [.agg ks',.agg ds']=>(match x with
  | .map id=>match sz with
   | .m key=>match obs id with
    | some (.gen (.map ks) ds)=> .owe (mput key y ks ds=some (ks',ds')) (K id (.gen (.map ks') ds'))
    | some (.gen (.mapC ks cs) [])=>if Z1i y=true then .owe (mput key y ks cs=some (ks',ds')) (K id (.gen (.mapC ks' ds') [])) else .bad
    | _=> .bad
   | _=> .bad
  | _=>stT0 sz x y obs K)
 | _=>stT0 sz x y obs K
theorem ZdM {tb:Ctr} {n:Nat} {sz:SK} {x y:D} {obs:Nat->Option Ob} {K:Nat->Ob->Tr} {R:D->Obs->Prop} {J:List Fr->St->Prop} (h:(stT tb n sz x y obs K).ok R J): ∃ a b id o,stO sz x y obs=some (a,b,id,o)/\a<b/\(K id o).ok R J:=by
 unfold stT at h
 split at h
 ·split at h
  ·split at h
   ·split at h
    ·rename_i heq
     refine⟨0,1,_,_, ?_,by decide,h.2⟩
     simp only[stO,heq,h.1]
    ·rename_i heq
     split at h
     ·rename_i hv
      refine⟨0,1,_,_, ?_,by decide,h.2⟩
      simp only[stO,heq,if_pos hv,h.1]
     ·exact h.elim
    ·exact h.elim
   ·exact h.elim
  ·exact Z94 h
 ·exact Z94 h
def panT (r:D) (Kp:Value->Tr) (K:Tr):Tr:=match r with
 | .pan v=>Kp v
 | _=>K
theorem Z2L {R:D->Obs->Prop} {J:List Fr->St->Prop} {r:D} {Kp:Value->Tr} {K:Tr} (h:(panT r Kp K).ok R J):(r.isPan=false/\K.ok R J)\/ ∃ v,r= .pan v/\(Kp v).ok R J:=by
 cases r <;> first | exact .inl ⟨rfl,h⟩ | exact .inr ⟨_,rfl,h⟩
def opT (tb:Ctr) (b:Nat) (o:SOp) (s:St) (K:St->Tr):Tr :=
 match o with
 | .a dst g op xs=>gudT g s (fun s=>evT tb (dst.getD 0) (b+dst.getD 0) op (xs.map s.get) (lk s.ob) fun d nb=>match nb with
   | none=>K (s.put dst d)
   | some ob=>match dst with
    | some t=>if s.clean (b+t)=true then K (s.put2 t (b+t) d ob) else .bad
    | none=> .bad) (fun s=>K (s.put dst .nov))
 | .st g sz x y=>gudT g s (fun s=>stT tb (xN x) (sz.at s) (s.get x) (s.get y) (lk s.ob) fun id o=>K { s with ob:=(id,o)::Za id s.ob }) (fun s=>K s)
 | .app dst g fz sz et x y=>gudT g s (fun s=>match Z3m (lk s.ob) (s.get y) with
   | some (ys,_)=>(match s.get x with
    | .nils=>if s.clean (b+dst)=true then .owe (Zr sz ys/\ys.length<=1073741824) (K (s.put2 dst (b+dst) (.vec (b+dst)) (.arr fz sz et ys))) else .bad
    | .vec id=>match lk s.ob id with
     | some (.arr fz' sz' e' es)=>if sz'=sz/\e'=et/\s.clean (b+dst)=true then .owe (Zr sz ys/\es.length+ys.length<=1073741824) (K (St.put2 ⟨s.tm,Za id s.ob⟩ dst (b+dst) (.vec (b+dst)) (.arr fz' sz et (es++ys)))) else .bad
     | _=> .bad
    | _=> .bad)
   | none=> .bad) (fun s=>K (s.put (some dst) .nov))
 | .cd dst g x xs=>gudT g s
   (fun s =>
     let az:=xs.map fun y=>dva (s.get x) (lk s.ob) (s.get y)
     let nm:=Z1w s (s.get x::az)
     if Z0p nm=true then (match tb.C (dst.getD 0) ((s.get x).ren (idx · nm)) (az.map (D.ren (idx · nm))) (Qc s.ob (idx · nm) 0 nm) with
      | some rt=>rtT rt fun r ob'=>panT r (fun _=> .bad) (K ((s.back (s.base b) nm ob').put dst (r.ren (bkN (s.base b) nm))))
      | none=> .bad) else .bad)
   (fun s=>K (s.put dst .nov))
section
variable {R:D->Obs->Prop} {J:List Fr->St->Prop} {P:Program}
theorem ZdR {tb:Ctr} (htb:tb.OK P) {b:Nat} {o:SOp} {s:St} {K:St->Tr} (h:(opT tb b o s K).ok R J): ∃ s',(∀ K':St->Prop,K' s'->stp P b o s K')/\(K s').ok R J:=by
 cases o with
 | a dst g op xs =>
  simp only[opT] at h
  rcases Z0k h with ⟨h,hg⟩ | ⟨h,hg⟩
  ·obtain⟨d,nb,hk,hK⟩:=Z7r (ZdX htb h)
   cases nb with
   | none=>exact⟨s.put dst d,fun K' hk'=>hg _ _ (hK _ hk'),hk⟩
   | some ob =>
    cases dst with
    | none=>exact hk.elim
    | some t =>
     simp only at hk
     split at hk
     ·rename_i hc; exact⟨_,fun K' hk'=>hg _ _ (hK _ ⟨hc,hk'⟩),hk⟩
     ·exact hk.elim
  ·exact⟨_,fun K' hk'=>hg _ _ hk',h⟩
 | st g sz x y =>
  simp only[opT] at h
  rcases Z0k h with ⟨h,hg⟩ | ⟨h,hg⟩
  ·obtain⟨a1,b1,id,ob,hst,hab,h⟩:=ZdM h
   exact⟨_,fun K' hk'=>hg _ _ (by simp only[hst]; exact⟨hab,hk'⟩),h⟩
  ·exact⟨_,fun K' hk'=>hg _ _ hk',h⟩
 | app dst g fz sz et x y =>
  simp only[opT] at h
  rcases Z0k h with ⟨h,hg⟩ | ⟨h,hg⟩
  ·split at h
   ·rename_i ys ext hso
    split at h
    ·rename_i hx
     split at h
     ·rename_i hc
      exact⟨_,fun K' hk'=>hg _ _ (by simp only[hx,hso]; exact⟨h.1.1,h.1.2,hc,hk'⟩),h.2⟩
     ·exact h.elim
    ·rename_i id hx
     split at h
     ·rename_i fz' sz' e' es hl
      split at h
      ·rename_i hc
       exact⟨_,fun K' hk'=>hg _ _ (by simp only[hx,hso,hl]; exact⟨h.1.1,hc.1,hc.2.1,h.1.2,hc.2.2,hk'⟩),h.2⟩
      ·exact h.elim
     ·exact h.elim
    ·exact h.elim
   ·exact h.elim
  ·exact⟨_,fun K' hk'=>hg _ _ hk',h⟩
 | cd dst g x xs =>
  simp only[opT] at h
  rcases Z0k h with ⟨h,hg⟩ | ⟨h,hg⟩
  ·split at h
   ·rename_i hnd
    split at h
    ·rename_i rt hrt
     obtain⟨r,ob',hc,hk⟩:=Z2d (htb.C _ _ _ _ _ hrt) h
     have hb:b+4096<=s.base b:=Nat.le_max_left ..
     have ht:s.top<=s.base b:=Nat.le_max_right ..
     rcases Z2L hk with ⟨hpn,hk⟩ | ⟨_,_,hk⟩
     ·exact⟨_,fun K' hk'=>hg _ _ ⟨_,_,s.base b,Zx hnd,fun i hi=>ZR i hi,hb,ht,hc,fun r0 ob0 hr=>by rw[hr.1,hr.2]; exact⟨hpn,hk'⟩⟩,hk⟩
     ·exact hk.elim
    ·exact h.elim
   ·exact h.elim
  ·exact⟨_,fun K' hk'=>hg _ _ hk',h⟩
end
def opsT (tb:Ctr) (b:Nat):List SOp->St->(St->Tr)->Tr
 | [],s,K=>K s
 | o::l,s,K=>opT tb b o s fun s=>opsT tb b l s K
def hasT (tb:Ctr) (b:Nat) (o:SOp) (s:St) (K:St->Eff->Tr):Tr :=
 match o with
 | .a dst g op xs=>gudT g s (fun s=>evT tb (dst.getD 0) (b+dst.getD 0) op (xs.map s.get) (lk s.ob) fun d nb=>match nb with
   | none=>K s ⟨rdA (lk s.ob) op (xs.map s.get),dst.map (·,d),[],none⟩
   | some ob=>if dst.isSome then K s ⟨rdA (lk s.ob) op (xs.map s.get),dst.map (·,d),[(b+dst.getD 0,some ob)],none⟩ else .bad) (fun s=>K s ⟨[],dst.map (·,.nov),[],none⟩)
 | .st g sz x y=>gudT g s (fun s=>stT tb (xN x) (sz.at s) (s.get x) (s.get y) (lk s.ob) fun id o=>K s ⟨[id],none,[(id,some o)],none⟩) (fun s=>K s ⟨[],none,[],none⟩)
 | .app dst g fz sz et x y=>gudT g s (fun s=>match Z3m (lk s.ob) (s.get y) with
   | some (ys,_)=>(match s.get x with
    | .nils=> .owe (Zr sz ys/\ys.length<=1073741824) (K s ⟨vids [s.get y],some (dst,.vec (b+dst)),[(b+dst,some (.arr fz sz et ys))],none⟩)
    | .vec id=>match lk s.ob id with
     | some (.arr fz' sz' e' es)=>if sz'=sz/\e'=et then .owe (Zr sz ys/\es.length+ys.length<=1073741824) (K s ⟨id::vids [s.get y],some (dst,.vec (b+dst)),[(b+dst,some (.arr fz' sz et (es++ys))),(id,none)],none⟩) else .bad
     | _=> .bad
    | _=> .bad)
   | none=> .bad) (fun s=>K s ⟨[],some (dst,.nov),[],none⟩)
 | .cd dst g x xs=>gudT g s
   (fun s =>
     let az:=xs.map fun y=>dva (s.get x) (lk s.ob) (s.get y)
     let nm:=Z1w s (s.get x::az)
     if Z0p nm=true then (match tb.C (dst.getD 0) ((s.get x).ren (idx · nm)) (az.map (D.ren (idx · nm))) (Qc s.ob (idx · nm) 0 nm) with
      | some rt=>rtT rt fun r ob'=>panT r (fun _=> .bad) (K s ⟨nm++vids (xs.map s.get),dst.map (·,r.ren (bkN (s.base b) nm)),(renO (fun j=>match nm[j]? with | some i=>i | none=>s.base b+j) (bkN (s.base b) nm) ob').map (fun p=>(p.1,some p.2))++nm.map (·,none),some (s.base b)⟩)
      | none=> .bad) else .bad)
   (fun s=>K s ⟨[],dst.map (·,.nov),[],none⟩)
def caT (tb:Ctr) (b:Nat):List SOp->St->(List Eff->St->Tr)->Tr
 | [],s,K=>K [] s
 | o::l,s,K=>hasT tb b o s fun s e=>caT tb b l (s.app e) fun es s=>K (e::es) s
section
variable {R:D->Obs->Prop} {J:List Fr->St->Prop} {P:Program}
theorem Z2M {tb:Ctr} (htb:tb.OK P) {b:Nat} {K:St->Tr}: ∀ {ops:List SOp} {s:St},(opsT tb b ops s K).ok R J-> ∃ s',(∀ K':St->Prop,K' s'->stps P b ops s K')/\(K s').ok R J
 | [],s,h=>⟨s,fun K' hk=>hk,h⟩
 | o::l,s,h=>by
  obtain⟨s1,h1,hk1⟩:=ZdR htb h
  obtain⟨s2,h2,hk2⟩:=Z2M htb hk1
  exact⟨s2,fun K' hk=>h1 _ (h2 _ hk),hk2⟩
theorem Zaf {tb:Ctr} (htb:tb.OK P) {b:Nat} {o:SOp} {s:St} {K:St->Eff->Tr} (h:(hasT tb b o s K).ok R J): ∃ e,Has P b o s e/\(K s e).ok R J:=by
 cases o with
 | a dst g op xs =>
  simp only[hasT] at h
  rcases Z0k h with ⟨h,hg⟩ | ⟨h,hg⟩
  ·obtain⟨d,nb,hk,hK⟩:=Z7r (ZdX htb h)
   cases nb with
   | none=>exact⟨_,hg _ _ ⟨rfl,rfl,hK _ ⟨rfl,rfl⟩⟩,hk⟩
   | some ob =>
    simp only at hk
    split at hk
    ·rename_i hc; exact⟨_,hg _ _ ⟨rfl,rfl,hK _ ⟨rfl,hc,rfl⟩⟩,hk⟩
    ·exact hk.elim
  ·exact⟨_,hg _ _ rfl,h⟩
 | st g sz x y =>
  simp only[hasT] at h
  rcases Z0k h with ⟨h,hg⟩ | ⟨h,hg⟩
  ·obtain⟨a1,b1,id,ob,hst,hab,h⟩:=ZdM h
   exact⟨_,hg _ _ (by simp only[HasB,hst]; exact⟨hab,trivial⟩),h⟩
  ·exact⟨_,hg _ _ rfl,h⟩
 | app dst g fz sz et x y =>
  simp only[hasT] at h
  rcases Z0k h with ⟨h,hg⟩ | ⟨h,hg⟩
  ·split at h
   ·rename_i ys ext hso
    split at h
    ·rename_i hx
     exact⟨_,hg _ _ (by simp only[HasB,hx,hso]; exact⟨h.1.1,h.1.2,trivial⟩),h.2⟩
    ·rename_i id hx
     split at h
     ·rename_i fz' sz' e' es hl
      split at h
      ·rename_i hc
       exact⟨_,hg _ _ (by simp only[HasB,hx,hso,hl]; exact⟨h.1.1,hc.1,hc.2,h.1.2,trivial⟩),h.2⟩
      ·exact h.elim
     ·exact h.elim
    ·exact h.elim
   ·exact h.elim
  ·exact⟨_,hg _ _ rfl,h⟩
 | cd dst g x xs =>
  simp only[hasT] at h
  rcases Z0k h with ⟨h,hg⟩ | ⟨h,hg⟩
  ·split at h
   ·rename_i hnd
    split at h
    ·rename_i rt hrt
     obtain⟨r,ob',hc,hk⟩:=Z2d (htb.C _ _ _ _ _ hrt) h
     have hb:b+4096<=s.base b:=Nat.le_max_left ..
     rcases Z2L hk with ⟨hpn,hk⟩ | ⟨_,_,hk⟩
     ·exact⟨_,hg _ _ ⟨_,r,ob',s.base b,Zx hnd,fun i hi=>ZR i hi,hb,hc,hpn,rfl⟩,hk⟩
     ·exact hk.elim
    ·exact h.elim
   ·exact h.elim
  ·exact⟨_,hg _ _ rfl,h⟩
theorem ZaS {tb:Ctr} (htb:tb.OK P) {b:Nat}: ∀ {ops:List SOp} {s:St} {K:List Eff->St->Tr},(caT tb b ops s K).ok R J-> ∃ es s',Z5m P b ops s es s'/\(K es s').ok R J
 | [],s,K,h=>⟨[],s,rfl,h⟩
 | o::l,s,K,h=>by
  obtain⟨e,h1,hk1⟩:=Zaf htb h
  obtain⟨es,s2,h2,hk2⟩:=ZaS htb hk1
  exact⟨e::es,s2,⟨h1,h2⟩,hk2⟩
end
def opXT (tb:Ctr) (b:Nat) (o:SOp) (s:St) (K:St->Tr) (Kp:Value->St->Tr):Tr :=
 match o with
 | .cd dst g x xs=>gudT g s
   (fun s =>
     let az:=xs.map fun y=>dva (s.get x) (lk s.ob) (s.get y)
     let nm:=Z1w s (s.get x::az)
     if Z0p nm=true then (match tb.C (dst.getD 0) ((s.get x).ren (idx · nm)) (az.map (D.ren (idx · nm))) (Qc s.ob (idx · nm) 0 nm) with
      | some rt=>rtT rt fun r ob'=>panT r (fun v=>Kp v (s.back (s.base b) nm ob')) (K ((s.back (s.base b) nm ob').put dst (r.ren (bkN (s.base b) nm))))
      | none=> .bad) else .bad)
   (fun s=>K (s.put dst .nov))
 | .a none g .pnk [x]=>gudT g s (fun s=>match s.get x with
   | .raw v=>(match v with
    | .iface t u=>Kp (.iface t u) s
    | _=> .bad)
   | _=> .bad) (fun s=>K s)
 | o=>opT tb b o s K
def Zg8 (tb:Ctr) (b:Nat):List SOp->St->(St->Tr)->(Value->St->Tr)->Tr
 | [],s,K,_=>K s
 | o::l,s,K,Kp=>opXT tb b o s (fun s=>Zg8 tb b l s K Kp) Kp
section
variable {R:D->Obs->Prop} {J:List Fr->St->Prop} {P:Program}
theorem Zg9 {tb:Ctr} (htb:tb.OK P) {b:Nat} {o:SOp} {s:St} {K:St->Tr} {Kp:Value->St->Tr} (h:(opXT tb b o s K Kp).ok R J) :
  (∃ s',(∀ (Kn:St->Prop) (Kq:Value->St->Prop),Kn s'->stpX P b o s Kn Kq)/\(K s').ok R J)\/ ∃ v s',(∀ (Kn:St->Prop) (Kq:Value->St->Prop),Kq v s'->stpX P b o s Kn Kq)/\(Kp v s').ok R J:=by
 have usual:(opT tb b o s K).ok R J-> ∃ s',(∀ (Kn:St->Prop) (Kq:Value->St->Prop),Kn s'->stpX P b o s Kn Kq)/\(K s').ok R J:=fun h=>by
  obtain⟨s',h1,h2⟩:=ZdR htb h
  exact⟨s',fun Kn Kq hk=>Z91 (h1 Kn hk),h2⟩
 cases o with
 | st g sz x y=>exact .inl (usual h)
 | app dst g fz sz e x y=>exact .inl (usual h)
 | cd dst g x xs =>
  simp only[opXT] at h
  rcases Z0k h with ⟨h,hg⟩ | ⟨h,hg⟩
  ·split at h
   ·rename_i hnd
    split at h
    ·rename_i rt hrt
     obtain⟨r,ob',hc,hk⟩:=Z2d (htb.C _ _ _ _ _ hrt) h
     have hb:b+4096<=s.base b:=Nat.le_max_left ..
     have ht:s.top<=s.base b:=Nat.le_max_right ..
     rcases Z2L hk with ⟨hpn,hk⟩ | ⟨v,rfl,hk⟩
     ·exact .inl ⟨_,fun K' Kq hk'=>hg _ _ ⟨_,_,s.base b,Zx hnd,fun i hi=>ZR i hi,hb,ht,hc,fun r0 ob0 hr=> .inl (by rw[hr.1,hr.2]; exact⟨hpn,hk'⟩)⟩,hk⟩
     ·exact .inr ⟨v,_,fun K' Kq hk'=>hg _ _ ⟨_,_,s.base b,Zx hnd,fun i hi=>ZR i hi,hb,ht,hc,fun r0 ob0 hr=> .inr ⟨v,hr.1,by rw[hr.2]; exact hk'⟩⟩,hk⟩
    ·exact h.elim
   ·exact h.elim
  ·exact .inl ⟨_,fun K' Kq hk'=>hg _ _ hk',h⟩
 | a dst g op xs =>
  by_cases hq:dst=none/\op= .pnk/\ ∃ x,xs=[x]
  ·obtain⟨rfl,rfl,x,rfl⟩:=hq
   simp only[opXT] at h
   rcases Z0k h with ⟨h,hg⟩ | ⟨h,hg⟩
   ·split at h
    ·rename_i v hv
     split at h
     ·rename_i t u
      exact .inr ⟨_,s,fun K' Kq hk'=>hg _ _ ⟨t,u,hv,hk'⟩,h⟩
     ·exact h.elim
    ·exact h.elim
   ·exact .inl ⟨s,fun K' Kq hk'=>hg _ _ hk',h⟩
  ·refine .inl (usual ?_)
   cases dst with
   | some d=>exact h
   | none=>cases op <;> first | exact h | (cases xs with
     | nil=>exact h
     | cons x r=>cases r with
      | nil=>exact absurd ⟨rfl,rfl,x,rfl⟩ hq
      | cons _ _=>exact h)
theorem Z77 {tb:Ctr} (htb:tb.OK P) {b:Nat} {K:St->Tr} {Kp:Value->St->Tr}: ∀ {ops:List SOp} {s:St},(Zg8 tb b ops s K Kp).ok R J →
  (∃ s',(∀ (Kn:St->Prop) (Kq:Value->St->Prop),Kn s'->Z1U P b ops s Kn Kq)/\(K s').ok R J)\/ ∃ v s',(∀ (Kn:St->Prop) (Kq:Value->St->Prop),Kq v s'->Z1U P b ops s Kn Kq)/\(Kp v s').ok R J
 | [],s,h=> .inl ⟨s,fun _ _ hk=>hk,h⟩
 | o::l,s,h=>by
  rcases Zg9 htb h with ⟨s1,h1,hk1⟩ | ⟨v,s1,h1,hk1⟩
  ·rcases Z77 htb hk1 with ⟨s2,h2,hk2⟩ | ⟨v,s2,h2,hk2⟩
   ·exact .inl ⟨s2,fun Kn Kq hk=>h1 _ _ (h2 _ _ hk),hk2⟩
   ·exact .inr ⟨v,s2,fun Kn Kq hk=>h1 _ _ (h2 _ _ hk),hk2⟩
  ·exact .inr ⟨v,s1,fun Kn Kq hk=>h1 _ _ hk,hk1⟩
end
def Zcp (tb:Ctr) (b:Nat) (o:SOp) (s:St) (K:St->Eff × Option (Nat × Nat × D)->Tr):Tr :=
 match o with
 | .a (some t) none (.load false 1) [x]=>(match s.get x with
  | .ptr id off=>(match lk s.ob id with
   | some (.cells cs)=>(match cs[off]? with
    | some (.vec m)=>K s (⟨[],some (t,.vec m),[],none⟩,some (id,off,.vec m))
    | some (.int k n)=>K s (⟨[],some (t,.int k n),[],none⟩,some (id,off,.int k n))
    | _=>hasT tb b o s fun s e=>K s (e,none))
   | _=>hasT tb b o s fun s e=>K s (e,none))
  | _=>hasT tb b o s fun s e=>K s (e,none))
 | _=>hasT tb b o s fun s e=>K s (e,none)
def Zgv (tb:Ctr) (b:Nat) (o:SOp) (s:St) (K:St->Eff × Option (Nat × Nat × D)->Tr) (Kp:Value->St->Eff × Option (Nat × Nat × D)->Tr):Tr :=
 match o with
 | .cd dst none x xs =>
  let az:=xs.map fun y=>dva (s.get x) (lk s.ob) (s.get y)
  let nm:=Z1w s (s.get x::az)
  if Z0p nm=true then (match tb.C (dst.getD 0) ((s.get x).ren (idx · nm)) (az.map (D.ren (idx · nm))) (Qc s.ob (idx · nm) 0 nm) with
   | some rt=>rtT rt fun r ob'=>panT r (fun v=>Kp v s (⟨nm++vids (xs.map s.get),none,[],some (s.base b)⟩,none))
     (K s (⟨nm++vids (xs.map s.get),dst.map (·,r.ren (bkN (s.base b) nm)),(renO (fun j=>match nm[j]? with | some i=>i | none=>s.base b+j) (bkN (s.base b) nm) ob').map (fun p=>(p.1,some p.2))++nm.map (·,none),some (s.base b)⟩,none))
   | none=> .bad) else .bad
 | _=>Zcp tb b o s K
def caPT (tb:Ctr) (b:Nat) (pre:List Nat) (c:Nat):Nat->List SOp->St->(List (Eff × Option (Nat × Nat × D))->Tr)->Tr
 | _,[],_,K=>K []
 | k,o::r,s,K=>match Qk pre c k with
  | true=>caPT tb b pre c (k+1) r s fun qs=>K ((⟨[],none,[],none⟩,none)::qs)
  | false=>Zcp tb b o s fun s q=>caPT tb b pre c (k+1) r (s.app q.1) fun qs=>K (q::qs)
def caOT (tb:Ctr) (b:Nat) (pre:List Nat):Nat->List SOp->St->(List (Eff × Option (Nat × Nat × D))->St->Tr)->(Nat->Value->List (Eff × Option (Nat × Nat × D))->Tr)->Tr
 | _,[],s,K,_=>K [] s
 | k,o::r,s,K,Kp=>Zgv tb b o s (fun s q=>caOT tb b pre (k+1) r (s.app q.1) (fun qs s'=>K (q::qs) s') fun c v qs=>match Qk pre c k with
   | true=> .bad
   | false=>Kp c v (q::qs)) (fun v s q=>caPT tb b pre k (k+1) r (s.app q.1) fun qs=>Kp k v (q::qs))
section
variable {R:D->Obs->Prop} {J:List Fr->St->Prop} {P:Program}
theorem Z7m {tb:Ctr} (htb:tb.OK P) {b:Nat} {o:SOp} {s:St} {K:St->Eff × Option (Nat × Nat × D)->Tr} (h:(Zcp tb b o s K).ok R J): ∃ q,HasC P b o s q/\(K s q).ok R J:=by
 have usual:(hasT tb b o s fun s e=>K s (e,none)).ok R J-> ∃ q,HasC P b o s q/\(K s q).ok R J:=fun h=>by
  obtain⟨e,h1,h2⟩:=Zaf htb h
  exact⟨(e,none),h1,h2⟩
 unfold Zcp at h
 split at h
 ·rename_i t x
  split at h
  ·rename_i id off hx
   split at h
   ·rename_i cs hcs
    split at h
    ·rename_i m hm
     exact⟨(⟨[],some (t,.vec m),[],none⟩,some (id,off,.vec m)),⟨hx,rfl⟩,h⟩
    ·rename_i k n hm
     exact⟨(⟨[],some (t,.int k n),[],none⟩,some (id,off,.int k n)),⟨hx,rfl⟩,h⟩
    ·exact usual h
   ·exact usual h
  ·exact usual h
 ·exact usual h
theorem Zco {tb:Ctr} (htb:tb.OK P) {b:Nat} {o:SOp} {s:St} {K:St->Eff × Option (Nat × Nat × D)->Tr} {Kp:Value->St->Eff × Option (Nat × Nat × D)->Tr} (h:(Zgv tb b o s K Kp).ok R J) :
  (∃ q,HasC P b o s q/\(K s q).ok R J)\/ ∃ v q,HasPn P b o s v q.1/\(Kp v s q).ok R J:=by
 unfold Zgv at h
 split at h
 ·rename_i dst x xs
  simp only at h
  split at h
  ·rename_i hnd
   split at h
   ·rename_i rt hrt
    obtain⟨r,ob',hc,hk⟩:=Z2d (htb.C _ _ _ _ _ hrt) h
    have hb:b+4096<=s.base b:=Nat.le_max_left ..
    rcases Z2L hk with ⟨hpn,hk⟩ | ⟨v,rfl,hk⟩
    ·exact .inl ⟨(_,none),(show HasB P b (.cd dst none x xs) s _ from ⟨_,r,ob',s.base b,Zx hnd,fun i hi=>ZR i hi,hb,hc,hpn,rfl⟩),hk⟩
    ·exact .inr ⟨v,(_,none),⟨_,s.base b,Zx hnd,fun i hi=>ZR i hi,hb,hc.mono fun _ _ hr=>hr.1,rfl⟩,hk⟩
   ·exact h.elim
  ·exact h.elim
 ·exact .inl (Z7m htb h)
theorem Z6k {tb:Ctr} (htb:tb.OK P) {b:Nat} {pre:List Nat} {c:Nat} {v:Value}: ∀ {ops:List SOp} {k:Nat} {s:St} {K:List (Eff × Option (Nat × Nat × D))->Tr},c<k->(caPT tb b pre c k ops s K).ok R J-> ∃ qs s',Z3k P b pre (some (c,v)) k ops s qs s'/\(K qs).ok R J
 | [],k,s,K,_,h=>⟨[],s,rfl,h⟩
 | o::l,k,s,K,hck,h=>by
  simp only[caPT] at h
  split at h
  ·rename_i hb
   obtain⟨qs,s2,h2,hk2⟩:=Z6k htb (by omega) h
   exact⟨(⟨[],none,[],none⟩,none)::qs,s2,⟨(show if k=c then _ else if Qk pre c k=true then _ else _ from by rw[if_neg (by omega),if_pos hb]),h2⟩,hk2⟩
  ·rename_i hb
   obtain⟨q,h1,hk1⟩:=Z7m htb h
   obtain⟨qs,s2,h2,hk2⟩:=Z6k htb (by omega) hk1
   exact⟨q::qs,s2,⟨by simp only[HasO]; rw[if_neg (by omega),if_neg (by simp[hb])]; exact h1,h2⟩,hk2⟩
theorem ZaT {tb:Ctr} (htb:tb.OK P) {b:Nat} {pre:List Nat}: ∀ {ops:List SOp} {k:Nat} {s:St} {K:List (Eff × Option (Nat × Nat × D))->St->Tr} {Kp:Nat->Value->List (Eff × Option (Nat × Nat × D))->Tr},(caOT tb b pre k ops s K Kp).ok R J →
  (∃ qs s',Z3k P b pre none k ops s qs s'/\(K qs s').ok R J)\/ ∃ c v qs s',k<=c/\c<k+ops.length/\Z3k P b pre (some (c,v)) k ops s qs s'/\(Kp c v qs).ok R J
 | [],k,s,K,Kp,h=> .inl ⟨[],s,rfl,h⟩
 | o::l,k,s,K,Kp,h=>by
  rcases Zco htb h with ⟨q,h1,hk1⟩ | ⟨v,q,h1,hk1⟩
  ·rcases ZaT htb hk1 with ⟨qs,s2,h2,hk2⟩ | ⟨c,v,qs,s2,hc1,hc2,h2,hk2⟩
   ·exact .inl ⟨q::qs,s2,⟨h1,h2⟩,hk2⟩
   ·split at hk2
    ·exact hk2.elim
    ·rename_i hb
     refine .inr ⟨c,v,q::qs,s2,by omega,by simp only[List.length_cons]; omega,⟨?_,h2⟩,hk2⟩
     simp only[HasO]
     rw[if_neg (by omega),if_neg (by simp[hb])]
     exact h1
  ·obtain⟨qs,s2,h2,hk2⟩:=Z6k (v:=v) htb (Nat.lt_succ_self k) hk1
   exact .inr ⟨k,v,q::qs,s2,Nat.le_refl _,by simp only[List.length_cons]; omega,⟨(show if k=k then _ else _ from by rw[if_pos rfl]; exact h1),h2⟩,hk2⟩
end
end Go.Sx
namespace Go.Sx
open Go.RowKit
variable [Globs] [Codes]
def swF (P:Program):Nat->Nat->List Fr->St->(Exit->St->Prop)->Prop
 | 0,_,_,_,_=>False
 | n+1,bs,K,s,Q=>match K with
  | []=>Q .normal s
  | .blk _::K=>swF P n bs K s Q
  | .sc c::K=>match c with
   | .skip=>swF P n bs K s Q
   | .ret=>Q .ret s
   | .exit i=>match Z0X i K with
    | some K'=>swF P n bs K' s Q
    | none=>Q (.exit i) s
   | .reg ops=>stps P (s.nx bs) ops s fun s'=>swF P n bs K s' Q
   | .drw pre ops=> ∃ es s',Z5m P (s.nx bs) ops s es s'/\dchk (s.nx bs) pre ops es s=true/\swF P n bs K s' Q
   | .seq a b=>swF P n bs (.sc a:: .sc b::K) s Q
   | .cond x a b=>match s.get x with
    | .bool t=>swF P n bs (.sc (if t=true then a else b)::K) s Q
    | _=>False
   | .block id c=>swF P n bs (.sc c:: .blk id::K) s Q
   | .loop ts c=>swF P n bs (.sc c:: .sc (.loop ts c)::K) (s.canon bs ts) Q
   | .spec k=>spS P bs k (fun e s'=>match e with
    | .normal=>swF P n bs K s' Q
    | .ret=>Q .ret s'
    | .exit i=>match Z0X i K with
     | some K'=>swF P n bs K' s' Q
     | none=>Q (.exit i) s'
    | .panic c=>Q (.panic c) s'
    | _=>False) s
   | .rangeF N g ps a b=>sw P bs (.rangeF N g ps a b) (fun e s'=>match e with
    | .normal=>swF P n bs K s' Q
    | .ret=>Q .ret s'
    | .exit i=>match Z0X i K with
     | some K'=>swF P n bs K' s' Q
     | none=>Q (.exit i) s'
    | .panic c=>Q (.panic c) s'
    | _=>False) s
section
variable {P:Program}
def Zg0 (P:Program) (m bs:Nat) (K:List Fr) (ex:Exit) (s:St) (Q:Exit->St->Prop):Prop:=match ex with
 | .normal=>swF P m bs K s Q
 | .ret=>Q .ret s
 | .exit i=>match Z0X i K with
  | some K'=>swF P m bs K' s Q
  | none=>Q (.exit i) s
 | .panic c=>Q (.panic c) s
 | _=>False
theorem Z8Y: ∀ (n bs:Nat) (c:SC) (K:List Fr) (s:St) (Q:Exit->St->Prop),swF P n bs (.sc c::K) s Q->sw P bs c (fun ex s1=> ∃ m,m<n/\Zg0 P m bs K ex s1 Q) s:=by
 intro n
 induction n using Nat.strongRecOn with
 | _ n ih =>
  intro bs c K s Q h
  cases n with
  | zero=>cases h
  | succ n =>
   cases c with
   | spec k =>
    simp only[swF] at h
    exact Z4c (Q:=fun e s'=>match e with
     | .normal=>swF P n bs K s' Q
     | .ret=>Q .ret s'
     | .exit i=>match Z0X i K with
      | some K'=>swF P n bs K' s' Q
      | none=>Q (.exit i) s'
     | .panic c=>Q (.panic c) s'
     | _=>False) h fun ex s1 hr=>⟨n,Nat.lt_succ_self n,by cases ex <;> exact hr⟩
   | skip=>exact⟨n,Nat.lt_succ_self n,h⟩
   | ret=>exact⟨n,Nat.lt_succ_self n,h⟩
   | exit i=>exact⟨n,Nat.lt_succ_self n,h⟩
   | reg ops=>exact Z0O (K:=fun s'=>swF P n bs K s' Q) h fun s' hs'=>⟨n,Nat.lt_succ_self n,hs'⟩
   | drw pre ops =>
    obtain⟨es,s',h1,h2,h3⟩:=h
    exact⟨es,s',h1,h2,n,Nat.lt_succ_self n,h3⟩
   | seq a b =>
    show sw P bs a (thenS (sw P bs b _) _) s
    refine ZK (ih n (Nat.lt_succ_self n) bs a _ s Q h) fun ex s1 ⟨m,hm,hr⟩=> ?_
    cases ex <;> simp only[thenS]
    ·exact ZK (ih m (by omega) bs b K s1 Q hr) fun ex s2 ⟨m',hm',hr'⟩=>⟨m',by omega,hr'⟩
    ·exact⟨m,by omega,hr⟩
    ·exact hr.elim
    ·exact⟨m,by omega,hr⟩
    all_goals first | exact⟨m,by omega,hr⟩ | exact hr.elim
   | cond x a b =>
    simp only[swF] at h
    simp only[sw]
    split at h
    ·rename_i t hx
     cases t
     ·rw[if_neg (by simp)] at h
      rw[hx]
      simp only[Bool.false_eq_true,if_false]
      exact ZK (ih n (Nat.lt_succ_self n) bs b K s Q h) fun ex s1 ⟨m,hm,hr⟩=>⟨m,by omega,hr⟩
     ·rw[if_pos rfl] at h
      rw[hx]
      simp only[if_true]
      exact ZK (ih n (Nat.lt_succ_self n) bs a K s Q h) fun ex s1 ⟨m,hm,hr⟩=>⟨m,by omega,hr⟩
    ·exact h.elim
   | block id c =>
    show sw P bs c (Z0y id _) s
    refine ZK (ih n (Nat.lt_succ_self n) bs c _ s Q h) fun ex s1 ⟨m,hm,hr⟩=> ?_
    cases ex <;> simp only[Z0y]
    ·cases m with
     | zero=>cases hr
     | succ m=>exact⟨m,by omega,hr⟩
    ·rename_i i
     simp only[Zg0,Z0X] at hr
     split
     ·rename_i hi; rw[if_pos hi] at hr; exact⟨m,by omega,hr⟩
     ·rename_i hi; rw[if_neg hi] at hr; exact⟨m,by omega,hr⟩
    ·exact hr.elim
    ·exact⟨m,by omega,hr⟩
    all_goals first | exact⟨m,by omega,hr⟩ | exact hr.elim
   | loop ts c =>
    refine⟨ts,fun k s'=>k<=n/\swF P k bs (.sc c:: .sc (.loop ts c)::K) s' Q,⟨n,Nat.le_refl _,h⟩,fun k s' hk=> ?_⟩
    refine ZK (ih k (by omega) bs c _ s' Q hk.2) fun ex s1 ⟨m,hm,hr⟩=> ?_
    cases ex <;> simp only[thenS]
    ·cases m with
     | zero=>cases hr
     | succ m=>exact⟨m,by omega,by omega,hr⟩
    ·exact⟨m,by omega,hr⟩
    ·exact hr.elim
    ·exact⟨m,by omega,hr⟩
    all_goals first | exact⟨m,by omega,hr⟩ | exact hr.elim
   | rangeF N g ps a b =>
    simp only[swF] at h
    exact ZK h fun ex s1 hr=>⟨n,Nat.lt_succ_self n,by cases ex <;> exact hr⟩
def At (P:Program) (bs:Nat) (K:List Fr) (s:St) (Q:Exit->St->Prop):Prop:= ∃ n,swF P n bs K s Q
theorem CallL.reordG {P:Program} {d:D} {args:List D} {ob:Obs} {R:D->Obs->Prop} (h:CallL P d args ob (fun r0 ob0=>R r0 (Z1W ob0))):CallL P d args ob R:=by
 intro F hF n φ hh w v vs hp hv hvs
 refine (h F hF n φ hh w v vs hp hv hvs).mono ?_
 rintro e w' ⟨r0,ob0,φ',h',hend,hR,ha⟩
 have he: ∀ i,lk (Z1W ob0) i=lk ob0 i:=fun i=>Zt i ob0
 exact⟨r0,Z1W ob0,φ',h',hend,hR,⟨⟨ha.loc.one,ha.loc.glob.sub fun b ⟨i,hi,hb⟩=>⟨i,by rw[<- he]; exact hi,hb⟩,ha.loc.mem,fun i o ho=>ha.loc.obj i o (by rw[<- he]; exact ho),fun i j b hi hj=>ha.loc.sep i j b (by rw[<- he]; exact hi) (by rw[<- he]; exact hj)⟩,
  ha.ext,ha.new,ha.frame,ha.hfix,ha.os,ha.tape,ha.output,ha.grow⟩⟩
def RE (pu:Bool) (R:D->Obs->Prop):D->Obs->Prop:=match pu with
 | true=>fun d ob=> ∃ r,retE d ob=some r/\R r []
 | false=>fun d ob=>R d (Z1W ob)
def FinQ (pu:Bool) (bs:Nat) (rs:List SR) (R:D->Obs->Prop):Exit->St->Prop:=fun e s=>match e with
 | .normal=> ∃ ds,rs.mapM (resD s)=some ds/\RetL bs (RE pu R) s (Z0w ds)
 | .ret=> ∃ ds,rs.mapM (resD s)=some ds/\RetL bs (RE pu R) s (Z0w ds)
 | .panic c=> ∃ v,c=[{ v,recovered:=false }]/\RetL bs (RE pu R) s (.pan v)
 | _=>False
def panF (pu:Bool) (bs:Nat) (c:List PanicEntry) (s:St):Tr:=match c with
 | [⟨v,false,false⟩]=>(match pu with
  | true=> .bad
  | false=> .ret (.pan v) (Z1W (s.fin bs (.pan v)).ob))
 | _=> .bad
def endT (pu:Bool) (bs:Nat) (rs:List SR) (s:St):Tr:=match rs.mapM (resD s) with
 | some ds=>match pu with
  | true=>match retE ((s.fin bs (Z0w ds)).get (.t 0)) (s.fin bs (Z0w ds)).ob with
   | some r=> .ret r []
   | none=> .bad
  | false=> .ret ((s.fin bs (Z0w ds)).get (.t 0)) (Z1W (s.fin bs (Z0w ds)).ob)
 | none=> .bad
def finF (pu:Bool) (bs:Nat) (rs:List SR):Exit->St->Tr:=fun e s=>match e with
 | .normal=>endT pu bs rs s
 | .ret=>endT pu bs rs s
 | .panic c=>panF pu bs c s
 | _=> .bad
def intT (a c:Bool) (x:Tr):Tr:=match a with
 | false=>x
 | true=>brT c x .bad
theorem Z4s {R:D->Obs->Prop} {J:List Fr->St->Prop} {a c:Bool} {x:Tr} (h0:a=false->c=true) (h:(intT a c x).ok R J):x.ok R J/\c=true:=by
 cases a with
 | false=>exact⟨h,h0 rfl⟩
 | true =>
  cases c with
  | true=>exact⟨h,rfl⟩
  | false=>exact h.elim
def Z0l (P:Program) (tb:Ctr) (bs:Nat) (fin:Exit->St->Tr) (ih:List Fr->St->Tr):List Fr->St->Tr:=fun K s=>match K with
 | []=>fin .normal s
 | .blk _::K=>ih K s
 | .sc c::K=>match c with
  | .skip=>ih K s
  | .ret=>fin .ret s
  | .exit i=>match Z0X i K with
   | some K'=>ih K' s
   | none=>fin (.exit i) s
  | .reg ops=>opsT tb (s.nx bs) ops s fun s'=>ih K s'
  | .drw pre ops=>caT tb (s.nx bs) ops s fun es s'=>if dchk (s.nx bs) pre ops es s=true then ih K s' else .bad
  | .seq a b=>ih (.sc a:: .sc b::K) s
  | .cond x a b=>match s.get x with
   | .bool t=>brT t (ih (.sc a::K) s) (ih (.sc b::K) s)
   | _=> .bad
  | .block id c=>ih (.sc c:: .blk id::K) s
  | .loop ts c=> .jmp (.sc c:: .sc (.loop ts c)::K) (s.canon bs ts)
  | .spec k=>match k with
   | .frg ts=> .jmp K (s.canon bs ts)
   | .pan ops=>Zg8 tb (s.nx bs) ops s (fun s'=>ih K s') (fun v s'=>fin (pnc v) s')
   | .ord pre ops=>caOT tb (s.nx bs) pre 0 ops s (fun qs s'=>if (dchk (s.nx bs) pre ops (qs.map (·.1)) s && ZV false pre s (qs.map (·.1)) 0 qs)=true then intT (Z8a qs) (ZV true pre s (qs.map (·.1)) 0 qs) (ih K s') else .bad)
     (fun _ v qs=>if (dchk (s.nx bs) pre ops (qs.map (·.1)) s && ZV false pre s (qs.map (·.1)) 0 qs)=true then intT (Z8a qs) (ZV true pre s (qs.map (·.1)) 0 qs) (fin (pnc v) ⟨[],[]⟩) else .bad)
   | _=> .jmp (.sc (.spec k)::K) s
  | .rangeF N g ps a b =>
   let ob1:=rngS P s (s.nx bs) N ps a b
   let nm:=Z1w ⟨s.tm,ob1⟩ [s.get g,.yld (s.nx bs)]
   match s.get g with
   | .func (.func f) fa fc=>if Z0p nm=true/\QE P f=true then
     (match tb.C 0 ((s.get g).ren (idx · nm)) [(D.yld (s.nx bs)).ren (idx · nm)] (Qc ob1 (idx · nm) 0 nm) with
     | some rt=>rtT rt fun r ob'=>panT r (fun v=>fin (pnc v) ⟨s.tm,Za (s.nx bs) (St.back ⟨s.tm,ob1⟩ (s.nx bs+1) nm ob').ob⟩) <|
      let S:=St.back ⟨s.tm,ob1⟩ (s.nx bs+1) nm ob'
      match lk S.ob (s.nx bs) with
      | some (.gen (.loop st pend _ _ _ _ _) _)=>if st= .busy then .bad else (match pend with
       | none=>ih K ⟨s.tm,Za (s.nx bs) S.ob⟩
       | some .ret=>fin .ret ⟨s.tm,Za (s.nx bs) S.ob⟩
       | some (.exit i)=>match Z0X i K with
        | some K'=>ih K' ⟨s.tm,Za (s.nx bs) S.ob⟩
        | none=>fin (.exit i) ⟨s.tm,Za (s.nx bs) S.ob⟩
       | _=> .bad)
      | _=> .bad
     | none=> .jmp (.sc (.rangeF N g ps a b)::K) s) else .bad
   | _=> .bad
def goT (P:Program) (tb:Ctr) (bs:Nat) (fin:Exit->St->Tr) (n:Nat):List Fr->St->Tr:=Nat.rec (fun _ _=> .bad) (fun _ ih=>Z0l P tb bs fin ih) n
theorem Zcr (tb:Ctr) (bs:Nat) (fin:Exit->St->Tr) (n:Nat):goT P tb bs fin (n+1)=Z0l P tb bs fin (goT P tb bs fin n):=rfl
theorem Zax {pu:Bool} {bs:Nat} {rs:List SR} {s:St} {R:D->Obs->Prop} {J:List Fr->St->Prop} (h:(endT pu bs rs s).ok R J): ∃ ds,rs.mapM (resD s)=some ds/\RetL bs (RE pu R) s (Z0w ds):=by
 unfold endT at h
 split at h
 ·rename_i ds hds
  refine⟨ds,hds, ?_⟩
  cases pu with
  | true =>
   simp only at h
   split at h
   ·rename_i r hr; exact⟨r,hr,h⟩
   ·exact h.elim
  | false=>exact h
 ·exact h.elim
theorem Z13 {pu:Bool} {bs:Nat} {rs:List SR} {R:D->Obs->Prop} {J:List Fr->St->Prop} (e:Exit) (s:St) (h:(finF pu bs rs e s).ok R J):FinQ pu bs rs R e s:=by
 cases e <;> try first | exact Zax h | exact h.elim
 simp only[finF,panF] at h
 split at h
 ·rename_i v
  cases pu with
  | true=>exact h.elim
  | false=>exact⟨v,rfl,h⟩
 ·exact h.elim
theorem Z2p: ∀ {n m bs:Nat} {K:List Fr} {s:St} {Q:Exit->St->Prop},n<=m->swF P n bs K s Q->swF P m bs K s Q
 | 0,_,_,_,_,_,_,h=>h.elim
 | n+1,0,_,_,_,_,hle,_=>by omega
 | n+1,m+1,bs,K,s,Q,hle,h=>by
  have up: ∀ {K' s'},swF P n bs K' s' Q->swF P m bs K' s' Q:=fun h=>Z2p (by omega) h
  match K,h with
  | [],h=>exact h
  | .blk _::K,h=>exact up h
  | .sc c::K,h =>
   cases c with
   | skip=>exact up h
   | ret=>exact h
   | exit i =>
    simp only[swF] at h ⊢
    split
    ·rename_i hp; rw[hp] at h; exact up h
    ·rename_i hp; rw[hp] at h; exact h
   | reg ops=>exact Z0O (K:=fun s'=>swF P n bs K s' Q) h fun s' hs=>up hs
   | drw pre ops=>obtain⟨es,s',h1,h2,h3⟩:=h; exact⟨es,s',h1,h2,up h3⟩
   | seq a b=>exact up h
   | cond x a b =>
    simp only[swF] at h ⊢
    split at h
    ·exact up h
    ·exact h.elim
   | block id c=>exact up h
   | loop ts c=>exact up h
   | spec k =>
    simp only[swF] at h ⊢
    refine Z4c h fun e s' he=> ?_
    cases e <;> try exact he
    ·exact up he
    ·simp only at he ⊢
     split at he
     ·exact up he
     ·exact he
   | rangeF N g ps a b =>
    simp only[swF] at h ⊢
    refine ZK h fun e s' he=> ?_
    cases e <;> try exact he
    ·exact up he
    ·simp only at he ⊢
     split at he
     ·exact up he
     ·exact he
theorem Tr.ok_mono {R:D->Obs->Prop} {J J':List Fr->St->Prop} (h: ∀ K s,J K s->J' K s): ∀ {T:Tr},T.ok R J->T.ok R J'
 | .ret _ _,ht=>ht
 | .jmp _ _,ht=>h _ _ ht
 | .owe _ x,ht=>⟨ht.1,Tr.ok_mono h ht.2⟩
 | .bad,ht=>ht
theorem Tr.ok_at {R:D->Obs->Prop} {J:List Fr->St->Prop} {A:Nat->List Fr->St->Prop} (h: ∀ K s,J K s-> ∃ n,A n K s): ∀ {T:Tr},T.ok R J-> ∃ n,T.ok R fun K s=>J K s/\A n K s
 | .ret _ _,ht=>⟨0,ht⟩
 | .jmp K s,ht=>by
  obtain⟨n,hn⟩:=h K s ht
  exact⟨n,ht,hn⟩
 | .owe _ x,ht=>by
  obtain⟨n,hn⟩:=Tr.ok_at h ht.2
  exact⟨n,ht.1,hn⟩
 | .bad,ht=>ht.elim
theorem Z8k {tb:Ctr} (htb:tb.OK P) {bs:Nat} {fin:Exit->St->Tr} {R:D->Obs->Prop} {J:List Fr->St->Prop} {Q:Exit->St->Prop} {m:Nat} {ih:List Fr->St->Tr} (hfin: ∀ e s,(fin e s).ok R J->Q e s) (hJ: ∀ K s,J K s->swF P m bs K s Q)
  (up: ∀ {K s},(ih K s).ok R J->swF P m bs K s Q) {K:List Fr} {s:St} (h:(Z0l P tb bs fin ih K s).ok R J):swF P (m+1) bs K s Q:=by
  match K,h with
  | [],h=>exact hfin _ _ h
  | .blk _::K,h=>exact up h
  | .sc c::K,h =>
   cases c with
   | skip=>exact up h
   | ret=>exact hfin _ _ h
   | exit i =>
    simp only[Z0l] at h
    split at h
    ·rename_i K' hp
     simp only[swF,hp]; exact up h
    ·rename_i hp
     simp only[swF,hp]; exact hfin _ _ h
   | reg ops =>
    simp only[Z0l] at h
    obtain⟨s',h1,h2⟩:=Z2M htb h
    exact h1 _ (up h2)
   | drw pre ops =>
    simp only[Z0l] at h
    obtain⟨es,s',h1,h2⟩:=ZaS htb h
    split at h2
    ·rename_i hd
     exact⟨es,s',h1,hd,up h2⟩
    ·exact h2.elim
   | seq a b=>exact up h
   | cond x a b =>
    simp only[Z0l] at h
    split at h
    ·rename_i t hx
     rcases Z5j h with ⟨rfl,h⟩ | ⟨rfl,h⟩
     ·simp only[swF,hx,if_true]; exact up h
     ·simp only[swF,hx]; exact up h
    ·exact h.elim
   | block id c=>exact up h
   | loop ts c =>
    have h1:=hJ _ _ h
    show swF P m bs (.sc c:: .sc (.loop ts c)::K) (s.canon bs ts) Q
    exact h1
   | spec k =>
    cases k with
    | frg ts=>exact hJ _ _ h
    | pan ops =>
     simp only[Z0l] at h
     rcases Z77 htb h with ⟨s',h1,h2⟩ | ⟨v,s',h1,h2⟩
     ·exact h1 _ _ (up h2)
     ·exact h1 _ _ (hfin _ _ h2)
    | ord pre ops =>
     simp only[Z0l] at h
     rcases ZaT htb h with ⟨qs,s',h1,h2⟩ | ⟨c,v,qs,s',_,hc,h1,h2⟩
     ·split at h2
      ·rename_i hd
       simp only[Bool.and_eq_true] at hd
       exact⟨none,qs,s',h1,hd.1,⟨hd.2,(Z4s Z02 h2).2⟩,up (Z4s Z02 h2).1⟩
      ·exact h2.elim
     ·split at h2
      ·rename_i hd
       simp only[Bool.and_eq_true] at hd
       exact⟨some (c,v),qs,s',h1,hd.1,⟨hd.2,(Z4s Z02 h2).2⟩,by omega,hfin _ _ (Z4s Z02 h2).1⟩
      ·exact h2.elim
    | _=>exact Z2p (Nat.le_succ m) (hJ _ _ h)
   | rangeF N g ps a b =>
    simp only[Z0l] at h
    split at h
    ·rename_i f fa fc hg
     split at h
     ·rename_i hc
      split at h
      ·rename_i rt hrt
       obtain⟨r,ob',hcall,hk⟩:=Z2d (htb.C _ _ _ _ _ hrt) h
       rcases Z2L hk with ⟨hpn,hk⟩ | ⟨v,rfl,hk⟩
       case inr =>
        refine⟨_,_,Zx hc.1,fun i hi=>ZR (s:=⟨s.tm,rngS P s (s.nx bs) N ps a b⟩) i hi,⟨f,fa,fc,hg,hc.2⟩,hcall, ?_⟩
        rintro r0 ob0 ⟨rfl,rfl⟩
        exact .inl ⟨v,rfl,hfin _ _ hk⟩
       split at hk
       ·rename_i st pend _ _ _ _ _ _ hl
        split at hk
        ·exact hk.elim
        ·rename_i hst
         have fin:(match pend with
           | none=>swF P m bs K ⟨s.tm,Za (s.nx bs) (St.back ⟨s.tm,rngS P s (s.nx bs) N ps a b⟩ (s.nx bs+1) (Z1w ⟨s.tm,rngS P s (s.nx bs) N ps a b⟩ [s.get g,.yld (s.nx bs)]) ob').ob⟩ Q
           | some .ret=>Q .ret ⟨s.tm,Za (s.nx bs) (St.back ⟨s.tm,rngS P s (s.nx bs) N ps a b⟩ (s.nx bs+1) (Z1w ⟨s.tm,rngS P s (s.nx bs) N ps a b⟩ [s.get g,.yld (s.nx bs)]) ob').ob⟩
           | some (.exit i)=>(match Z0X i K with
            | some K'=>swF P m bs K' ⟨s.tm,Za (s.nx bs) (St.back ⟨s.tm,rngS P s (s.nx bs) N ps a b⟩ (s.nx bs+1) (Z1w ⟨s.tm,rngS P s (s.nx bs) N ps a b⟩ [s.get g,.yld (s.nx bs)]) ob').ob⟩ Q
            | none=>Q (.exit i) ⟨s.tm,Za (s.nx bs) (St.back ⟨s.tm,rngS P s (s.nx bs) N ps a b⟩ (s.nx bs+1) (Z1w ⟨s.tm,rngS P s (s.nx bs) N ps a b⟩ [s.get g,.yld (s.nx bs)]) ob').ob⟩)
           | _=>False)->swF P (m+1) bs (.sc (.rangeF N g ps a b)::K) s Q:=fun hm=>by
          refine⟨_,_,Zx hc.1,fun i hi=>ZR (s:=⟨s.tm,rngS P s (s.nx bs) N ps a b⟩) i hi,⟨f,fa,fc,hg,hc.2⟩,hcall, ?_⟩
          rintro r0 ob0 ⟨rfl,rfl⟩
          refine .inr ⟨hpn,st,pend,_,_,_,_,_,_,hl,hst, ?_⟩
          split at hm
          ·exact hm
          ·exact hm
          ·exact hm
          ·exact hm.elim
         cases pend with
         | none=>exact fin (up hk)
         | some c0 =>
          cases c0 <;> try exact hk.elim
          ·rename_i i0
           simp only at hk
           refine fin ?_
           simp only
           split at hk
           ·exact up hk
           ·exact hfin _ _ hk
          ·exact fin (hfin _ _ hk)
       ·exact hk.elim
      ·exact Z2p (Nat.le_succ m) (hJ _ _ h)
     ·exact h.elim
    ·exact h.elim
theorem ZiS {tb:Ctr} (htb:tb.OK P) {bs:Nat} {fin:Exit->St->Tr} {R:D->Obs->Prop} {J:List Fr->St->Prop} {Q:Exit->St->Prop} {n0:Nat} (hfin: ∀ e s,(fin e s).ok R J->Q e s) (hJ: ∀ K s,J K s->swF P n0 bs K s Q) :
  ∀ {n:Nat} {K:List Fr} {s:St},(goT P tb bs fin n K s).ok R J->swF P (n0+n) bs K s Q
 | 0,K,s,h=>h.elim
 | n+1,K,s,h=>by
  rw[Zcr] at h
  exact Z8k htb hfin (fun K s hj=>Z2p (Nat.le_add_right _ _) (hJ K s hj)) (fun h=>ZiS htb hfin hJ h) h
theorem Z30 {tb:Ctr} (htb:tb.OK P) {bs:Nat} {fin:Exit->St->Tr} {R:D->Obs->Prop} {J:List Fr->St->Prop} {Q:Exit->St->Prop} (hfin: ∀ e s,(fin e s).ok R J->Q e s) (hJ: ∀ K s,J K s->At P bs K s Q)
  {n:Nat} {K:List Fr} {s:St} (h:(goT P tb bs fin n K s).ok R J):At P bs K s Q:=by
 obtain⟨n0,h0⟩:=Tr.ok_at (A:=fun n K s=>swF P n bs K s Q) hJ h
 exact⟨_,ZiS htb (fun e s hf=>hfin e s (Tr.ok_mono (fun _ _ h=>h.1) hf)) (fun _ _ h=>h.2) h0⟩
def SC.tl:SC->Nat->SC
 | c,0=>c
 | .seq _ b,n+1=>b.tl n
 | c,_+1=>c
def frgs:SC->List Fr->List (List Fr)
 | .seq (.spec (.frg _)) b,K=>(.sc b::K)::frgs b K
 | .seq a b,K=>frgs a (.sc b::K)++frgs b K
 | .cond _ a b,K=>frgs a K++frgs b K
 | .block id c,K=>frgs c (.blk id::K)
 | .loop ts c,K=>frgs c (.sc (.loop ts c)::K)
 | _,_=>[]
def frg (sc:SC) (n:Nat):List Fr:=(frgs sc []).getD n []
theorem At.tree {tb:Ctr} (htb:tb.OK P) {pu:Bool} {bs:Nat} {rs:List SR} {R:D->Obs->Prop} {n:Nat} {K:List Fr} {s:St} {T:Tr} (e:goT P tb bs (finF pu bs rs) n K s=T)
  (h:T.ok R (fun K s=>At P bs K s (FinQ pu bs rs R))):At P bs K s (FinQ pu bs rs R):=Z30 htb Z13 (fun _ _ h=>h) (e ▸ h)
theorem Z8w {bs:Nat} {sc:SC} {s:St} {Q:Exit->St->Prop} (h:At P bs [.sc sc] s Q):sw P bs sc Q s:=by
 obtain⟨n,hn⟩:=h
 refine ZK (Z8Y n bs sc [] s Q hn) fun ex s1 ⟨m,_,hr⟩=> ?_
 cases ex <;> simp only[Zg0,Z0X] at hr
 ·cases m with
  | zero=>cases hr
  | succ m=>exact hr
 ·exact hr
 ·exact hr
 ·exact hr
theorem FnOK.at[CodesOf P] (Z7:DrawSound P) {f:FuncId} {N:Nat} {sc:SC} {rs:List SR} (hf:FnC P f N sc rs/\QE P f=true) {args:List D} {r:D}
  (h:At P 0 [.sc sc] ⟨Zv 0 args,[]⟩ (FinQ true 0 rs (fun d _=>d=r))) (hlen:Nat.ble args.length N=true:=by rfl):FnOK P f args r:=by
 have hlen:=Nat.le_of_ble_eq_true hlen
 have hsw:=Z8w h
 refine FnOK.of_call hf.2 (CallL.fn Z7 hf.1 hf.2 (first:=[]) (caps:=[]) 0 (Nat.le_refl _) (by simpa using hlen) ?_)
 have conv: ∀ (s:St) (d:D),RetL 0 (RE true (fun d _=>d=r)) s d->RetL 0 (RetK r) s d:=by
  rintro s d ⟨r',hr',rfl⟩
  unfold retE at hr'
  unfold RetL RetK
  split at hr'
  ·rename_i id hid
   split at hr'
   ·rename_i sz e es hl
    cases hr'
    exact .inl ⟨id,sz,e,es,hid,hl,rfl⟩
   ·cases hr'
  ·split at hr'
   ·rename_i hclo
    cases hr'
    exact .inr ⟨hclo,rfl⟩
   ·cases hr'
 rw[List.nil_append,List.append_nil]
 refine ZK hsw fun ex s1 hq=> ?_
 cases ex <;> simp only[FinQ,EndQ] at hq ⊢
 ·obtain⟨ds,hds,hr⟩:=hq; exact⟨ds,hds,conv _ _ hr⟩
 ·obtain⟨ds,hds,hr⟩:=hq; exact⟨ds,hds,conv _ _ hr⟩
 ·obtain⟨v,rfl,hr⟩:=hq; exact⟨v,rfl,conv _ _ hr⟩
theorem FnOK.tree [CodesOf P] (Z7:DrawSound P) {f:FuncId} {N:Nat} {sc:SC} {rs:List SR} (hf:FnC P f N sc rs/\QE P f=true) {tb:Ctr} (htb:tb.OK P) {n:Nat} {args:List D} {r:D} {T:Tr}
  (e:goT P tb 0 (finF true 0 rs) n [.sc sc] ⟨Zv 0 args,[]⟩=T) (h:T.ok (fun d _=>d=r) (fun K s=>At P 0 K s (FinQ true 0 rs (fun d _=>d=r)))) (hlen:Nat.ble args.length N=true:=by rfl):FnOK P f args r :=
 FnOK.at Z7 hf (Z30 htb Z13 (fun _ _ h=>h) (e ▸ h)) hlen
theorem CallL.tree [CodesOf P] (Z7:DrawSound P) {f:FuncId} {N:Nat} {sc:SC} {rs:List SR} (hf:FnC P f N sc rs/\QE P f=true) {tb:Ctr} (htb:tb.OK P) {n bs:Nat} {first args caps:List D} {ob:Obs} {R:D->Obs->Prop} {T:Tr}
  (e:goT P tb bs (finF false bs rs) n [.sc sc] ⟨Zv 0 (first++args++caps),ob⟩=T) (h:T.ok R (fun K s=>At P bs K s (FinQ false bs rs R))) (hlen:Nat.ble (first++args++caps).length N=true:=by rfl) (hbs:Nat.ble (Obs.top ob) bs=true:=by rfl):CallL P (.func (.func f) first caps) args ob R:=by
 have hlen:=Nat.le_of_ble_eq_true hlen
 have hbs:=Nat.le_of_ble_eq_true hbs
 have hsw:=Z8w (Z30 htb Z13 (fun _ _ h=>h) (e ▸ h))
 refine CallL.reordG (CallL.fn Z7 hf.1 hf.2 bs hbs hlen ?_)
 refine ZK hsw fun ex s1 hq=> ?_
 cases ex <;> simp only[FinQ,RE,EndQ] at hq ⊢ <;> exact hq
end
def finY (k rid N:Nat) (ps:Array Tmp) (a b:SC) (keys:List Nat) (ds:List D):Exit->St->Tr:=fun e s=>match Zc6 e with
 | some pend=>if (lk s.ob rid).isNone=true then .ret (.bool pend.isNone) (Z1W ((rid,.gen (.loop (if pend.isNone then .ready else .done) pend ps a b N keys) ds)::(s.canon k []).ob)) else .bad
 | none=> .bad
def yldT (P:Program) (tb:Ctr) (k rid N:Nat) (ps:Array Tmp) (a b:SC) (keys:List Nat) (ds:List D) (n:Nat) (s:St):Tr :=
 goT P tb k (fun e s=>match e with
  | .normal=>goT P tb k (finY k rid N ps a b keys ds) n [.sc b] s
  | _=> .bad) n [.sc a] s
section
variable {P:Program}
theorem CallL.yldT [CodesOf P] (Z7:DrawSound P) {tb:Ctr} (htb:tb.OK P) {n k rid N:Nat} {ps:Array Tmp} {a b:SC} {keys:List Nat} {ds args:List D} {ob:Obs} {R:D->Obs->Prop} {T:Tr}
  (hrec:lk ob rid=some (.gen (.loop .ready none ps a b N keys) ds)) (e:Sx.yldT P tb k rid N ps a b keys ds n ⟨putP (ps.toList.zip args) (keys.zip ds),Za rid ob⟩=T)
  (h:T.ok R (fun _ _=>False)) (hk:Nat.ble (Obs.top ob) k=true:=by rfl) (hps:ps.size=args.length:=by rfl) (hpN:(ps.toList.all fun t=>decide (t<N))=true:=by rfl):CallL P (.yld rid) args ob R:=by
 have hk:=Nat.le_of_ble_eq_true hk
 refine CallL.reordG (CallL.yld Z7 k hk hrec hps (fun t ht=>by simpa using List.all_eq_true.1 hpN t ht) ?_)
 have h':(Sx.yldT P tb k rid N ps a b keys ds n ⟨putP (ps.toList.zip args) (keys.zip ds),Za rid ob⟩).ok R (fun _ _=>False):=e ▸ h
 unfold Sx.yldT at h'
 refine Z8w (Z30 htb (fun e s hf=> ?_) (fun _ _ h=>h.elim) h')
 cases e <;> try exact hf.elim
 refine Z8w (Z30 htb (fun e s hf=> ?_) (fun _ _ h=>h.elim) hf)
 unfold finY at hf
 split at hf
 ·rename_i pend hpe
  split at hf
  ·rename_i hn
   refine⟨by simpa using hn, ?_⟩
   cases e <;> simp only[Zc6,Option.some.injEq,reduceCtorEq] at hpe <;> (subst hpe; exact hf)
  ·exact hf.elim
 ·exact hf.elim
end
def cuts:SC->List Fr->List (List Fr)
 | .seq a b,K=>cuts a (.sc b::K)++cuts b K
 | .cond _ a b,K=>cuts a K++cuts b K
 | .block id c,K=>cuts c (.blk id::K)
 | .loop ts c,K=>(.sc c:: .sc (.loop ts c)::K)::cuts c (.sc (.loop ts c)::K)
 | _,_=>[]
def cut (sc:SC) (n:Nat):List Fr:=(cuts sc []).getD n []
def spcs:SC->List Fr->List (List Fr)
 | .seq a b,K=>spcs a (.sc b::K)++spcs b K
 | .cond _ a b,K=>spcs a K++spcs b K
 | .block id c,K=>spcs c (.blk id::K)
 | .loop ts c,K=>spcs c (.sc (.loop ts c)::K)
 | .spec k,K=>[.sc (.spec k)::K]
 | _,_=>[]
def spc (sc:SC) (n:Nat):List Fr:=(spcs sc []).getD n []
def aft (sc:SC) (n:Nat):List Fr:=(spc sc n).tail
def SC.rngs:SC->List (SC × SC)
 | .seq a b=>a.rngs++b.rngs
 | .cond _ a b=>a.rngs++b.rngs
 | .block _ c=>c.rngs
 | .loop _ c=>c.rngs
 | .rangeF _ _ _ a b=>(a,b)::(a.rngs++b.rngs)
 | _=>[]
def SC.rngA (sc:SC) (n:Nat):SC:=(sc.rngs.getD n (.skip,.skip)).1
def SC.rngB (sc:SC) (n:Nat):SC:=(sc.rngs.getD n (.skip,.skip)).2
end Go.Sx
/- WHAT COMES IN WITH TERMS IN IT: structs and slices over terms,as plain data. -/
namespace Go.Sx
open Go.RowKit Go.Deep Go.ChangeShapes Go.WideShapes
inductive ShT where
 | bool
 | int (k:IntKind)
 | str
 | tms
 | slice (e:List ShT)
mutual
def ShT.fit (B:Nat):ShT->D->Prop
 | .bool,d=> ∃ b,d= .bool b
 | .int k,d=> ∃ n,d= .int k n/\(Lit.int k n).wf=true
 | .str,d=> ∃ s,d= .str s/\s.length<=B
 | .tms,d=> ∃ l,d= .slice (Tm.cellsL l) []/\l.length<=B/\Tm.wfL B l
 | .slice l,d=> ∃ es,d= .slice es []/\es.length<=B/\ ∀ e,e∈es->ShT.fits B l e
def ShT.fits (B:Nat):List ShT->List D->Prop
 | [],ds=>ds=[]
 | s::r,ds=> ∃ d t,ds=d::t/\ShT.fit B s d/\ShT.fits B r t
end
def fshT (P:Program) (sh:TypeId->Option (List ShT)):List Field->Nat->Option (List ShT)
 | [],_=>some []
 | f::r,off=>if f.offset=off then match sh f.type with
  | some l=>if l.length=P.cellsOf f.type then match fshT P sh r (off+l.length) with
   | some m=>some (l++m)
   | none=>none
   else none
  | none=>none
  else none
def shT (P:Program) (T:TypeId):Nat->TypeId->Option (List ShT)
 | 0,_=>none
 | n+1,t=>match P.underlying t with
  | some .bool=>some [.bool]
  | some (.int k)=>some [.int k]
  | some .string=>some [.str]
  | some (.slice e)=>if e == T then some [.tms] else if 0<P.bytesOf e then match shT P T n e with
   | some l=>if l.length=P.cellsOf e/\0<l.length then some [.slice l] else none
   | none=>none
   else none
  | some (.struct fs)=>match fshT P (shT P T n) fs.toList 0 with
   | some l=>if l.length=P.cellsOf t then some l else none
   | none=>none
  | _=>none
variable {H:Type} {enc:TypeId × Value->H} {P:Program} {w:World}
section
variable [Globs] [Codes]
end
end Go.Sx
/- TERMS COMPARED,in plain words. -/
namespace Go.Sx
def ncmp (a b:Int):Int:=if a<b then -1 else if b<a then 1 else 0
def rkI (k:Int):Int:=if k=1 then 0 else if k=2 then 1 else if k=4 then 2 else if k=3 then 3 else if k=5 then 4 else if k=6 then 5 else 6+k
def fst0:List Int->Int
 | []=>0
 | x::r=>if x≠0 then x else fst0 r
mutual
def Tm.cmp:Tm->Tm->Int
 | .mk k n s l,b=>match b with
  | .mk k' n' s' l'=>fst0 [ncmp (rkI k) (rkI k'),if k=1 then ncmp n n' else 0,ncmp l.length l'.length,Lib.compareBytes s s',Tm.cmpL l l',ncmp n n']
def Tm.cmpL:List Tm->List Tm->Int
 | [],q=>match q with
  | []=>0
  | _::_=> -1
 | a::r,q=>match q with
  | []=>1
  | b::q=>if a.cmp b≠0 then a.cmp b else Tm.cmpL r q
end
mutual
def Tm.sz:Tm->Int->Int
 | .mk _ _ _ l,m=>1+Tm.szL l (m-1) 0
def Tm.szL:List Tm->Int->Int->Int
 | [],m,n=>n
 | a::r,m,n=>if n<=m then Tm.szL r m (n+a.sz (m-n)) else n
end
end Go.Sx
namespace Go.Sx
mutual
def Tm.few (N:Nat):Tm->Prop
 | .mk _ _ _ l=>l.length<=N/\Tm.fewL N l
def Tm.fewL (N:Nat):List Tm->Prop
 | []=>True
 | a::r=>a.few N/\Tm.fewL N r
end
end Go.Sx
/- Zlk laws on bytes and lists. -/
namespace Go.Sx
def Zm (p:UInt8->Bool) (s:List UInt8) (i:Nat):Nat:=i+((s.drop i).takeWhile p).length
theorem Z1X {p:UInt8->Bool} {s:List UInt8} {i:Nat} (h:i<s.length) (hp:p (s.getD i 0)=true):Zm p s i=Zm p s (i+1):=by
 unfold Zm
 rw[List.drop_eq_getElem_cons h,List.takeWhile_cons]
 rw[List.getD_eq_getElem?_getD,List.getElem?_eq_getElem h,Option.getD_some] at hp
 rw[if_pos hp,List.length_cons]
 omega
theorem Z3C {p:UInt8->Bool} {s:List UInt8} {i:Nat} (h:i<s.length) (hp:p (s.getD i 0)=false):Zm p s i=i:=by
 unfold Zm
 rw[List.drop_eq_getElem_cons h,List.takeWhile_cons]
 rw[List.getD_eq_getElem?_getD,List.getElem?_eq_getElem h,Option.getD_some] at hp
 rw[if_neg (by simp[hp])]
 simp
theorem Z4X {p:UInt8->Bool} {s:List UInt8} {i:Nat} (h:s.length<=i):Zm p s i=i:=by
 unfold Zm
 rw[List.drop_eq_nil_of_le h]; simp
theorem Z4k (p:UInt8->Bool) (s:List UInt8) (i:Nat):i<=Zm p s i:=by unfold Zm; omega
theorem Z2H {p:UInt8->Bool} {s:List UInt8} {i:Nat} (h:i<=s.length):Zm p s i<=s.length:=by
 unfold Zm
 have:=(List.takeWhile_sublist (l:=s.drop i) p).length_le
 rw[List.length_drop] at this
 omega
theorem Z86 (p:UInt8->Bool) (s:List UInt8) (i:Nat):(s.take (Zm p s i)).drop i=(s.drop i).takeWhile p:=by
 unfold Zm
 rw[List.drop_take,Nat.add_sub_cancel_left]
 exact (List.prefix_iff_eq_take.1 (List.takeWhile_prefix p)).symm
theorem Z6l (s:List UInt8) (i:Nat):0<=((s.getD i 0).toNat:Int)/\((s.getD i 0).toNat:Int)<256:=by
 have:=(s.getD i 0).toNat_lt
 omega
end Go.Sx
/- The lexer,plainly. -/
namespace Go.Sx.Lx
open Go.Sx
def Z1N (b:UInt8):Bool:=decide (97<=b.toNat) && decide (b.toNat<=122)
def Z65 (b:UInt8):Bool:=decide (65<=b.toNat) && decide (b.toNat<=90)
def Qn (b:UInt8):Bool:=decide (48<=b.toNat) && decide (b.toNat<=57)
def QG (b:UInt8):Bool:=Z1N b || Z65 b
def QN (b:UInt8):Bool:=b == 95
def ZT (b:UInt8):Bool:=QG b || Qn b || QN b
def ZL (b:UInt8):Bool:=b == 32 || b == 9 || b == 10 || b == 13
def Qo (b:UInt8):Bool:= !(b == 10)
def skp:Bool->List UInt8->Nat
 | _,[]=>0
 | false,b::r=>if ZL b then 1+skp false r else if b == 37 then 1+skp true r else 0
 | true,b::r=>if b == 10 then 1+skp false r else 1+skp true r
theorem Z0G: ∀ (c:Bool) (l:List UInt8),skp c l<=l.length
 | _,[]=>by simp[skp]
 | false,b::r=>by
  simp only[skp]
  have h1:=Z0G false r
  have h2:=Z0G true r
  repeat' split
  all_goals simp only[List.length_cons]; omega
 | true,b::r=>by
  simp only[skp]
  have h1:=Z0G false r
  have h2:=Z0G true r
  repeat' split
  all_goals simp only[List.length_cons]; omega
theorem Z4R: ∀ l:List UInt8,skp false l=(l.takeWhile ZL).length+skp false (l.drop (l.takeWhile ZL).length)
 | []=>rfl
 | b::r=>by
  cases hb:ZL b with
  | true =>
   rw[List.takeWhile_cons,if_pos hb]
   simp only[List.length_cons,List.drop_succ_cons]
   rw[show skp false (b::r)=1+skp false r by simp[skp,hb],Z4R r]
   omega
  | false=>rw[List.takeWhile_cons,if_neg (by simp[hb])]; simp
theorem Z6W: ∀ l:List UInt8,skp true l=(l.takeWhile Qo).length+skp false (l.drop (l.takeWhile Qo).length)
 | []=>rfl
 | b::r=>by
  cases hb:Qo b with
  | true =>
   rw[List.takeWhile_cons,if_pos hb]
   simp only[List.length_cons,List.drop_succ_cons]
   have h:(b == 10)=false:=by simpa [Qo] using hb
   rw[show skp true (b::r)=1+skp true r by simp[skp,h],Z6W r]
   omega
  | false =>
   rw[List.takeWhile_cons,if_neg (by simp[hb])]
   have h:b=10:=by simpa [Qo] using hb
   subst h
   simp[skp,ZL]
theorem Zez {l:List UInt8} (h:l.head? = some 37):skp false l=(l.takeWhile Qo).length+skp false (l.drop (l.takeWhile Qo).length):=by
 cases l with
 | nil=>cases h
 | cons b r =>
  simp only[List.head?_cons,Option.some.injEq] at h
  subst h
  rw[show skp false (37::r)=1+skp true r by simp[skp,ZL],List.takeWhile_cons,if_pos (by decide),Z6W r]
  simp only[List.length_cons,List.drop_succ_cons]
  omega
theorem ZbP {l:List UInt8} (h: ∀ b,l.head? = some b->ZL b=false/\b≠37):skp false l=0:=by
 cases l with
 | nil=>rfl
 | cons b r =>
  obtain⟨h1,h2⟩:=h b rfl
  simp[skp,h1,h2]
def ZY (s:List UInt8) (i:Nat):Nat:=i+skp false (s.drop i)
theorem Z3B {s:List UInt8} {i:Nat} (h:i<=s.length):ZY s i<=s.length:=by
 have:=Z0G false (s.drop i)
 rw[List.length_drop] at this
 unfold ZY; omega
theorem Z2c (s:List UInt8) (i:Nat):ZY s i=ZY s (Zm ZL s i):=by
 unfold ZY Zm
 rw[Z4R (s.drop i),List.drop_drop]
 omega
theorem Z7Q {s:List UInt8} {i:Nat} (h:i<s.length) (hb:s.getD i 0=37):ZY s i=ZY s (Zm Qo s i):=by
 unfold ZY Zm
 rw[List.getD_eq_getElem?_getD,List.getElem?_eq_getElem h,Option.getD_some] at hb
 rw[Zez (by rw[List.head?_drop,List.getElem?_eq_getElem h,hb]),List.drop_drop]
 omega
theorem Z9l {p:UInt8->Bool} {s:List UInt8} {i:Nat} (h:Zm p s i<s.length):p (s.getD (Zm p s i) 0)=false:=by
 suffices ∀ (l:List UInt8),(l.takeWhile p).length<l.length->p (l.getD (l.takeWhile p).length 0)=false by
  have h2:=this (s.drop i) (by unfold Zm at h; rw[List.length_drop]; omega)
  unfold Zm
  simpa [List.getD,List.getElem?_drop] using h2
 intro l
 induction l with
 | nil=>intro h; simp at h
 | cons b r ih =>
  intro h
  rw[List.takeWhile_cons] at h ⊢
  split
  ·rename_i hb
   rw[if_pos hb] at h
   simpa using ih (by simpa using h)
  ·rename_i hb; simpa using hb
theorem Z2F {s:List UInt8} {i:Nat} (h:Zm ZL s i=s.length\/s.getD (Zm ZL s i) 0≠37) (hi:i<=s.length):ZY s i=Zm ZL s i:=by
 rw[Z2c]
 have hl:=Z2H (p:=ZL) hi
 unfold ZY
 rw[ZbP]
 ·omega
 ·intro b hb
  rw[List.head?_drop] at hb
  obtain⟨hlt,hbe⟩:=List.getElem?_eq_some_iff.1 hb
  have hg:s.getD (Zm ZL s i) 0=b:=by rw[List.getD_eq_getElem?_getD,hb]; rfl
  refine⟨?_, ?_⟩
  ·have:=Z9l (p:=ZL) hlt
   rwa [hg] at this
  ·rcases h with h | h
   ·omega
   ·rwa [hg] at h
end Go.Sx.Lx
namespace Go.Sx.Lx
def Z1o (first:UInt8->Bool) (s:List UInt8):Bool:=match s.dropWhile QN with
 | []=>false
 | b::r=>first b && (b::r).all ZT && decide (s.length<=32)
def ZD:List UInt8:=[110,111,116]
def Qt (s:List UInt8):Bool:=Z1o Z1N s && decide (s≠ZD)
def QF (s:List UInt8):Bool:=Z1o Z65 s || (match s with
 | 95::r=>r.all Qn && decide (s.length<=32)
 | _=>false)
end Go.Sx.Lx
namespace Go.Sx
def strC (l:List (List UInt8)):List (List D):=l.map fun t=>[D.str t]
theorem Z6R {l:List (List UInt8)} {i:Nat} (h:i<l.length):(strC l)[i]? = some [D.str (l.getD i [])]:=by
 unfold strC
 rw[List.getElem?_map,List.getElem?_eq_getElem h]
 simp[List.getD,h]
theorem Z1B (l:List (List UInt8)):(strC l).length=l.length:=by simp[strC]
def idxS (t:List UInt8):List (List UInt8)->Int->Int
 | [],_=> -1
 | x::r,i=>if t=x then i else idxS t r (i+1)
theorem Z7k (t:List UInt8): ∀ (l:List (List UInt8)) (i:Int),0<=i->(0<=idxS t l i ↔ t∈l)
 | [],i,h=>by simp[idxS]
 | x::r,i,h=>by
  simp only[idxS,List.mem_cons]
  split
  ·rename_i e; simp[e,h]
  ·rename_i e; rw[Z7k t r (i+1) (by omega)]; simp[e]
theorem Z14 {α:Type} {l:List α} {d:α} {i:Nat} (h:i<l.length):l.drop i=l.getD i d::l.drop (i+1):=by
 rw[List.drop_eq_getElem_cons h]; simp[List.getD,h]
end Go.Sx
namespace Go.Sx.Lx
def Z2k:List (List UInt8):=[[58,45],[58,126],[58],[46,46],[46],[44],[59],[124],[40],[41],[123],[125],[91],[93],[61],[33,61],[60,61],[62,61],[60],[62],[43],[45],[42],[47],[92],[64]]
def Q2 (s:List UInt8):List UInt8:=(Z2k.find? (·.isPrefixOf s)).getD []
end Go.Sx.Lx
namespace Go.Sx.Lx
def Z0n (s:List UInt8):Int × Int:=if s=ZD then (4,0) else if Qt s=true then (1,0) else if QF s=true then (2,0) else (0,31)
def ZhI:List (List UInt8):=[[35,99,111,110,115,116],[35,115,104,111,119],[35,109,105,110,105,109,105,122,101],[35,99,111,117,110,116],[35,115,117,109]]
def Z9T (s:List UInt8):Int:=match Lib.atoiAll s with
 | .ok n=>if 2147483647<n then 32 else if Lib.itoa n=s then 0 else 32
 | _=>32
def tok (s:List UInt8):Int × List UInt8 × Int:=match s with
 | []=>(0,[],0)
 | b::r =>
  if QG b || QN b then ((Z0n (s.takeWhile ZT)).1,s.takeWhile ZT,(Z0n (s.takeWhile ZT)).2)
  else if Qn b then (3,s.takeWhile Qn,Z9T (s.takeWhile Qn))
  else if b == 35 then (5,35::r.takeWhile QG,if 35::r.takeWhile QG∈ZhI then 0 else 31)
  else (6,Q2 s,if Q2 s=[] then 30 else 0)
end Go.Sx.Lx
namespace Go.Sx.Lx
abbrev Tk:=Int × List UInt8 × Int
def Zq (t:Tk):List D:=[.int .u8 t.1,.str t.2.1,.int .i64 t.2.2]
theorem Z1A {p:UInt8->Bool} {b:UInt8} {r:List UInt8} (h:p b=true):0<((b::r).takeWhile p).length:=by
 rw[List.takeWhile_cons,if_pos h]; simp
theorem Z04 {l:List UInt8} (hl:l≠[]) (h:(tok l).2.2=0):0<(tok l).2.1.length:=by
 cases l with
 | nil=>exact absurd rfl hl
 | cons b r =>
  unfold tok at h ⊢
  simp only at h ⊢
  split
  ·rename_i hb; exact Z1A (by simp only[ZT]; simp only[Bool.or_eq_true] at hb ⊢; rcases hb with h | h <;> simp[h])
  split
  ·rename_i hb; exact Z1A hb
  split
  ·simp
  ·rename_i h1 h2 h3
   rw[if_neg h1,if_neg h2,if_neg h3] at h
   simp only at h
   by_cases hs:Q2 (b::r)=[]
   ·rw[if_pos hs] at h; cases h
   ·exact List.length_pos_iff.2 hs
theorem Z2B (l:List UInt8):(tok l).2.1.length<=l.length:=by
 cases l with
 | nil=>simp[tok]
 | cons b r =>
  unfold tok
  simp only
  split
  ·exact (List.takeWhile_sublist _).length_le
  split
  ·exact (List.takeWhile_sublist _).length_le
  split
  ·simpa using (List.takeWhile_sublist (l:=r) QG).length_le
  ·simp only[Q2]
   cases hf:Z2k.find? (·.isPrefixOf (b::r)) with
   | none=>simp
   | some s =>
    have:=List.find?_some hf
    exact (List.isPrefixOf_iff_prefix.1 this).length_le
def Z1p:Nat->Nat->List UInt8->List Tk × Option (Nat × Int) × Nat
 | 0,o,_=>([],none,o)
 | _+1,o,[]=>([],none,o)
 | f+1,o,b::r =>
  if (tok (b::r)).2.2=0 then
   let n:=(tok (b::r)).2.1.length
   let k:=skp false ((b::r).drop n)
   let q:=Z1p f (o+n+k) ((b::r).drop (n+k))
   (((tok (b::r)).1,(tok (b::r)).2.1,(o:Int))::q.1,q.2)
  else ([],some (o,(tok (b::r)).2.2),o+(tok (b::r)).2.1.length)
def ZJ (s:List UInt8):List Tk × Int × Int :=
 if 32768<s.length then ([],0,3) else
 match Z1p (s.length+1) (skp false s) (s.drop (skp false s)) with
 | (_,some (a,e),_)=>([],a,e)
 | (l,none,_)=>(l,0,0)
end Go.Sx.Lx
namespace Go.Sx.Lx
end Go.Sx.Lx
namespace Go.Sx.Lx
def ZkY (n m:Int):Int:=if n.tmod m<0 then n.tmod m+m else n.tmod m
end Go.Sx.Lx
/- All subterms of a term. -/
namespace Go.Sx
mutual
def Tm.all (h:Tm->Bool):Tm->Bool
 | .mk k n s l=>h (.mk k n s l) && Tm.allL h l
def Tm.allL (h:Tm->Bool):List Tm->Bool
 | []=>true
 | a::r=>a.all h && Tm.allL h r
end
mutual
def Tm.depth:Tm->Nat
 | .mk _ _ _ l=>Tm.depthL l+1
def Tm.depthL:List Tm->Nat
 | []=>0
 | a::r=>Nat.max a.depth (Tm.depthL r)
end
end Go.Sx
namespace Go.Sx
def Z1k (k n:Int) (s:List UInt8) (len:Nat):Bool :=
 if k=1 then decide (-2147483647<=n) && decide (n<=2147483647) && decide (s=[]) && decide (len=0)
 else if k=2 then decide (n=0) && Lx.Qt s && decide (len=0)
 else if k=3 then decide (n=0) && Lx.QF s && decide (len=0)
 else if k=4 then decide (n=0) && Lx.Qt s && decide (1<=len) && decide (len<=8)
 else if k=5 then decide (n=0) && (decide (s=[43]) || decide (s=[45]) || decide (s=[42]) || decide (s=[47]) || decide (s=[92])) && (decide (len=2) || decide (s=[45]) && decide (len=1))
 else if k=6 then decide (n=0) && decide (s=[]) && decide (len=2)
 else false
def Tm.shape:Tm->Bool
 | .mk k n s l=>Z1k k n s l.length
def Tm.valid (t:Tm):Bool:=decide (t.depth<=12) && t.all Tm.shape
end Go.Sx
/- Laws of the lexer. -/
namespace Go.Sx.Lx
open Go.Sx
def Zcl (c:UInt8):Bool:=ZL c || c == 37
theorem ZeF:(List.range 256).all (fun n=> !(Zcl (UInt8.ofNat n)) || (!(ZT (UInt8.ofNat n)) && !(Qn (UInt8.ofNat n)) && !(QG (UInt8.ofNat n)) && Z2k.all fun s=> !(s.contains (UInt8.ofNat n))))=true:=by decide +kernel
theorem Z6X {c:UInt8} (h:Zcl c=true):ZT c=false/\Qn c=false/\QG c=false/\ ∀ s∈Z2k,c ∉ s:=by
 have:=List.all_eq_true.1 ZeF c.toNat (List.mem_range.2 c.toNat_lt)
 simp only[UInt8.ofNat_toNat,h,Bool.not_true,Bool.false_or,Bool.and_eq_true,Bool.not_eq_true',List.all_eq_true] at this
 refine⟨this.1.1.1,this.1.1.2,this.1.2,fun s hs hm=> ?_⟩
 have h1:=this.2 s hs
 rw[List.contains_iff_mem.2 hm] at h1
 cases h1
theorem QU {p:UInt8->Bool} {c:UInt8} (h:p c=false) (r:List UInt8): ∀ l:List UInt8,(l++c::r).takeWhile p=l.takeWhile p
 | []=>by simp[List.takeWhile_cons,h]
 | b::l=>by
  simp only[List.cons_append,List.takeWhile_cons]
  split
  ·rw[QU h r l]
  ·rfl
theorem Z3G {c:UInt8} (r:List UInt8): ∀ (s l:List UInt8),c ∉ s->s.isPrefixOf (l++c::r)=s.isPrefixOf l
 | [],l,_=>by cases l <;> rfl
 | x::s,[],h=>by
  have:(x == c)=false:=by
   cases hx:x == c with
   | false=>rfl
   | true=>rw[eq_of_beq hx] at h; simp at h
  simp[List.isPrefixOf,this]
 | x::s,b::l,h=>by
  simp only[List.cons_append,List.isPrefixOf]
  rw[Z3G r s l (fun hm=>h (List.mem_cons_of_mem _ hm))]
theorem Z3K {α:Type} {p q:α->Bool}: ∀ {l:List α},(∀ x∈l,p x=q x)->l.find? p=l.find? q
 | [],_=>rfl
 | x::l,h=>by
  rw[List.find?_cons,List.find?_cons,h x (List.mem_cons_self ..),Z3K fun y hy=>h y (List.mem_cons_of_mem _ hy)]
theorem Z7S {c:UInt8} (hc:Zcl c=true) (l r:List UInt8):Q2 (l++c::r)=Q2 l:=by
 unfold Q2
 rw[Z3K fun s hs=>Z3G r s l ((Z6X hc).2.2.2 s hs)]
theorem Zeq {c:UInt8} (hc:Zcl c=true) {l:List UInt8} (hl:l≠[]) (r:List UInt8):tok (l++c::r)=tok l:=by
 obtain⟨h1,h2,h3,_⟩:=Z6X hc
 cases l with
 | nil=>exact absurd rfl hl
 | cons b l =>
  have e1:(b::l++c::r).takeWhile ZT=(b::l).takeWhile ZT:=QU h1 r (b::l)
  have e2:(b::l++c::r).takeWhile Qn=(b::l).takeWhile Qn:=QU h2 r (b::l)
  have e3:(l++c::r).takeWhile QG=l.takeWhile QG:=QU h3 r l
  have e4:Q2 (b::l++c::r)=Q2 (b::l):=Z7S hc (b::l) r
  simp only[List.cons_append] at e1 e2 e3 e4
  simp only[tok,List.cons_append,e1,e2,e3,e4]
theorem Z2E (b:List UInt8): ∀ (c:Bool) (l:List UInt8),skp c (l++10::b)=if skp c l=l.length then l.length+1+skp false b else skp c l
 | false,[]=>by simp[skp,ZL]
 | true,[]=>by simp[skp]
 | false,x::l=>by
  simp only[List.cons_append,skp]
  have h1:=Z2E b false l
  have h2:=Z2E b true l
  split
  ·rw[h1]; split
   ·rename_i h; rw[if_pos (by rw[List.length_cons]; omega),List.length_cons]; omega
   ·rename_i h; rw[if_neg (by rw[List.length_cons]; omega)]
  split
  ·rw[h2]; split
   ·rename_i h; rw[if_pos (by rw[List.length_cons]; omega),List.length_cons]; omega
   ·rename_i h; rw[if_neg (by rw[List.length_cons]; omega)]
  ·rw[if_neg (by simp)]
 | true,x::l=>by
  simp only[List.cons_append,skp]
  have h1:=Z2E b false l
  have h2:=Z2E b true l
  split
  ·rw[h1]; split
   ·rename_i h; rw[if_pos (by rw[List.length_cons]; omega),List.length_cons]; omega
   ·rename_i h; rw[if_neg (by rw[List.length_cons]; omega)]
  ·rw[h2]; split
   ·rename_i h; rw[if_pos (by rw[List.length_cons]; omega),List.length_cons]; omega
   ·rename_i h; rw[if_neg (by rw[List.length_cons]; omega)]
theorem Z3x: ∀ (f g o:Nat) (l:List UInt8),l.length<f->l.length<g->Z1p f o l=Z1p g o l:=by
 intro f
 induction f with
 | zero=>intro g o l h; omega
 | succ f ih =>
  intro g o l hf hg
  cases g with
  | zero=>omega
  | succ g =>
   cases l with
   | nil=>rfl
   | cons b r =>
    simp only[Z1p]
    split
    ·rename_i he
     have hp:=Z04 (l:=b::r) (by simp) he
     have hl:((b::r).drop ((tok (b::r)).2.1.length+skp false ((b::r).drop (tok (b::r)).2.1.length))).length<r.length+1:=by
      rw[List.length_drop,List.length_cons]; omega
     rw[List.length_cons] at hf hg
     rw[ih g _ _ (by omega) (by omega)]
    ·rfl
def run (o:Nat) (l:List UInt8):List Tk × Option (Nat × Int) × Nat:=Z1p (l.length+1) (o+skp false l) (l.drop (skp false l))
theorem Z0T {o:Nat} {l:List UInt8} (h:skp false l=l.length):run o l=([],none,o+l.length):=by
 unfold run
 rw[h,List.drop_length]; rfl
theorem Z1H {o:Nat} {l:List UInt8} (h:skp false l≠l.length):run o l =
  if (tok (l.drop (skp false l))).2.2=0 then
   (((tok (l.drop (skp false l))).1,(tok (l.drop (skp false l))).2.1,((o+skp false l:Nat):Int))::(run (o+skp false l+(tok (l.drop (skp false l))).2.1.length) (l.drop (skp false l+(tok (l.drop (skp false l))).2.1.length))).1,
    (run (o+skp false l+(tok (l.drop (skp false l))).2.1.length) (l.drop (skp false l+(tok (l.drop (skp false l))).2.1.length))).2)
  else ([],some (o+skp false l,(tok (l.drop (skp false l))).2.2),o+skp false l+(tok (l.drop (skp false l))).2.1.length):=by
 have hk:=Z0G false l
 have hne:l.drop (skp false l)≠[]:=fun he=>by
  have:=congrArg List.length he
  rw[List.length_drop,List.length_nil] at this
  omega
 unfold run
 generalize hd:l.drop (skp false l)=d at hne ⊢
 have hdl:d.length<=l.length:=by rw[<- hd,List.length_drop]; omega
 cases d with
 | nil=>exact absurd rfl hne
 | cons b r =>
  have hl:0<l.length:=by rw[List.length_cons] at hdl; omega
  rw[List.length_cons] at hdl
  cases hlen:l.length with
  | zero=>omega
  | succ m =>
   simp only[Z1p]
   split
   ·rename_i he
    have hp:=Z04 (l:=b::r) (by simp) he
    have e:l.drop (skp false l+(tok (b::r)).2.1.length)=(b::r).drop (tok (b::r)).2.1.length:=by rw[<- hd,List.drop_drop]
    rw[e,List.drop_drop]
    have hl2:((b::r).drop ((tok (b::r)).2.1.length+skp false ((b::r).drop (tok (b::r)).2.1.length))).length<r.length+1:=by
     rw[List.length_drop,List.length_cons]; omega
    have hl3:((b::r).drop ((tok (b::r)).2.1.length+skp false ((b::r).drop (tok (b::r)).2.1.length))).length<((b::r).drop (tok (b::r)).2.1.length).length+1:=by
     simp only[List.length_drop]; omega
    rw[Z3x (m+1) (((b::r).drop (tok (b::r)).2.1.length).length+1) _ _ (by omega) hl3]
   ·rfl
theorem Z7t {l r:List UInt8} {n:Nat} (h:n<=l.length):(l++r).drop n=l.drop n++r:=by
 rw[List.drop_append,show n-l.length=0 by omega,List.drop_zero]
theorem Z9j (b:List UInt8): ∀ (m:Nat) (l:List UInt8) (o:Nat),l.length<m->run o (l++10::b) =
  match run o l with
  | (ts,some e,p)=>(ts,some e,p)
  | (ts,none,_)=>(ts++(run (o+l.length+1) b).1,(run (o+l.length+1) b).2):=by
 intro m
 induction m with
 | zero=>intro l o h; omega
 | succ m ih =>
  intro l o hm
  have hk:=Z0G false l
  have hs:=Z2E b false l
  by_cases h:skp false l=l.length
  ·rw[Z0T h]
   rw[if_pos h] at hs
   simp only[List.nil_append]
   unfold run
   rw[hs]
   have e:(l++10::b).drop (l.length+1+skp false b)=b.drop (skp false b):=by
    rw[List.drop_append,List.drop_eq_nil_of_le (by omega),List.nil_append,show l.length+1+skp false b-l.length=skp false b+1 by omega,List.drop_succ_cons]
   have hlb:(b.drop (skp false b)).length<=b.length:=by rw[List.length_drop]; omega
   rw[e,Z3x ((l++10::b).length+1) (b.length+1) _ _ (by rw[List.length_append,List.length_cons]; omega) (by omega)]
   rw[show o+(l.length+1+skp false b)=o+l.length+1+skp false b by omega]
  ·rw[if_neg h] at hs
   have h':skp false (l++10::b)≠(l++10::b).length:=by rw[hs,List.length_append,List.length_cons]; omega
   have hd:(l++10::b).drop (skp false (l++10::b))=l.drop (skp false l)++10::b:=by rw[hs]; exact Z7t hk
   have hne:l.drop (skp false l)≠[]:=fun he=>by
    have:=congrArg List.length he
    rw[List.length_drop,List.length_nil] at this
    omega
   rw[Z1H h',Z1H h,hd,Zeq (by decide) hne b,hs]
   have htl:=Z2B (l.drop (skp false l))
   rw[List.length_drop] at htl
   have e2:(l++10::b).drop (skp false l+(tok (l.drop (skp false l))).2.1.length)=l.drop (skp false l+(tok (l.drop (skp false l))).2.1.length)++10::b:=Z7t (by omega)
   rw[e2]
   by_cases he:(tok (l.drop (skp false l))).2.2=0
   ·rw[if_pos he,if_pos he]
    have hp:=Z04 hne he
    rw[ih (l.drop (skp false l+(tok (l.drop (skp false l))).2.1.length)) _ (by rw[List.length_drop]; omega)]
    have el:o+skp false l+(tok (l.drop (skp false l))).2.1.length+(l.drop (skp false l+(tok (l.drop (skp false l))).2.1.length)).length+1=o+l.length+1:=by
     rw[List.length_drop]; omega
    rw[el]
    rcases run (o+skp false l+(tok (l.drop (skp false l))).2.1.length) (l.drop (skp false l+(tok (l.drop (skp false l))).2.1.length)) with ⟨ts,_ | e,p⟩ <;> rfl
   ·rw[if_neg he,if_neg he]
def shift (d:Nat) (r:List Tk × Option (Nat × Int) × Nat):List Tk × Option (Nat × Int) × Nat:=(r.1.map fun t=>(t.1,t.2.1,t.2.2+d),r.2.1.map fun e=>(e.1+d,e.2),r.2.2+d)
theorem Z9k (d:Nat): ∀ (m:Nat) (l:List UInt8) (o:Nat),l.length<m->run (o+d) l=shift d (run o l):=by
 intro m
 induction m with
 | zero=>intro l o h; omega
 | succ m ih =>
  intro l o hm
  have hk:=Z0G false l
  by_cases h:skp false l=l.length
  ·rw[Z0T h,Z0T h]
   simp only[shift,List.map_nil,Option.map_none]
   rw[show o+d+l.length=o+l.length+d by omega]
  ·have hne:l.drop (skp false l)≠[]:=fun he=>by
    have:=congrArg List.length he
    rw[List.length_drop,List.length_nil] at this
    omega
   rw[Z1H h,Z1H h]
   by_cases he:(tok (l.drop (skp false l))).2.2=0
   ·rw[if_pos he,if_pos he]
    have hp:=Z04 hne he
    rw[show o+d+skp false l+(tok (l.drop (skp false l))).2.1.length=o+skp false l+(tok (l.drop (skp false l))).2.1.length+d by omega]
    rw[ih _ _ (by rw[List.length_drop]; omega)]
    simp only[shift,List.map_cons]
    rw[show ((o+d+skp false l:Nat):Int)=((o+skp false l:Nat):Int)+d by omega]
   ·rw[if_neg he,if_neg he]
    simp only[shift,List.map_nil,Option.map_some]
    rw[show o+d+skp false l=o+skp false l+d by omega,show o+skp false l+d+(tok (l.drop (skp false l))).2.1.length=o+skp false l+(tok (l.drop (skp false l))).2.1.length+d by omega]
def ans (r:List Tk × Option (Nat × Int) × Nat):List Tk × Int × Int:=match r with
 | (_,some (a,e),_)=>([],a,e)
 | (l,none,_)=>(l,0,0)
theorem Z2X (s:List UInt8):ZJ s=if 32768<s.length then ([],0,3) else ans (run 0 s):=by
 unfold ZJ run ans
 rw[Nat.zero_add]
 all_goals rfl
theorem Z4j: ∀ (m:Nat) (l:List UInt8) (o:Nat),l.length<m-> ∀ a e,(run o l).2.1=some (a,e)->e≠0/\o<=a/\a<o+l.length/\(e=30\/e=31\/e=32):=by
 intro m
 induction m with
 | zero=>intro l o h; omega
 | succ m ih =>
  intro l o hm a e hr
  have hk:=Z0G false l
  by_cases h:skp false l=l.length
  ·rw[Z0T h] at hr; cases hr
  ·have hne:l.drop (skp false l)≠[]:=fun he=>by
    have:=congrArg List.length he
    rw[List.length_drop,List.length_nil] at this
    omega
   rw[Z1H h] at hr
   by_cases he:(tok (l.drop (skp false l))).2.2=0
   ·rw[if_pos he] at hr
    have hp:=Z04 hne he
    have htl:=Z2B (l.drop (skp false l))
    rw[List.length_drop] at htl
    obtain⟨h1,h2,h3,h4⟩:=ih _ _ (by rw[List.length_drop]; omega) a e hr
    rw[List.length_drop] at h3
    exact⟨h1,by omega,by omega,h4⟩
   ·rw[if_neg he] at hr
    simp only[Option.some.injEq,Prod.mk.injEq] at hr
    obtain⟨rfl,rfl⟩:=hr
    refine⟨he,by omega,by omega, ?_⟩
    generalize l.drop (skp false l)=x at he ⊢
    unfold tok at he ⊢
    cases x with
    | nil=>simp at he
    | cons b r =>
     simp only at he ⊢
     split at he
     ·rename_i h1
      rw[if_pos h1]
      simp only[Z0n] at he ⊢
      repeat' split at he
      all_goals first | (exact absurd rfl he) | skip
      rename_i g1 g2 g3
      rw[if_neg g1,if_neg g2,if_neg g3]; simp
     ·rename_i h1
      rw[if_neg h1]
      split at he
      ·rename_i h2
       rw[if_pos h2]
       simp only[Z9T] at he ⊢
       split at he
       ·rename_i n hn
        repeat' split at he
        all_goals first | (exact absurd rfl he) | skip
        all_goals simp_all
       ·rename_i hn
        simp_all
      ·rename_i h2
       rw[if_neg h2]
       split at he
       ·rename_i h3
        rw[if_pos h3]
        simp only at he ⊢
        split at he
        ·exact absurd rfl he
        ·rename_i h4; rw[if_neg h4]; simp
       ·rename_i h3
        rw[if_neg h3]
        simp only at he ⊢
        split at he
        ·rename_i h4; rw[if_pos h4]; simp
        ·exact absurd rfl he
end Go.Sx.Lx
namespace Go.Sx.Lx
theorem Z4i: ∀ (m:Nat) (l:List UInt8) (o:Nat),l.length<m->(run o l).1.length<=l.length/\ ∀ t∈(run o l).1,(o:Int)<=t.2.2/\t.2.2+t.2.1.length<=o+l.length:=by
 intro m
 induction m with
 | zero=>intro l o h; omega
 | succ m ih =>
  intro l o hm
  have hk:=Z0G false l
  by_cases h:skp false l=l.length
  ·rw[Z0T h]; exact⟨by simp,fun t ht=>by cases ht⟩
  ·have hne:l.drop (skp false l)≠[]:=fun he=>by
    have:=congrArg List.length he
    rw[List.length_drop,List.length_nil] at this
    omega
   rw[Z1H h]
   by_cases he:(tok (l.drop (skp false l))).2.2=0
   ·rw[if_pos he]
    have hp:=Z04 hne he
    have htl:=Z2B (l.drop (skp false l))
    rw[List.length_drop] at htl
    obtain⟨h1,h2⟩:=ih (l.drop (skp false l+(tok (l.drop (skp false l))).2.1.length)) (o+skp false l+(tok (l.drop (skp false l))).2.1.length) (by rw[List.length_drop]; omega)
    rw[List.length_drop] at h1 h2
    refine⟨by simp only[List.length_cons]; omega,fun t ht=> ?_⟩
    rcases List.mem_cons.1 ht with rfl | ht
    ·simp only; omega
    ·have:=h2 t ht; omega
   ·rw[if_neg he]; exact⟨by simp,fun t ht=>by cases ht⟩
end Go.Sx.Lx
namespace Go.Sx.Lx
theorem Z0h (p:UInt8->Bool) (l:List UInt8):(l.takeWhile p).takeWhile p=l.takeWhile p:=by
 induction l with
 | nil=>rfl
 | cons b r ih =>
  rw[List.takeWhile_cons]
  split
  ·rename_i h; rw[List.takeWhile_cons,if_pos h,ih]
  ·rfl
theorem Z98: ∀ s∈Z2k,Q2 s=s:=by decide +kernel
theorem Z7R: ∀ s∈Z2k, ∀ b∈s.head?,QG b=false/\QN b=false/\Qn b=false/\(b == 35)=false:=by decide +kernel
theorem Z7T {l:List UInt8} (h:Q2 l≠[]):Q2 l∈Z2k:=by
 unfold Q2 at h ⊢
 cases hf:Z2k.find? (·.isPrefixOf l) with
 | none=>rw[hf] at h; exact absurd rfl h
 | some s=>exact List.mem_of_find?_eq_some hf
theorem ZbL {l:List UInt8} (hl:l≠[]) (h:(tok l).2.2=0):tok (tok l).2.1=tok l:=by
 cases l with
 | nil=>exact absurd rfl hl
 | cons b r =>
  by_cases h1:(QG b || QN b)=true
  ·have e:tok (b::r)=((Z0n ((b::r).takeWhile ZT)).1,(b::r).takeWhile ZT,(Z0n ((b::r).takeWhile ZT)).2):=by simp only[tok,h1,if_true]
   have hb:ZT b=true:=by simp only[ZT]; simp only[Bool.or_eq_true] at h1 ⊢; rcases h1 with h | h <;> simp[h]
   have e2:(b::r).takeWhile ZT=b::r.takeWhile ZT:=by rw[List.takeWhile_cons,if_pos hb]
   rw[e]
   simp only
   rw[e2]
   simp only[tok,h1,if_true]
   have e3:(b::r.takeWhile ZT).takeWhile ZT=b::r.takeWhile ZT:=by rw[List.takeWhile_cons,if_pos hb,Z0h]
   rw[e3]
  ·by_cases h2:Qn b=true
   ·have e:tok (b::r)=(3,(b::r).takeWhile Qn,Z9T ((b::r).takeWhile Qn)):=by simp only[tok,h1,h2,if_true,if_false]; simp
    have e2:(b::r).takeWhile Qn=b::r.takeWhile Qn:=by rw[List.takeWhile_cons,if_pos h2]
    have e3:(b::r.takeWhile Qn).takeWhile Qn=b::r.takeWhile Qn:=by rw[List.takeWhile_cons,if_pos h2,Z0h]
    rw[e]
    simp only
    rw[e2]
    simp only[tok,h1,h2,if_true,e3]; simp
   ·by_cases h3:(b == 35)=true
    ·have e:tok (b::r)=(5,35::r.takeWhile QG,if 35::r.takeWhile QG∈ZhI then 0 else 31):=by simp only[tok,h1,h2,h3,if_true]; simp
     have hb:b=35:=eq_of_beq h3
     subst hb
     rw[e]
     have e4:tok (35::r.takeWhile QG)=(5,35::(r.takeWhile QG).takeWhile QG,if 35::(r.takeWhile QG).takeWhile QG∈ZhI then 0 else 31):=by simp only[tok,h1,h2,h3,if_true]; simp
     rw[e4,Z0h]
    ·have e:tok (b::r)=(6,Q2 (b::r),if Q2 (b::r)=[] then 30 else 0):=by simp only[tok,h1,h2,h3]; simp
     rw[e] at h ⊢
     simp only at h ⊢
     by_cases hs:Q2 (b::r)=[]
     ·rw[if_pos hs] at h; cases h
     ·have hm:=Z7T hs
      have hself:=Z98 _ hm
      have hf:=Z7R _ hm
      generalize Q2 (b::r)=s at hs hm hself hf ⊢
      cases s with
      | nil=>exact absurd rfl hs
      | cons x s =>
       obtain⟨g1,g2,g3,g4⟩:=hf x rfl
       simp only[tok,g1,g2,g3,g4,Bool.or_self,Bool.false_eq_true,if_false,hself]
def Val (t:Tk):Prop:=t.2.1≠[]/\tok t.2.1=(t.1,t.2.1,0)
theorem ZhM {l:List UInt8} (hl:l≠[]) (h:(tok l).2.2=0) (a:Int):Val ((tok l).1,(tok l).2.1,a):=by
 have hp:=Z04 hl h
 refine⟨fun he=>by rw[he] at hp; simp at hp, ?_⟩
 rw[ZbL hl h]
 exact Prod.ext rfl (Prod.ext rfl h)
theorem Z9i: ∀ (m:Nat) (l:List UInt8) (o:Nat),l.length<m-> ∀ t∈(run o l).1,Val t:=by
 intro m
 induction m with
 | zero=>intro l o h; omega
 | succ m ih =>
  intro l o hm
  have hk:=Z0G false l
  by_cases h:skp false l=l.length
  ·rw[Z0T h]; intro t ht; cases ht
  ·have hne:l.drop (skp false l)≠[]:=fun he=>by
    have:=congrArg List.length he
    rw[List.length_drop,List.length_nil] at this
    omega
   rw[Z1H h]
   by_cases he:(tok (l.drop (skp false l))).2.2=0
   ·rw[if_pos he]
    have hp:=Z04 hne he
    intro t ht
    rcases List.mem_cons.1 ht with rfl | ht
    ·exact ZhM hne he _
    ·exact ih (l.drop (skp false l+(tok (l.drop (skp false l))).2.1.length)) _ (by rw[List.length_drop]; omega) t ht
   ·rw[if_neg he]; intro t ht; cases ht
theorem ZbJ (l:List UInt8):l.take (tok l).2.1.length=(tok l).2.1:=by
 cases l with
 | nil=>simp[tok]
 | cons b r =>
  have tw: ∀ (p:UInt8->Bool) (l:List UInt8),l.take (l.takeWhile p).length=l.takeWhile p:=fun p l=>(List.prefix_iff_eq_take.1 (List.takeWhile_prefix p)).symm
  unfold tok
  simp only
  split
  ·exact tw _ _
  split
  ·exact tw _ _
  split
  ·rename_i h; rw[eq_of_beq h]; simp[tw]
  ·simp only[Q2]
   cases hf:Z2k.find? (·.isPrefixOf (b::r)) with
   | none=>simp
   | some s =>
    have:=List.find?_some hf
    exact (List.prefix_iff_eq_take.1 (List.isPrefixOf_iff_prefix.1 this)).symm
end Go.Sx.Lx
namespace Go.Sx.Lx
end Go.Sx.Lx
namespace Go.Sx.Lx
def Zld:List (List UInt8):=[[32],[10],[9,32],[37,10],[32,37,32,97,46,32,35,120,10],[13,10]]
def ZkZ (g:Int):Int:=ZkY g 6
def ZdW (g:Int):List UInt8:=Zld.getD (ZkZ g).toNat []
def gapF (gs:List Int) (i:Nat):Int:=if i<gs.length then gs.getD i 0 else i
def finB (gs:List Int):Nat->List Tk->List UInt8->List Int->List UInt8 × List Int
 | _,[],s,o=>(s,o)
 | i,t::r,s,o=>finB gs (i+1) r (s++ZdW (gapF gs i)++t.2.1) (o++[((s++ZdW (gapF gs i)).length:Int)])
end Go.Sx.Lx
