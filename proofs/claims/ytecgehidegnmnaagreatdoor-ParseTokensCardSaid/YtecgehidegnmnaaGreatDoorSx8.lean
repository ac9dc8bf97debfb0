/- Own work: a layer over the kit: plain data,a walk over it,its soundness. -/
import Derived.Lib.Bytealg
import Derived.Lib.AtoiAll
import Derived.Lib.ItoaNum
import Derived.Lib.Join
import Derived.Test.YtecgehidegnmnaaGreatDoorSx7
set_option linter.unusedSectionVars false
set_option linter.unusedVariables false
set_option linter.unusedSimpArgs false
set_option linter.deprecated false
namespace Go.Sx
open Go.RowKit
variable [Globs] [Codes]
/- AN OPERATION COMES TO ONE END. -/
section
variable {P:Program} {dst:Nat} {obs:Nat->Option Ob} {K:D->Option Ob->Prop}
theorem Z91 {op:BinOp} {k:IntKind} {a b:Int} {K:D->Prop} (h:binI op k a b K): ∃ d,K d/\ ∀ K':D->Prop,K' d->binI op k a b K':=by
 cases op <;> simp only[binI] at h <;> first | exact h.elim | exact⟨_,h,fun K' hk=>hk⟩ | exact⟨_,h.2,fun K' hk=>⟨h.1,hk⟩⟩
theorem Z8Z {op:BinOp} {a b:List UInt8} {K:D->Prop} (h:binS op a b K): ∃ d,K d/\ ∀ K':D->Prop,K' d->binS op a b K':=by
 cases op <;> simp only[binS] at h <;> first | exact h.elim | exact⟨_,h,fun K' hk=>hk⟩ | exact⟨_,h.2,fun K' hk=>⟨h.1,hk⟩⟩
theorem ZaQ {d:D} (h:evl P dst .b2s [d] obs K): ∃ d' nb,K d' nb/\ ∀ K':D->Option Ob->Prop,K' d' nb->evl P dst .b2s [d] obs K':=by
 simp only[evl] at h ⊢
 cases hq:Z0M obs d with
 | none=>rw[hq] at h; exact h.elim
 | some es=>rw[hq] at h; exact⟨_,_,h.2,fun K' hk=>⟨h.1,hk⟩⟩
theorem Z9J {agg:Bool} {sz id i j sz':Nat} (h:evl P dst (.load agg sz) [.vptr id i j sz'] obs K): ∃ d' nb,K d' nb/\ ∀ K':D->Option Ob->Prop,K' d' nb->evl P dst (.load agg sz) [.vptr id i j sz'] obs K':=by
 simp only[evl] at h ⊢
 cases hq:obs id with
 | none=>rw[hq] at h; exact h.elim
 | some o =>
  rw[hq] at h
  cases o with
  | cells _=>exact h.elim
  | gen _ _=>exact h.elim
  | arr fz sz2 e es =>
   cases fz with
   | true=>exact h.elim
   | false =>
    simp only at h ⊢
    have h2:=h.2.2
    cases hi:es[i]? with
    | none=>rw[hi] at h2; exact h2.elim
    | some cs =>
     rw[hi] at h2
     cases agg with
     | true=>exact⟨_,_,h2,fun K' hk=>⟨h.1,h.2.1,hk⟩⟩
     | false =>
      simp only[Bool.false_eq_true,if_false] at h2 ⊢
      cases hj:cs[j]? with
      | none=>rw[hj] at h2; exact h2.elim
      | some d=>rw[hj] at h2; exact⟨_,_,h2,fun K' hk=>⟨h.1,h.2.1,hk⟩⟩
theorem Z6t {kd:Option IntKind} {z key:D} {id:Nat} (h:evl P dst (.mlook kd z) [.map id,key] obs K): ∃ d' nb,K d' nb/\ ∀ K':D->Option Ob->Prop,K' d' nb->evl P dst (.mlook kd z) [.map id,key] obs K':=by
 simp only[evl] at h ⊢
 cases hq:obs id with
 | none=>rw[hq] at h; exact h.elim
 | some o =>
  rw[hq] at h
  cases o with
  | cells _=>exact h.elim
  | arr _ _ _ _=>exact h.elim
  | gen g ds =>
   cases g with
   | loop=>exact h.elim
   | mapC=>exact h.elim
   | mapB=>exact h.elim
   | mapS=>exact h.elim
   | iter=>exact h.elim
   | map ks =>
    simp only at h ⊢
    cases hf:Z17 key ks ds with
    | none=>rw[hf] at h; exact h.2.elim
    | some r=>rw[hf] at h; exact⟨_,_,h.2,fun K' hk=>⟨h.1,hk⟩⟩
theorem Z5H {op:AOp} {xs:List D} (h:evl P dst op xs obs K): ∃ d nb,K d nb/\ ∀ K':D->Option Ob->Prop,K' d nb->evl P dst op xs obs K':=by
 by_cases hb:op= .b2s/\ ∃ d,xs=[d]
 ·obtain⟨rfl,d,rfl⟩:=hb; exact ZaQ h
 by_cases hl:(∃ a s,op= .load a s)/\ ∃ a b c d,xs=[.vptr a b c d]
 ·obtain⟨⟨_,_,rfl⟩,_,_,_,_,rfl⟩:=hl; exact Z9J h
 by_cases hlm:(∃ a s,op= .mlook a s)/\ ∃ a b,xs=[.map a,b]
 ·obtain⟨⟨_,_,rfl⟩,_,_,rfl⟩:=hlm; exact Z6t h
 unfold evl at h
 split at h
 all_goals try exact absurd ⟨rfl,_,rfl⟩ hb
 all_goals try exact absurd ⟨⟨_,_,rfl⟩,_,_,_,_,rfl⟩ hl
 all_goals try exact absurd ⟨⟨_,_,rfl⟩,_,_,rfl⟩ hlm
 all_goals clear hb hl hlm
 all_goals try simp only[evl]
 all_goals first
  | exact h.elim
  | (obtain⟨d,hk,hK⟩:=Z91 h.2; exact⟨d,none,hk,fun K' hk'=>⟨h.1,hK _ hk'⟩⟩)
  | (obtain⟨d,hk,hK⟩:=Z8Z h; exact⟨d,none,hk,fun K' hk'=>hK _ hk'⟩)
  | exact⟨_,_,h,fun K' hk=>hk⟩
  | exact⟨_,_,h.2,fun K' hk=>⟨h.1,hk⟩⟩
  | exact⟨_,_,h.2.2,fun K' hk=>⟨h.1,h.2.1,hk⟩⟩
  | exact⟨_,_,h.2.2.2,fun K' hk=>⟨h.1,h.2.1,h.2.2.1,hk⟩⟩
  | skip
 all_goals first
  | (obtain⟨r,hr,hk'⟩:=h; cases r <;> exact⟨_,_,hk',fun K' hk=>⟨_,hr,hk⟩⟩)
  | skip
 all_goals
  repeat' split at h
 all_goals first
  | exact h.elim
  | exact⟨_,_,h,fun K' hk=>by simp only[*]; exact hk⟩
  | exact⟨_,_,h,fun K' hk=>by simp[*]⟩
  | exact⟨_,_,h.2,fun K' hk=>by simp only[*]; exact⟨h.1,hk⟩⟩
  | exact⟨_,_,h.2,fun K' hk=>by simp only[*]; exact⟨trivial,hk⟩⟩
  | exact⟨_,_,h.2.2,fun K' hk=>by simp only[*]; exact⟨h.1,h.2.1,hk⟩⟩
  | exact⟨_,_,h.2.2.2,fun K' hk=>by simp only[*]; exact⟨h.1,h.2.1,h.2.2.1,hk⟩⟩
  | exact⟨_,_,h.2.2.2.2,fun K' hk=>by simp only[*]; exact⟨h.1,h.2.1,h.2.2.1,h.2.2.2.1,hk⟩⟩
  | skip
 all_goals first
  | exact⟨_,_,h.2,fun K' hk=>⟨h.1,hk⟩⟩
  | exact⟨_,_,h.2.2.2,fun K' hk=>⟨h.1,h.2.1,h.2.2.1,hk⟩⟩
  | exact⟨_,_,h.2.2.2.2,fun K' hk=>⟨h.1,h.2.1,h.2.2.1,h.2.2.2.1,hk⟩⟩
  | (rename_i hag; subst hag; exact⟨_,_,h.2,fun K' hk=>⟨h.1,hk⟩⟩)
end
def repl (t:Nat) (d:D):Env->Env
 | []=>[]
 | (j,x)::r=>if t=j then (j,d)::r else (j,x)::repl t d r
theorem QW {t:Nat} {d:D}: ∀ {l:Env},lk l t=some d->repl t d l=l
 | [],h=>by cases h
 | (j,x)::r,h=>by
  simp only[lk] at h
  simp only[repl]
  split at h
  ·rename_i hj; cases h; rw[if_pos hj]
  ·rename_i hj; rw[if_neg hj,QW h]
def gudT (g:Option (Nat × Bool)) (s:St) (body skip:St->Tr):Tr:=match g with
 | none=>body s
 | some (t,want)=>match lk s.tm t with
  | some (.bool b)=>match want with
   | true=>brT b (body ⟨repl t (.bool true) s.tm,s.ob⟩) (skip ⟨repl t (.bool false) s.tm,s.ob⟩)
   | false=>brT b (skip ⟨repl t (.bool true) s.tm,s.ob⟩) (body ⟨repl t (.bool false) s.tm,s.ob⟩)
  | some (.tuple [])=>skip s
  | _=> .bad
section
variable {R:D->Obs->Prop} {J:List Fr->St->Prop} {P:Program}
theorem Qp {g:Option (Nat × Bool)} {s:St} {body skip:St->Tr} (h:(gudT g s body skip).ok R J):((body s).ok R J/\ ∀ p q:Prop,p->gud g s p q)\/((skip s).ok R J/\ ∀ p q:Prop,q->gud g s p q):=by
 cases g with
 | none=>exact .inl ⟨h,fun p q hp=>hp⟩
 | some gw =>
  obtain⟨t,w⟩:=gw
  simp only[gudT] at h
  simp only[gud]
  split at h
  ·rename_i b heq
   rw[heq]
   split at h
   ·rcases Z3T h with ⟨rfl,h⟩ | ⟨rfl,h⟩
    ·rw[QW heq] at h; exact .inl ⟨h,fun p q hp=>by simpa using hp⟩
    ·rw[QW heq] at h; exact .inr ⟨h,fun p q hp=>by simpa using hp⟩
   ·rcases Z3T h with ⟨rfl,h⟩ | ⟨rfl,h⟩
    ·rw[QW heq] at h; exact .inr ⟨h,fun p q hp=>by simpa using hp⟩
    ·rw[QW heq] at h; exact .inl ⟨h,fun p q hp=>by simpa using hp⟩
  ·rename_i heq; rw[heq]; exact .inr ⟨h,fun p q hp=>hp⟩
  ·exact h.elim
end
def stT0 (sz:SK) (x y:D) (obs:Nat->Option Ob) (K:Nat->Ob->Tr):Tr:=match stO sz x y obs with
 | some (a,b,id,o)=>match x with
  | .ptr .. => K id o
  | .map .. => K id o
  | _=> .owe (a<b) (K id o)
 | none=> .bad
theorem ZcB {sz:SK} {a b id i off:Nat} {y:D} {o:Ob} {obs:Nat->Option Ob} (h:stO sz (.ptr i off) y obs=some (a,b,id,o)):a<b:=by
 unfold stO at h
 cases sz with
 | m key=>cases h
 | k kd x=>cases h
 | cp _ _=>cases h
 | c sz =>
 simp only at h
 split at h
 ·split at h
  ·cases h; decide
  ·cases h
 ·cases h
theorem ZcC {sz:SK} {a b id i:Nat} {y:D} {o:Ob} {obs:Nat->Option Ob} (h:stO sz (.map i) y obs=some (a,b,id,o)):a<b:=by
 unfold stO at h
 cases sz with
 | c sz=>cases h
 | k kd x=>cases h
 | cp _ _=>cases h
 | m key =>
 simp only at h
 split at h
 ·split at h
  ·cases h; decide
  ·cases h
 ·split at h
  ·split at h
   ·cases h; decide
   ·cases h
  ·cases h
 ·cases h
theorem Z7i {sz:SK} {x y:D} {obs:Nat->Option Ob} {K:Nat->Ob->Tr} {R:D->Obs->Prop} {J:List Fr->St->Prop} (h:(stT0 sz x y obs K).ok R J): ∃ a b id o,stO sz x y obs=some (a,b,id,o)/\a<b/\(K id o).ok R J:=by
 unfold stT0 at h
 split at h
 ·rename_i a b id o hst
  split at h
  ·exact⟨_,_,id,o,hst,ZcB hst,h⟩
  ·exact⟨_,_,id,o,hst,ZcC hst,h⟩
  ·exact⟨_,_,id,o,hst,h.1,h.2⟩
 ·exact h.elim
def xN:X->Nat
 | .t n=>n
 | .c _=>0
def stT (tb:Ctr) (n:Nat) (sz:SK) (x y:D) (obs:Nat->Option Ob) (K:Nat->Ob->Tr):Tr:=match tb.E n (-1) with
 | [.agg ks',.agg ds']=>(match x with
  | .map id=>match sz with
   | .m key=>match obs id with
    | some (.gen (.map ks) ds)=> .owe (mput key y ks ds=some (ks',ds')) (K id (.gen (.map ks') ds'))
    | some (.gen (.mapC ks cs) [])=>if Z0f y=true then .owe (mput key y ks cs=some (ks',ds')) (K id (.gen (.mapC ks' ds') [])) else .bad
    | _=> .bad
   | _=> .bad
  | _=>stT0 sz x y obs K)
 | _=>stT0 sz x y obs K
theorem ZbS {tb:Ctr} {n:Nat} {sz:SK} {x y:D} {obs:Nat->Option Ob} {K:Nat->Ob->Tr} {R:D->Obs->Prop} {J:List Fr->St->Prop} (h:(stT tb n sz x y obs K).ok R J): ∃ a b id o,stO sz x y obs=some (a,b,id,o)/\a<b/\(K id o).ok R J:=by
 unfold stT at h
 split at h
 ·split at h
  ·split at h
   ·split at h
    ·rename_i heq
     refine⟨0,1,_,_, ?_,by decide,h.2⟩
     simp only[stO,heq,h.1]
    ·rename_i heq
     split at h
     ·rename_i hv
      refine⟨0,1,_,_, ?_,by decide,h.2⟩
      simp only[stO,heq,if_pos hv,h.1]
     ·exact h.elim
    ·exact h.elim
   ·exact h.elim
  ·exact Z7i h
 ·exact Z7i h
def panT (r:D) (Kp:Value->Tr) (K:Tr):Tr:=match r with
 | .pan v=>Kp v
 | _=>K
theorem Z1o {R:D->Obs->Prop} {J:List Fr->St->Prop} {r:D} {Kp:Value->Tr} {K:Tr} (h:(panT r Kp K).ok R J):(r.isPan=false/\K.ok R J)\/ ∃ v,r= .pan v/\(Kp v).ok R J:=by
 cases r <;> first | exact .inl ⟨rfl,h⟩ | exact .inr ⟨_,rfl,h⟩
def opT (tb:Ctr) (b:Nat) (o:SOp) (s:St) (K:St->Tr):Tr :=
 match o with
 | .a dst g op xs=>gudT g s (fun s=>evT tb (dst.getD 0) (b+dst.getD 0) op (xs.map s.get) (lk s.ob) fun d nb=>match nb with
   | none=>K (s.put dst d)
   | some ob=>match dst with
    | some t=>if s.clean (b+t)=true then K (s.put2 t (b+t) d ob) else .bad
    | none=> .bad) (fun s=>K (s.put dst .nov))
 | .st g sz x y=>gudT g s (fun s=>stT tb (xN x) (sz.at s) (s.get x) (s.get y) (lk s.ob) fun id o=>K { s with ob:=(id,o)::Z6 id s.ob }) (fun s=>K s)
 | .app dst g fz sz et x y=>gudT g s (fun s=>match Z1X (lk s.ob) (s.get y) with
   | some (ys,_)=>(match s.get x with
    | .nils=>if s.clean (b+dst)=true then .owe (Zb sz ys/\ys.length<=1073741824) (K (s.put2 dst (b+dst) (.vec (b+dst)) (.arr fz sz et ys))) else .bad
    | .vec id=>match lk s.ob id with
     | some (.arr fz' sz' e' es)=>if sz'=sz/\e'=et/\s.clean (b+dst)=true then .owe (Zb sz ys/\es.length+ys.length<=1073741824) (K (St.put2 ⟨s.tm,Z6 id s.ob⟩ dst (b+dst) (.vec (b+dst)) (.arr fz' sz et (es++ys)))) else .bad
     | _=> .bad
    | _=> .bad)
   | none=> .bad) (fun s=>K (s.put (some dst) .nov))
 | .cd dst g x xs=>gudT g s
   (fun s =>
     let az:=xs.map fun y=>dva (s.get x) (lk s.ob) (s.get y)
     let nm:=Z0q s (s.get x::az)
     if Qu nm=true then (match tb.C (dst.getD 0) ((s.get x).ren (idx · nm)) (az.map (D.ren (idx · nm))) (Zw s.ob (idx · nm) 0 nm) with
      | some rt=>rtT rt fun r ob'=>panT r (fun _=> .bad) (K ((s.back (s.base b) nm ob').put dst (r.ren (bkN (s.base b) nm))))
      | none=> .bad) else .bad)
   (fun s=>K (s.put dst .nov))
section
variable {R:D->Obs->Prop} {J:List Fr->St->Prop} {P:Program}
theorem ZbX {tb:Ctr} (htb:tb.OK P) {b:Nat} {o:SOp} {s:St} {K:St->Tr} (h:(opT tb b o s K).ok R J): ∃ s',(∀ K':St->Prop,K' s'->stp P b o s K')/\(K s').ok R J:=by
 cases o with
 | a dst g op xs =>
  simp only[opT] at h
  rcases Qp h with ⟨h,hg⟩ | ⟨h,hg⟩
  ·obtain⟨d,nb,hk,hK⟩:=Z5H (Zc3 htb h)
   cases nb with
   | none=>exact⟨s.put dst d,fun K' hk'=>hg _ _ (hK _ hk'),hk⟩
   | some ob =>
    cases dst with
    | none=>exact hk.elim
    | some t =>
     simp only at hk
     split at hk
     ·rename_i hc; exact⟨_,fun K' hk'=>hg _ _ (hK _ ⟨hc,hk'⟩),hk⟩
     ·exact hk.elim
  ·exact⟨_,fun K' hk'=>hg _ _ hk',h⟩
 | st g sz x y =>
  simp only[opT] at h
  rcases Qp h with ⟨h,hg⟩ | ⟨h,hg⟩
  ·obtain⟨a1,b1,id,ob,hst,hab,h⟩:=ZbS h
   exact⟨_,fun K' hk'=>hg _ _ (by simp only[hst]; exact⟨hab,hk'⟩),h⟩
  ·exact⟨_,fun K' hk'=>hg _ _ hk',h⟩
 | app dst g fz sz et x y =>
  simp only[opT] at h
  rcases Qp h with ⟨h,hg⟩ | ⟨h,hg⟩
  ·split at h
   ·rename_i ys ext hso
    split at h
    ·rename_i hx
     split at h
     ·rename_i hc
      exact⟨_,fun K' hk'=>hg _ _ (by simp only[hx,hso]; exact⟨h.1.1,h.1.2,hc,hk'⟩),h.2⟩
     ·exact h.elim
    ·rename_i id hx
     split at h
     ·rename_i fz' sz' e' es hl
      split at h
      ·rename_i hc
       exact⟨_,fun K' hk'=>hg _ _ (by simp only[hx,hso,hl]; exact⟨h.1.1,hc.1,hc.2.1,h.1.2,hc.2.2,hk'⟩),h.2⟩
      ·exact h.elim
     ·exact h.elim
    ·exact h.elim
   ·exact h.elim
  ·exact⟨_,fun K' hk'=>hg _ _ hk',h⟩
 | cd dst g x xs =>
  simp only[opT] at h
  rcases Qp h with ⟨h,hg⟩ | ⟨h,hg⟩
  ·split at h
   ·rename_i hnd
    split at h
    ·rename_i rt hrt
     obtain⟨r,ob',hc,hk⟩:=Z0Y (htb.C _ _ _ _ _ hrt) h
     have hb:b+4096<=s.base b:=Nat.le_max_left ..
     have ht:s.top<=s.base b:=Nat.le_max_right ..
     rcases Z1o hk with ⟨hpn,hk⟩ | ⟨_,_,hk⟩
     ·exact⟨_,fun K' hk'=>hg _ _ ⟨_,_,s.base b,Ze hnd,fun i hi=>Zo i hi,hb,ht,hc,fun r0 ob0 hr=>by rw[hr.1,hr.2]; exact⟨hpn,hk'⟩⟩,hk⟩
     ·exact hk.elim
    ·exact h.elim
   ·exact h.elim
  ·exact⟨_,fun K' hk'=>hg _ _ hk',h⟩
end
def opsT (tb:Ctr) (b:Nat):List SOp->St->(St->Tr)->Tr
 | [],s,K=>K s
 | o::l,s,K=>opT tb b o s fun s=>opsT tb b l s K
def hasT (tb:Ctr) (b:Nat) (o:SOp) (s:St) (K:St->Eff->Tr):Tr :=
 match o with
 | .a dst g op xs=>gudT g s (fun s=>evT tb (dst.getD 0) (b+dst.getD 0) op (xs.map s.get) (lk s.ob) fun d nb=>match nb with
   | none=>K s ⟨rdA (lk s.ob) op (xs.map s.get),dst.map (·,d),[],none⟩
   | some ob=>if dst.isSome then K s ⟨rdA (lk s.ob) op (xs.map s.get),dst.map (·,d),[(b+dst.getD 0,some ob)],none⟩ else .bad) (fun s=>K s ⟨[],dst.map (·,.nov),[],none⟩)
 | .st g sz x y=>gudT g s (fun s=>stT tb (xN x) (sz.at s) (s.get x) (s.get y) (lk s.ob) fun id o=>K s ⟨[id],none,[(id,some o)],none⟩) (fun s=>K s ⟨[],none,[],none⟩)
 | .app dst g fz sz et x y=>gudT g s (fun s=>match Z1X (lk s.ob) (s.get y) with
   | some (ys,_)=>(match s.get x with
    | .nils=> .owe (Zb sz ys/\ys.length<=1073741824) (K s ⟨vids [s.get y],some (dst,.vec (b+dst)),[(b+dst,some (.arr fz sz et ys))],none⟩)
    | .vec id=>match lk s.ob id with
     | some (.arr fz' sz' e' es)=>if sz'=sz/\e'=et then .owe (Zb sz ys/\es.length+ys.length<=1073741824) (K s ⟨id::vids [s.get y],some (dst,.vec (b+dst)),[(b+dst,some (.arr fz' sz et (es++ys))),(id,none)],none⟩) else .bad
     | _=> .bad
    | _=> .bad)
   | none=> .bad) (fun s=>K s ⟨[],some (dst,.nov),[],none⟩)
 | .cd dst g x xs=>gudT g s
   (fun s =>
     let az:=xs.map fun y=>dva (s.get x) (lk s.ob) (s.get y)
     let nm:=Z0q s (s.get x::az)
     if Qu nm=true then (match tb.C (dst.getD 0) ((s.get x).ren (idx · nm)) (az.map (D.ren (idx · nm))) (Zw s.ob (idx · nm) 0 nm) with
      | some rt=>rtT rt fun r ob'=>panT r (fun _=> .bad) (K s ⟨nm++vids (xs.map s.get),dst.map (·,r.ren (bkN (s.base b) nm)),(renO (fun j=>match nm[j]? with | some i=>i | none=>s.base b+j) (bkN (s.base b) nm) ob').map (fun p=>(p.1,some p.2))++nm.map (·,none),some (s.base b)⟩)
      | none=> .bad) else .bad)
   (fun s=>K s ⟨[],dst.map (·,.nov),[],none⟩)
def caT (tb:Ctr) (b:Nat):List SOp->St->(List Eff->St->Tr)->Tr
 | [],s,K=>K [] s
 | o::l,s,K=>hasT tb b o s fun s e=>caT tb b l (s.app e) fun es s=>K (e::es) s
section
variable {R:D->Obs->Prop} {J:List Fr->St->Prop} {P:Program}
theorem Z1q {tb:Ctr} (htb:tb.OK P) {b:Nat} {K:St->Tr}: ∀ {ops:List SOp} {s:St},(opsT tb b ops s K).ok R J-> ∃ s',(∀ K':St->Prop,K' s'->stps P b ops s K')/\(K s').ok R J
 | [],s,h=>⟨s,fun K' hk=>hk,h⟩
 | o::l,s,h=>by
  obtain⟨s1,h1,hk1⟩:=ZbX htb h
  obtain⟨s2,h2,hk2⟩:=Z1q htb hk1
  exact⟨s2,fun K' hk=>h1 _ (h2 _ hk),hk2⟩
theorem Z8l {tb:Ctr} (htb:tb.OK P) {b:Nat} {o:SOp} {s:St} {K:St->Eff->Tr} (h:(hasT tb b o s K).ok R J): ∃ e,Has P b o s e/\(K s e).ok R J:=by
 cases o with
 | a dst g op xs =>
  simp only[hasT] at h
  rcases Qp h with ⟨h,hg⟩ | ⟨h,hg⟩
  ·obtain⟨d,nb,hk,hK⟩:=Z5H (Zc3 htb h)
   cases nb with
   | none=>exact⟨_,hg _ _ ⟨rfl,rfl,hK _ ⟨rfl,rfl⟩⟩,hk⟩
   | some ob =>
    simp only at hk
    split at hk
    ·rename_i hc; exact⟨_,hg _ _ ⟨rfl,rfl,hK _ ⟨rfl,hc,rfl⟩⟩,hk⟩
    ·exact hk.elim
  ·exact⟨_,hg _ _ rfl,h⟩
 | st g sz x y =>
  simp only[hasT] at h
  rcases Qp h with ⟨h,hg⟩ | ⟨h,hg⟩
  ·obtain⟨a1,b1,id,ob,hst,hab,h⟩:=ZbS h
   exact⟨_,hg _ _ (by simp only[HasB,hst]; exact⟨hab,trivial⟩),h⟩
  ·exact⟨_,hg _ _ rfl,h⟩
 | app dst g fz sz et x y =>
  simp only[hasT] at h
  rcases Qp h with ⟨h,hg⟩ | ⟨h,hg⟩
  ·split at h
   ·rename_i ys ext hso
    split at h
    ·rename_i hx
     exact⟨_,hg _ _ (by simp only[HasB,hx,hso]; exact⟨h.1.1,h.1.2,trivial⟩),h.2⟩
    ·rename_i id hx
     split at h
     ·rename_i fz' sz' e' es hl
      split at h
      ·rename_i hc
       exact⟨_,hg _ _ (by simp only[HasB,hx,hso,hl]; exact⟨h.1.1,hc.1,hc.2,h.1.2,trivial⟩),h.2⟩
      ·exact h.elim
     ·exact h.elim
    ·exact h.elim
   ·exact h.elim
  ·exact⟨_,hg _ _ rfl,h⟩
 | cd dst g x xs =>
  simp only[hasT] at h
  rcases Qp h with ⟨h,hg⟩ | ⟨h,hg⟩
  ·split at h
   ·rename_i hnd
    split at h
    ·rename_i rt hrt
     obtain⟨r,ob',hc,hk⟩:=Z0Y (htb.C _ _ _ _ _ hrt) h
     have hb:b+4096<=s.base b:=Nat.le_max_left ..
     rcases Z1o hk with ⟨hpn,hk⟩ | ⟨_,_,hk⟩
     ·exact⟨_,hg _ _ ⟨_,r,ob',s.base b,Ze hnd,fun i hi=>Zo i hi,hb,hc,hpn,rfl⟩,hk⟩
     ·exact hk.elim
    ·exact h.elim
   ·exact h.elim
  ·exact⟨_,hg _ _ rfl,h⟩
theorem Z8W {tb:Ctr} (htb:tb.OK P) {b:Nat}: ∀ {ops:List SOp} {s:St} {K:List Eff->St->Tr},(caT tb b ops s K).ok R J-> ∃ es s',Z3X P b ops s es s'/\(K es s').ok R J
 | [],s,K,h=>⟨[],s,rfl,h⟩
 | o::l,s,K,h=>by
  obtain⟨e,h1,hk1⟩:=Z8l htb h
  obtain⟨es,s2,h2,hk2⟩:=Z8W htb hk1
  exact⟨e::es,s2,⟨h1,h2⟩,hk2⟩
end
def opXT (tb:Ctr) (b:Nat) (o:SOp) (s:St) (K:St->Tr) (Kp:Value->St->Tr):Tr :=
 match o with
 | .cd dst g x xs=>gudT g s
   (fun s =>
     let az:=xs.map fun y=>dva (s.get x) (lk s.ob) (s.get y)
     let nm:=Z0q s (s.get x::az)
     if Qu nm=true then (match tb.C (dst.getD 0) ((s.get x).ren (idx · nm)) (az.map (D.ren (idx · nm))) (Zw s.ob (idx · nm) 0 nm) with
      | some rt=>rtT rt fun r ob'=>panT r (fun v=>Kp v (s.back (s.base b) nm ob')) (K ((s.back (s.base b) nm ob').put dst (r.ren (bkN (s.base b) nm))))
      | none=> .bad) else .bad)
   (fun s=>K (s.put dst .nov))
 | .a none g .pnk [x]=>gudT g s (fun s=>match s.get x with
   | .raw v=>(match v with
    | .iface t u=>Kp (.iface t u) s
    | _=> .bad)
   | _=> .bad) (fun s=>K s)
 | o=>opT tb b o s K
def Zeb (tb:Ctr) (b:Nat):List SOp->St->(St->Tr)->(Value->St->Tr)->Tr
 | [],s,K,_=>K s
 | o::l,s,K,Kp=>opXT tb b o s (fun s=>Zeb tb b l s K Kp) Kp
section
variable {R:D->Obs->Prop} {J:List Fr->St->Prop} {P:Program}
theorem Zec {tb:Ctr} (htb:tb.OK P) {b:Nat} {o:SOp} {s:St} {K:St->Tr} {Kp:Value->St->Tr} (h:(opXT tb b o s K Kp).ok R J) :
  (∃ s',(∀ (Kn:St->Prop) (Kq:Value->St->Prop),Kn s'->stpX P b o s Kn Kq)/\(K s').ok R J)\/ ∃ v s',(∀ (Kn:St->Prop) (Kq:Value->St->Prop),Kq v s'->stpX P b o s Kn Kq)/\(Kp v s').ok R J:=by
 have usual:(opT tb b o s K).ok R J-> ∃ s',(∀ (Kn:St->Prop) (Kq:Value->St->Prop),Kn s'->stpX P b o s Kn Kq)/\(K s').ok R J:=fun h=>by
  obtain⟨s',h1,h2⟩:=ZbX htb h
  exact⟨s',fun Kn Kq hk=>Z7f (h1 Kn hk),h2⟩
 cases o with
 | st g sz x y=>exact .inl (usual h)
 | app dst g fz sz e x y=>exact .inl (usual h)
 | cd dst g x xs =>
  simp only[opXT] at h
  rcases Qp h with ⟨h,hg⟩ | ⟨h,hg⟩
  ·split at h
   ·rename_i hnd
    split at h
    ·rename_i rt hrt
     obtain⟨r,ob',hc,hk⟩:=Z0Y (htb.C _ _ _ _ _ hrt) h
     have hb:b+4096<=s.base b:=Nat.le_max_left ..
     have ht:s.top<=s.base b:=Nat.le_max_right ..
     rcases Z1o hk with ⟨hpn,hk⟩ | ⟨v,rfl,hk⟩
     ·exact .inl ⟨_,fun K' Kq hk'=>hg _ _ ⟨_,_,s.base b,Ze hnd,fun i hi=>Zo i hi,hb,ht,hc,fun r0 ob0 hr=> .inl (by rw[hr.1,hr.2]; exact⟨hpn,hk'⟩)⟩,hk⟩
     ·exact .inr ⟨v,_,fun K' Kq hk'=>hg _ _ ⟨_,_,s.base b,Ze hnd,fun i hi=>Zo i hi,hb,ht,hc,fun r0 ob0 hr=> .inr ⟨v,hr.1,by rw[hr.2]; exact hk'⟩⟩,hk⟩
    ·exact h.elim
   ·exact h.elim
  ·exact .inl ⟨_,fun K' Kq hk'=>hg _ _ hk',h⟩
 | a dst g op xs =>
  by_cases hq:dst=none/\op= .pnk/\ ∃ x,xs=[x]
  ·obtain⟨rfl,rfl,x,rfl⟩:=hq
   simp only[opXT] at h
   rcases Qp h with ⟨h,hg⟩ | ⟨h,hg⟩
   ·split at h
    ·rename_i v hv
     split at h
     ·rename_i t u
      exact .inr ⟨_,s,fun K' Kq hk'=>hg _ _ ⟨t,u,hv,hk'⟩,h⟩
     ·exact h.elim
    ·exact h.elim
   ·exact .inl ⟨s,fun K' Kq hk'=>hg _ _ hk',h⟩
  ·refine .inl (usual ?_)
   cases dst with
   | some d=>exact h
   | none=>cases op <;> first | exact h | (cases xs with
     | nil=>exact h
     | cons x r=>cases r with
      | nil=>exact absurd ⟨rfl,rfl,x,rfl⟩ hq
      | cons _ _=>exact h)
theorem Z5m {tb:Ctr} (htb:tb.OK P) {b:Nat} {K:St->Tr} {Kp:Value->St->Tr}: ∀ {ops:List SOp} {s:St},(Zeb tb b ops s K Kp).ok R J →
  (∃ s',(∀ (Kn:St->Prop) (Kq:Value->St->Prop),Kn s'->Z0I P b ops s Kn Kq)/\(K s').ok R J)\/ ∃ v s',(∀ (Kn:St->Prop) (Kq:Value->St->Prop),Kq v s'->Z0I P b ops s Kn Kq)/\(Kp v s').ok R J
 | [],s,h=> .inl ⟨s,fun _ _ hk=>hk,h⟩
 | o::l,s,h=>by
  rcases Zec htb h with ⟨s1,h1,hk1⟩ | ⟨v,s1,h1,hk1⟩
  ·rcases Z5m htb hk1 with ⟨s2,h2,hk2⟩ | ⟨v,s2,h2,hk2⟩
   ·exact .inl ⟨s2,fun Kn Kq hk=>h1 _ _ (h2 _ _ hk),hk2⟩
   ·exact .inr ⟨v,s2,fun Kn Kq hk=>h1 _ _ (h2 _ _ hk),hk2⟩
  ·exact .inr ⟨v,s1,fun Kn Kq hk=>h1 _ _ hk,hk1⟩
end
def Zau (tb:Ctr) (b:Nat) (o:SOp) (s:St) (K:St->Eff × Option (Nat × Nat × D)->Tr):Tr :=
 match o with
 | .a (some t) none (.load false 1) [x]=>(match s.get x with
  | .ptr id off=>(match lk s.ob id with
   | some (.cells cs)=>(match cs[off]? with
    | some (.vec m)=>K s (⟨[],some (t,.vec m),[],none⟩,some (id,off,.vec m))
    | some (.int k n)=>K s (⟨[],some (t,.int k n),[],none⟩,some (id,off,.int k n))
    | _=>hasT tb b o s fun s e=>K s (e,none))
   | _=>hasT tb b o s fun s e=>K s (e,none))
  | _=>hasT tb b o s fun s e=>K s (e,none))
 | _=>hasT tb b o s fun s e=>K s (e,none)
def Zex (tb:Ctr) (b:Nat) (o:SOp) (s:St) (K:St->Eff × Option (Nat × Nat × D)->Tr) (Kp:Value->St->Eff × Option (Nat × Nat × D)->Tr):Tr :=
 match o with
 | .cd dst none x xs =>
  let az:=xs.map fun y=>dva (s.get x) (lk s.ob) (s.get y)
  let nm:=Z0q s (s.get x::az)
  if Qu nm=true then (match tb.C (dst.getD 0) ((s.get x).ren (idx · nm)) (az.map (D.ren (idx · nm))) (Zw s.ob (idx · nm) 0 nm) with
   | some rt=>rtT rt fun r ob'=>panT r (fun v=>Kp v s (⟨nm++vids (xs.map s.get),none,[],some (s.base b)⟩,none))
     (K s (⟨nm++vids (xs.map s.get),dst.map (·,r.ren (bkN (s.base b) nm)),(renO (fun j=>match nm[j]? with | some i=>i | none=>s.base b+j) (bkN (s.base b) nm) ob').map (fun p=>(p.1,some p.2))++nm.map (·,none),some (s.base b)⟩,none))
   | none=> .bad) else .bad
 | _=>Zau tb b o s K
def caPT (tb:Ctr) (b:Nat) (pre:List Nat) (c:Nat):Nat->List SOp->St->(List (Eff × Option (Nat × Nat × D))->Tr)->Tr
 | _,[],_,K=>K []
 | k,o::r,s,K=>match ZB pre c k with
  | true=>caPT tb b pre c (k+1) r s fun qs=>K ((⟨[],none,[],none⟩,none)::qs)
  | false=>Zau tb b o s fun s q=>caPT tb b pre c (k+1) r (s.app q.1) fun qs=>K (q::qs)
def caOT (tb:Ctr) (b:Nat) (pre:List Nat):Nat->List SOp->St->(List (Eff × Option (Nat × Nat × D))->St->Tr)->(Nat->Value->List (Eff × Option (Nat × Nat × D))->Tr)->Tr
 | _,[],s,K,_=>K [] s
 | k,o::r,s,K,Kp=>Zex tb b o s (fun s q=>caOT tb b pre (k+1) r (s.app q.1) (fun qs s'=>K (q::qs) s') fun c v qs=>match ZB pre c k with
   | true=> .bad
   | false=>Kp c v (q::qs)) (fun v s q=>caPT tb b pre k (k+1) r (s.app q.1) fun qs=>Kp k v (q::qs))
section
variable {R:D->Obs->Prop} {J:List Fr->St->Prop} {P:Program}
theorem Z5C {tb:Ctr} (htb:tb.OK P) {b:Nat} {o:SOp} {s:St} {K:St->Eff × Option (Nat × Nat × D)->Tr} (h:(Zau tb b o s K).ok R J): ∃ q,HasC P b o s q/\(K s q).ok R J:=by
 have usual:(hasT tb b o s fun s e=>K s (e,none)).ok R J-> ∃ q,HasC P b o s q/\(K s q).ok R J:=fun h=>by
  obtain⟨e,h1,h2⟩:=Z8l htb h
  exact⟨(e,none),h1,h2⟩
 unfold Zau at h
 split at h
 ·rename_i t x
  split at h
  ·rename_i id off hx
   split at h
   ·rename_i cs hcs
    split at h
    ·rename_i m hm
     exact⟨(⟨[],some (t,.vec m),[],none⟩,some (id,off,.vec m)),⟨hx,rfl⟩,h⟩
    ·rename_i k n hm
     exact⟨(⟨[],some (t,.int k n),[],none⟩,some (id,off,.int k n)),⟨hx,rfl⟩,h⟩
    ·exact usual h
   ·exact usual h
  ·exact usual h
 ·exact usual h
theorem Zat {tb:Ctr} (htb:tb.OK P) {b:Nat} {o:SOp} {s:St} {K:St->Eff × Option (Nat × Nat × D)->Tr} {Kp:Value->St->Eff × Option (Nat × Nat × D)->Tr} (h:(Zex tb b o s K Kp).ok R J) :
  (∃ q,HasC P b o s q/\(K s q).ok R J)\/ ∃ v q,HasPn P b o s v q.1/\(Kp v s q).ok R J:=by
 unfold Zex at h
 split at h
 ·rename_i dst x xs
  simp only at h
  split at h
  ·rename_i hnd
   split at h
   ·rename_i rt hrt
    obtain⟨r,ob',hc,hk⟩:=Z0Y (htb.C _ _ _ _ _ hrt) h
    have hb:b+4096<=s.base b:=Nat.le_max_left ..
    rcases Z1o hk with ⟨hpn,hk⟩ | ⟨v,rfl,hk⟩
    ·exact .inl ⟨(_,none),(show HasB P b (.cd dst none x xs) s _ from ⟨_,r,ob',s.base b,Ze hnd,fun i hi=>Zo i hi,hb,hc,hpn,rfl⟩),hk⟩
    ·exact .inr ⟨v,(_,none),⟨_,s.base b,Ze hnd,fun i hi=>Zo i hi,hb,hc.mono fun _ _ hr=>hr.1,rfl⟩,hk⟩
   ·exact h.elim
  ·exact h.elim
 ·exact .inl (Z5C htb h)
theorem Z4J {tb:Ctr} (htb:tb.OK P) {b:Nat} {pre:List Nat} {c:Nat} {v:Value}: ∀ {ops:List SOp} {k:Nat} {s:St} {K:List (Eff × Option (Nat × Nat × D))->Tr},c<k->(caPT tb b pre c k ops s K).ok R J-> ∃ qs s',Z1U P b pre (some (c,v)) k ops s qs s'/\(K qs).ok R J
 | [],k,s,K,_,h=>⟨[],s,rfl,h⟩
 | o::l,k,s,K,hck,h=>by
  simp only[caPT] at h
  split at h
  ·rename_i hb
   obtain⟨qs,s2,h2,hk2⟩:=Z4J htb (by omega) h
   exact⟨(⟨[],none,[],none⟩,none)::qs,s2,⟨(show if k=c then _ else if ZB pre c k=true then _ else _ from by rw[if_neg (by omega),if_pos hb]),h2⟩,hk2⟩
  ·rename_i hb
   obtain⟨q,h1,hk1⟩:=Z5C htb h
   obtain⟨qs,s2,h2,hk2⟩:=Z4J htb (by omega) hk1
   exact⟨q::qs,s2,⟨by simp only[HasO]; rw[if_neg (by omega),if_neg (by simp[hb])]; exact h1,h2⟩,hk2⟩
theorem Z8X {tb:Ctr} (htb:tb.OK P) {b:Nat} {pre:List Nat}: ∀ {ops:List SOp} {k:Nat} {s:St} {K:List (Eff × Option (Nat × Nat × D))->St->Tr} {Kp:Nat->Value->List (Eff × Option (Nat × Nat × D))->Tr},(caOT tb b pre k ops s K Kp).ok R J →
  (∃ qs s',Z1U P b pre none k ops s qs s'/\(K qs s').ok R J)\/ ∃ c v qs s',k<=c/\c<k+ops.length/\Z1U P b pre (some (c,v)) k ops s qs s'/\(Kp c v qs).ok R J
 | [],k,s,K,Kp,h=> .inl ⟨[],s,rfl,h⟩
 | o::l,k,s,K,Kp,h=>by
  rcases Zat htb h with ⟨q,h1,hk1⟩ | ⟨v,q,h1,hk1⟩
  ·rcases Z8X htb hk1 with ⟨qs,s2,h2,hk2⟩ | ⟨c,v,qs,s2,hc1,hc2,h2,hk2⟩
   ·exact .inl ⟨q::qs,s2,⟨h1,h2⟩,hk2⟩
   ·split at hk2
    ·exact hk2.elim
    ·rename_i hb
     refine .inr ⟨c,v,q::qs,s2,by omega,by simp only[List.length_cons]; omega,⟨?_,h2⟩,hk2⟩
     simp only[HasO]
     rw[if_neg (by omega),if_neg (by simp[hb])]
     exact h1
  ·obtain⟨qs,s2,h2,hk2⟩:=Z4J (v:=v) htb (Nat.lt_succ_self k) hk1
   exact .inr ⟨k,v,q::qs,s2,Nat.le_refl _,by simp only[List.length_cons]; omega,⟨(show if k=k then _ else _ from by rw[if_pos rfl]; exact h1),h2⟩,hk2⟩
end
end Go.Sx
namespace Go.Sx
open Go.RowKit
variable [Globs] [Codes]
def swF (P:Program):Nat->Nat->List Fr->St->(Exit->St->Prop)->Prop
 | 0,_,_,_,_=>False
 | n+1,bs,K,s,Q=>match K with
  | []=>Q .normal s
  | .blk _::K=>swF P n bs K s Q
  | .sc c::K=>match c with
   | .skip=>swF P n bs K s Q
   | .ret=>Q .ret s
   | .exit i=>match QX i K with
    | some K'=>swF P n bs K' s Q
    | none=>Q (.exit i) s
   | .reg ops=>stps P (s.nx bs) ops s fun s'=>swF P n bs K s' Q
   | .drw pre ops=> ∃ es s',Z3X P (s.nx bs) ops s es s'/\dchk (s.nx bs) pre ops es s=true/\swF P n bs K s' Q
   | .seq a b=>swF P n bs (.sc a:: .sc b::K) s Q
   | .cond x a b=>match s.get x with
    | .bool t=>swF P n bs (.sc (if t=true then a else b)::K) s Q
    | _=>False
   | .block id c=>swF P n bs (.sc c:: .blk id::K) s Q
   | .loop ts c=>swF P n bs (.sc c:: .sc (.loop ts c)::K) (s.canon bs ts) Q
   | .spec k=>spS P bs k (fun e s'=>match e with
    | .normal=>swF P n bs K s' Q
    | .ret=>Q .ret s'
    | .exit i=>match QX i K with
     | some K'=>swF P n bs K' s' Q
     | none=>Q (.exit i) s'
    | .panic c=>Q (.panic c) s'
    | _=>False) s
   | .rangeF N g ps a b=>sw P bs (.rangeF N g ps a b) (fun e s'=>match e with
    | .normal=>swF P n bs K s' Q
    | .ret=>Q .ret s'
    | .exit i=>match QX i K with
     | some K'=>swF P n bs K' s' Q
     | none=>Q (.exit i) s'
    | .panic c=>Q (.panic c) s'
    | _=>False) s
section
variable {P:Program}
def Ze5 (P:Program) (m bs:Nat) (K:List Fr) (ex:Exit) (s:St) (Q:Exit->St->Prop):Prop:=match ex with
 | .normal=>swF P m bs K s Q
 | .ret=>Q .ret s
 | .exit i=>match QX i K with
  | some K'=>swF P m bs K' s Q
  | none=>Q (.exit i) s
 | .panic c=>Q (.panic c) s
 | _=>False
theorem Z7c: ∀ (n bs:Nat) (c:SC) (K:List Fr) (s:St) (Q:Exit->St->Prop),swF P n bs (.sc c::K) s Q->sw P bs c (fun ex s1=> ∃ m,m<n/\Ze5 P m bs K ex s1 Q) s:=by
 intro n
 induction n using Nat.strongRecOn with
 | _ n ih =>
  intro bs c K s Q h
  cases n with
  | zero=>cases h
  | succ n =>
   cases c with
   | spec k =>
    simp only[swF] at h
    exact Z2L (Q:=fun e s'=>match e with
     | .normal=>swF P n bs K s' Q
     | .ret=>Q .ret s'
     | .exit i=>match QX i K with
      | some K'=>swF P n bs K' s' Q
      | none=>Q (.exit i) s'
     | .panic c=>Q (.panic c) s'
     | _=>False) h fun ex s1 hr=>⟨n,Nat.lt_succ_self n,by cases ex <;> exact hr⟩
   | skip=>exact⟨n,Nat.lt_succ_self n,h⟩
   | ret=>exact⟨n,Nat.lt_succ_self n,h⟩
   | exit i=>exact⟨n,Nat.lt_succ_self n,h⟩
   | reg ops=>exact QO (K:=fun s'=>swF P n bs K s' Q) h fun s' hs'=>⟨n,Nat.lt_succ_self n,hs'⟩
   | drw pre ops =>
    obtain⟨es,s',h1,h2,h3⟩:=h
    exact⟨es,s',h1,h2,n,Nat.lt_succ_self n,h3⟩
   | seq a b =>
    show sw P bs a (thenS (sw P bs b _) _) s
    refine Zl (ih n (Nat.lt_succ_self n) bs a _ s Q h) fun ex s1 ⟨m,hm,hr⟩=> ?_
    cases ex <;> simp only[thenS]
    ·exact Zl (ih m (by omega) bs b K s1 Q hr) fun ex s2 ⟨m',hm',hr'⟩=>⟨m',by omega,hr'⟩
    ·exact⟨m,by omega,hr⟩
    ·exact hr.elim
    ·exact⟨m,by omega,hr⟩
    all_goals first | exact⟨m,by omega,hr⟩ | exact hr.elim
   | cond x a b =>
    simp only[swF] at h
    simp only[sw]
    split at h
    ·rename_i t hx
     cases t
     ·rw[if_neg (by simp)] at h
      rw[hx]
      simp only[Bool.false_eq_true,if_false]
      exact Zl (ih n (Nat.lt_succ_self n) bs b K s Q h) fun ex s1 ⟨m,hm,hr⟩=>⟨m,by omega,hr⟩
     ·rw[if_pos rfl] at h
      rw[hx]
      simp only[if_true]
      exact Zl (ih n (Nat.lt_succ_self n) bs a K s Q h) fun ex s1 ⟨m,hm,hr⟩=>⟨m,by omega,hr⟩
    ·exact h.elim
   | block id c =>
    show sw P bs c (QA id _) s
    refine Zl (ih n (Nat.lt_succ_self n) bs c _ s Q h) fun ex s1 ⟨m,hm,hr⟩=> ?_
    cases ex <;> simp only[QA]
    ·cases m with
     | zero=>cases hr
     | succ m=>exact⟨m,by omega,hr⟩
    ·rename_i i
     simp only[Ze5,QX] at hr
     split
     ·rename_i hi; rw[if_pos hi] at hr; exact⟨m,by omega,hr⟩
     ·rename_i hi; rw[if_neg hi] at hr; exact⟨m,by omega,hr⟩
    ·exact hr.elim
    ·exact⟨m,by omega,hr⟩
    all_goals first | exact⟨m,by omega,hr⟩ | exact hr.elim
   | loop ts c =>
    refine⟨ts,fun k s'=>k<=n/\swF P k bs (.sc c:: .sc (.loop ts c)::K) s' Q,⟨n,Nat.le_refl _,h⟩,fun k s' hk=> ?_⟩
    refine Zl (ih k (by omega) bs c _ s' Q hk.2) fun ex s1 ⟨m,hm,hr⟩=> ?_
    cases ex <;> simp only[thenS]
    ·cases m with
     | zero=>cases hr
     | succ m=>exact⟨m,by omega,by omega,hr⟩
    ·exact⟨m,by omega,hr⟩
    ·exact hr.elim
    ·exact⟨m,by omega,hr⟩
    all_goals first | exact⟨m,by omega,hr⟩ | exact hr.elim
   | rangeF N g ps a b =>
    simp only[swF] at h
    exact Zl h fun ex s1 hr=>⟨n,Nat.lt_succ_self n,by cases ex <;> exact hr⟩
def At (P:Program) (bs:Nat) (K:List Fr) (s:St) (Q:Exit->St->Prop):Prop:= ∃ n,swF P n bs K s Q
theorem CallL.reordG {P:Program} {d:D} {args:List D} {ob:Obs} {R:D->Obs->Prop} (h:CallL P d args ob (fun r0 ob0=>R r0 (Z0K ob0))):CallL P d args ob R:=by
 intro F hF n φ hh w v vs hp hv hvs
 refine (h F hF n φ hh w v vs hp hv hvs).mono ?_
 rintro e w' ⟨r0,ob0,φ',h',hend,hR,ha⟩
 have he: ∀ i,lk (Z0K ob0) i=lk ob0 i:=fun i=>Za i ob0
 exact⟨r0,Z0K ob0,φ',h',hend,hR,⟨⟨ha.loc.one,ha.loc.glob.sub fun b ⟨i,hi,hb⟩=>⟨i,by rw[<- he]; exact hi,hb⟩,ha.loc.mem,fun i o ho=>ha.loc.obj i o (by rw[<- he]; exact ho),fun i j b hi hj=>ha.loc.sep i j b (by rw[<- he]; exact hi) (by rw[<- he]; exact hj)⟩,
  ha.ext,ha.new,ha.frame,ha.hfix,ha.os,ha.tape,ha.output,ha.grow⟩⟩
def RE (pu:Bool) (R:D->Obs->Prop):D->Obs->Prop:=match pu with
 | true=>fun d ob=> ∃ r,retE d ob=some r/\R r []
 | false=>fun d ob=>R d (Z0K ob)
def FinQ (pu:Bool) (bs:Nat) (rs:List SR) (R:D->Obs->Prop):Exit->St->Prop:=fun e s=>match e with
 | .normal=> ∃ ds,rs.mapM (resD s)=some ds/\RetL bs (RE pu R) s (Qz ds)
 | .ret=> ∃ ds,rs.mapM (resD s)=some ds/\RetL bs (RE pu R) s (Qz ds)
 | .panic c=> ∃ v,c=[{ v,recovered:=false }]/\RetL bs (RE pu R) s (.pan v)
 | _=>False
def panF (pu:Bool) (bs:Nat) (c:List PanicEntry) (s:St):Tr:=match c with
 | [⟨v,false,false⟩]=>(match pu with
  | true=> .bad
  | false=> .ret (.pan v) (Z0K (s.fin bs (.pan v)).ob))
 | _=> .bad
def endT (pu:Bool) (bs:Nat) (rs:List SR) (s:St):Tr:=match rs.mapM (resD s) with
 | some ds=>match pu with
  | true=>match retE ((s.fin bs (Qz ds)).get (.t 0)) (s.fin bs (Qz ds)).ob with
   | some r=> .ret r []
   | none=> .bad
  | false=> .ret ((s.fin bs (Qz ds)).get (.t 0)) (Z0K (s.fin bs (Qz ds)).ob)
 | none=> .bad
def finF (pu:Bool) (bs:Nat) (rs:List SR):Exit->St->Tr:=fun e s=>match e with
 | .normal=>endT pu bs rs s
 | .ret=>endT pu bs rs s
 | .panic c=>panF pu bs c s
 | _=> .bad
def intT (a c:Bool) (x:Tr):Tr:=match a with
 | false=>x
 | true=>brT c x .bad
theorem Z30 {R:D->Obs->Prop} {J:List Fr->St->Prop} {a c:Bool} {x:Tr} (h0:a=false->c=true) (h:(intT a c x).ok R J):x.ok R J/\c=true:=by
 cases a with
 | false=>exact⟨h,h0 rfl⟩
 | true =>
  cases c with
  | true=>exact⟨h,rfl⟩
  | false=>exact h.elim
def Qq (P:Program) (tb:Ctr) (bs:Nat) (fin:Exit->St->Tr) (ih:List Fr->St->Tr):List Fr->St->Tr:=fun K s=>match K with
 | []=>fin .normal s
 | .blk _::K=>ih K s
 | .sc c::K=>match c with
  | .skip=>ih K s
  | .ret=>fin .ret s
  | .exit i=>match QX i K with
   | some K'=>ih K' s
   | none=>fin (.exit i) s
  | .reg ops=>opsT tb (s.nx bs) ops s fun s'=>ih K s'
  | .drw pre ops=>caT tb (s.nx bs) ops s fun es s'=>if dchk (s.nx bs) pre ops es s=true then ih K s' else .bad
  | .seq a b=>ih (.sc a:: .sc b::K) s
  | .cond x a b=>match s.get x with
   | .bool t=>brT t (ih (.sc a::K) s) (ih (.sc b::K) s)
   | _=> .bad
  | .block id c=>ih (.sc c:: .blk id::K) s
  | .loop ts c=> .jmp (.sc c:: .sc (.loop ts c)::K) (s.canon bs ts)
  | .spec k=>match k with
   | .frg ts=> .jmp K (s.canon bs ts)
   | .pan ops=>Zeb tb (s.nx bs) ops s (fun s'=>ih K s') (fun v s'=>fin (pnc v) s')
   | .ord pre ops=>caOT tb (s.nx bs) pre 0 ops s (fun qs s'=>if (dchk (s.nx bs) pre ops (qs.map (·.1)) s && Zp false pre s (qs.map (·.1)) 0 qs)=true then intT (Z6p qs) (Zp true pre s (qs.map (·.1)) 0 qs) (ih K s') else .bad)
     (fun _ v qs=>if (dchk (s.nx bs) pre ops (qs.map (·.1)) s && Zp false pre s (qs.map (·.1)) 0 qs)=true then intT (Z6p qs) (Zp true pre s (qs.map (·.1)) 0 qs) (fin (pnc v) ⟨[],[]⟩) else .bad)
   | _=> .jmp (.sc (.spec k)::K) s
  | .rangeF N g ps a b =>
   let ob1:=rngS P s (s.nx bs) N ps a b
   let nm:=Z0q ⟨s.tm,ob1⟩ [s.get g,.yld (s.nx bs)]
   match s.get g with
   | .func (.func f) fa fc=>if Qu nm=true/\ZS P f=true then
     (match tb.C 0 ((s.get g).ren (idx · nm)) [(D.yld (s.nx bs)).ren (idx · nm)] (Zw ob1 (idx · nm) 0 nm) with
     | some rt=>rtT rt fun r ob'=>panT r (fun v=>fin (pnc v) ⟨s.tm,Z6 (s.nx bs) (St.back ⟨s.tm,ob1⟩ (s.nx bs+1) nm ob').ob⟩) <|
      let S:=St.back ⟨s.tm,ob1⟩ (s.nx bs+1) nm ob'
      match lk S.ob (s.nx bs) with
      | some (.gen (.loop st pend _ _ _ _ _) _)=>if st= .busy then .bad else (match pend with
       | none=>ih K ⟨s.tm,Z6 (s.nx bs) S.ob⟩
       | some .ret=>fin .ret ⟨s.tm,Z6 (s.nx bs) S.ob⟩
       | some (.exit i)=>match QX i K with
        | some K'=>ih K' ⟨s.tm,Z6 (s.nx bs) S.ob⟩
        | none=>fin (.exit i) ⟨s.tm,Z6 (s.nx bs) S.ob⟩
       | _=> .bad)
      | _=> .bad
     | none=> .jmp (.sc (.rangeF N g ps a b)::K) s) else .bad
   | _=> .bad
def goT (P:Program) (tb:Ctr) (bs:Nat) (fin:Exit->St->Tr) (n:Nat):List Fr->St->Tr:=Nat.rec (fun _ _=> .bad) (fun _ ih=>Qq P tb bs fin ih) n
theorem Zaw (tb:Ctr) (bs:Nat) (fin:Exit->St->Tr) (n:Nat):goT P tb bs fin (n+1)=Qq P tb bs fin (goT P tb bs fin n):=rfl
theorem Z8D {pu:Bool} {bs:Nat} {rs:List SR} {s:St} {R:D->Obs->Prop} {J:List Fr->St->Prop} (h:(endT pu bs rs s).ok R J): ∃ ds,rs.mapM (resD s)=some ds/\RetL bs (RE pu R) s (Qz ds):=by
 unfold endT at h
 split at h
 ·rename_i ds hds
  refine⟨ds,hds, ?_⟩
  cases pu with
  | true =>
   simp only at h
   split at h
   ·rename_i r hr; exact⟨r,hr,h⟩
   ·exact h.elim
  | false=>exact h
 ·exact h.elim
theorem Z02 {pu:Bool} {bs:Nat} {rs:List SR} {R:D->Obs->Prop} {J:List Fr->St->Prop} (e:Exit) (s:St) (h:(finF pu bs rs e s).ok R J):FinQ pu bs rs R e s:=by
 cases e <;> try first | exact Z8D h | exact h.elim
 simp only[finF,panF] at h
 split at h
 ·rename_i v
  cases pu with
  | true=>exact h.elim
  | false=>exact⟨v,rfl,h⟩
 ·exact h.elim
theorem Z1a: ∀ {n m bs:Nat} {K:List Fr} {s:St} {Q:Exit->St->Prop},n<=m->swF P n bs K s Q->swF P m bs K s Q
 | 0,_,_,_,_,_,_,h=>h.elim
 | n+1,0,_,_,_,_,hle,_=>by omega
 | n+1,m+1,bs,K,s,Q,hle,h=>by
  have up: ∀ {K' s'},swF P n bs K' s' Q->swF P m bs K' s' Q:=fun h=>Z1a (by omega) h
  match K,h with
  | [],h=>exact h
  | .blk _::K,h=>exact up h
  | .sc c::K,h =>
   cases c with
   | skip=>exact up h
   | ret=>exact h
   | exit i =>
    simp only[swF] at h ⊢
    split
    ·rename_i hp; rw[hp] at h; exact up h
    ·rename_i hp; rw[hp] at h; exact h
   | reg ops=>exact QO (K:=fun s'=>swF P n bs K s' Q) h fun s' hs=>up hs
   | drw pre ops=>obtain⟨es,s',h1,h2,h3⟩:=h; exact⟨es,s',h1,h2,up h3⟩
   | seq a b=>exact up h
   | cond x a b =>
    simp only[swF] at h ⊢
    split at h
    ·exact up h
    ·exact h.elim
   | block id c=>exact up h
   | loop ts c=>exact up h
   | spec k =>
    simp only[swF] at h ⊢
    refine Z2L h fun e s' he=> ?_
    cases e <;> try exact he
    ·exact up he
    ·simp only at he ⊢
     split at he
     ·exact up he
     ·exact he
   | rangeF N g ps a b =>
    simp only[swF] at h ⊢
    refine Zl h fun e s' he=> ?_
    cases e <;> try exact he
    ·exact up he
    ·simp only at he ⊢
     split at he
     ·exact up he
     ·exact he
theorem Tr.ok_mono {R:D->Obs->Prop} {J J':List Fr->St->Prop} (h: ∀ K s,J K s->J' K s): ∀ {T:Tr},T.ok R J->T.ok R J'
 | .ret _ _,ht=>ht
 | .jmp _ _,ht=>h _ _ ht
 | .owe _ x,ht=>⟨ht.1,Tr.ok_mono h ht.2⟩
 | .bad,ht=>ht
theorem Tr.ok_at {R:D->Obs->Prop} {J:List Fr->St->Prop} {A:Nat->List Fr->St->Prop} (h: ∀ K s,J K s-> ∃ n,A n K s): ∀ {T:Tr},T.ok R J-> ∃ n,T.ok R fun K s=>J K s/\A n K s
 | .ret _ _,ht=>⟨0,ht⟩
 | .jmp K s,ht=>by
  obtain⟨n,hn⟩:=h K s ht
  exact⟨n,ht,hn⟩
 | .owe _ x,ht=>by
  obtain⟨n,hn⟩:=Tr.ok_at h ht.2
  exact⟨n,ht.1,hn⟩
 | .bad,ht=>ht.elim
theorem Z6z {tb:Ctr} (htb:tb.OK P) {bs:Nat} {fin:Exit->St->Tr} {R:D->Obs->Prop} {J:List Fr->St->Prop} {Q:Exit->St->Prop} {m:Nat} {ih:List Fr->St->Tr} (hfin: ∀ e s,(fin e s).ok R J->Q e s) (hJ: ∀ K s,J K s->swF P m bs K s Q)
  (up: ∀ {K s},(ih K s).ok R J->swF P m bs K s Q) {K:List Fr} {s:St} (h:(Qq P tb bs fin ih K s).ok R J):swF P (m+1) bs K s Q:=by
  match K,h with
  | [],h=>exact hfin _ _ h
  | .blk _::K,h=>exact up h
  | .sc c::K,h =>
   cases c with
   | skip=>exact up h
   | ret=>exact hfin _ _ h
   | exit i =>
    simp only[Qq] at h
    split at h
    ·rename_i K' hp
     simp only[swF,hp]; exact up h
    ·rename_i hp
     simp only[swF,hp]; exact hfin _ _ h
   | reg ops =>
    simp only[Qq] at h
    obtain⟨s',h1,h2⟩:=Z1q htb h
    exact h1 _ (up h2)
   | drw pre ops =>
    simp only[Qq] at h
    obtain⟨es,s',h1,h2⟩:=Z8W htb h
    split at h2
    ·rename_i hd
     exact⟨es,s',h1,hd,up h2⟩
    ·exact h2.elim
   | seq a b=>exact up h
   | cond x a b =>
    simp only[Qq] at h
    split at h
    ·rename_i t hx
     rcases Z3T h with ⟨rfl,h⟩ | ⟨rfl,h⟩
     ·simp only[swF,hx,if_true]; exact up h
     ·simp only[swF,hx]; exact up h
    ·exact h.elim
   | block id c=>exact up h
   | loop ts c =>
    have h1:=hJ _ _ h
    show swF P m bs (.sc c:: .sc (.loop ts c)::K) (s.canon bs ts) Q
    exact h1
   | spec k =>
    cases k with
    | frg ts=>exact hJ _ _ h
    | pan ops =>
     simp only[Qq] at h
     rcases Z5m htb h with ⟨s',h1,h2⟩ | ⟨v,s',h1,h2⟩
     ·exact h1 _ _ (up h2)
     ·exact h1 _ _ (hfin _ _ h2)
    | ord pre ops =>
     simp only[Qq] at h
     rcases Z8X htb h with ⟨qs,s',h1,h2⟩ | ⟨c,v,qs,s',_,hc,h1,h2⟩
     ·split at h2
      ·rename_i hd
       simp only[Bool.and_eq_true] at hd
       exact⟨none,qs,s',h1,hd.1,⟨hd.2,(Z30 Qa h2).2⟩,up (Z30 Qa h2).1⟩
      ·exact h2.elim
     ·split at h2
      ·rename_i hd
       simp only[Bool.and_eq_true] at hd
       exact⟨some (c,v),qs,s',h1,hd.1,⟨hd.2,(Z30 Qa h2).2⟩,by omega,hfin _ _ (Z30 Qa h2).1⟩
      ·exact h2.elim
    | _=>exact Z1a (Nat.le_succ m) (hJ _ _ h)
   | rangeF N g ps a b =>
    simp only[Qq] at h
    split at h
    ·rename_i f fa fc hg
     split at h
     ·rename_i hc
      split at h
      ·rename_i rt hrt
       obtain⟨r,ob',hcall,hk⟩:=Z0Y (htb.C _ _ _ _ _ hrt) h
       rcases Z1o hk with ⟨hpn,hk⟩ | ⟨v,rfl,hk⟩
       case inr =>
        refine⟨_,_,Ze hc.1,fun i hi=>Zo (s:=⟨s.tm,rngS P s (s.nx bs) N ps a b⟩) i hi,⟨f,fa,fc,hg,hc.2⟩,hcall, ?_⟩
        rintro r0 ob0 ⟨rfl,rfl⟩
        exact .inl ⟨v,rfl,hfin _ _ hk⟩
       split at hk
       ·rename_i st pend _ _ _ _ _ _ hl
        split at hk
        ·exact hk.elim
        ·rename_i hst
         have fin:(match pend with
           | none=>swF P m bs K ⟨s.tm,Z6 (s.nx bs) (St.back ⟨s.tm,rngS P s (s.nx bs) N ps a b⟩ (s.nx bs+1) (Z0q ⟨s.tm,rngS P s (s.nx bs) N ps a b⟩ [s.get g,.yld (s.nx bs)]) ob').ob⟩ Q
           | some .ret=>Q .ret ⟨s.tm,Z6 (s.nx bs) (St.back ⟨s.tm,rngS P s (s.nx bs) N ps a b⟩ (s.nx bs+1) (Z0q ⟨s.tm,rngS P s (s.nx bs) N ps a b⟩ [s.get g,.yld (s.nx bs)]) ob').ob⟩
           | some (.exit i)=>(match QX i K with
            | some K'=>swF P m bs K' ⟨s.tm,Z6 (s.nx bs) (St.back ⟨s.tm,rngS P s (s.nx bs) N ps a b⟩ (s.nx bs+1) (Z0q ⟨s.tm,rngS P s (s.nx bs) N ps a b⟩ [s.get g,.yld (s.nx bs)]) ob').ob⟩ Q
            | none=>Q (.exit i) ⟨s.tm,Z6 (s.nx bs) (St.back ⟨s.tm,rngS P s (s.nx bs) N ps a b⟩ (s.nx bs+1) (Z0q ⟨s.tm,rngS P s (s.nx bs) N ps a b⟩ [s.get g,.yld (s.nx bs)]) ob').ob⟩)
           | _=>False)->swF P (m+1) bs (.sc (.rangeF N g ps a b)::K) s Q:=fun hm=>by
          refine⟨_,_,Ze hc.1,fun i hi=>Zo (s:=⟨s.tm,rngS P s (s.nx bs) N ps a b⟩) i hi,⟨f,fa,fc,hg,hc.2⟩,hcall, ?_⟩
          rintro r0 ob0 ⟨rfl,rfl⟩
          refine .inr ⟨hpn,st,pend,_,_,_,_,_,_,hl,hst, ?_⟩
          split at hm
          ·exact hm
          ·exact hm
          ·exact hm
          ·exact hm.elim
         cases pend with
         | none=>exact fin (up hk)
         | some c0 =>
          cases c0 <;> try exact hk.elim
          ·rename_i i0
           simp only at hk
           refine fin ?_
           simp only
           split at hk
           ·exact up hk
           ·exact hfin _ _ hk
          ·exact fin (hfin _ _ hk)
       ·exact hk.elim
      ·exact Z1a (Nat.le_succ m) (hJ _ _ h)
     ·exact h.elim
    ·exact h.elim
theorem ZgR {tb:Ctr} (htb:tb.OK P) {bs:Nat} {fin:Exit->St->Tr} {R:D->Obs->Prop} {J:List Fr->St->Prop} {Q:Exit->St->Prop} {n0:Nat} (hfin: ∀ e s,(fin e s).ok R J->Q e s) (hJ: ∀ K s,J K s->swF P n0 bs K s Q) :
  ∀ {n:Nat} {K:List Fr} {s:St},(goT P tb bs fin n K s).ok R J->swF P (n0+n) bs K s Q
 | 0,K,s,h=>h.elim
 | n+1,K,s,h=>by
  rw[Zaw] at h
  exact Z6z htb hfin (fun K s hj=>Z1a (Nat.le_add_right _ _) (hJ K s hj)) (fun h=>ZgR htb hfin hJ h) h
theorem Z1B {tb:Ctr} (htb:tb.OK P) {bs:Nat} {fin:Exit->St->Tr} {R:D->Obs->Prop} {J:List Fr->St->Prop} {Q:Exit->St->Prop} (hfin: ∀ e s,(fin e s).ok R J->Q e s) (hJ: ∀ K s,J K s->At P bs K s Q)
  {n:Nat} {K:List Fr} {s:St} (h:(goT P tb bs fin n K s).ok R J):At P bs K s Q:=by
 obtain⟨n0,h0⟩:=Tr.ok_at (A:=fun n K s=>swF P n bs K s Q) hJ h
 exact⟨_,ZgR htb (fun e s hf=>hfin e s (Tr.ok_mono (fun _ _ h=>h.1) hf)) (fun _ _ h=>h.2) h0⟩
def SC.tl:SC->Nat->SC
 | c,0=>c
 | .seq _ b,n+1=>b.tl n
 | c,_+1=>c
def frgs:SC->List Fr->List (List Fr)
 | .seq (.spec (.frg _)) b,K=>(.sc b::K)::frgs b K
 | .seq a b,K=>frgs a (.sc b::K)++frgs b K
 | .cond _ a b,K=>frgs a K++frgs b K
 | .block id c,K=>frgs c (.blk id::K)
 | .loop ts c,K=>frgs c (.sc (.loop ts c)::K)
 | _,_=>[]
def frg (sc:SC) (n:Nat):List Fr:=(frgs sc []).getD n []
theorem At.tree {tb:Ctr} (htb:tb.OK P) {pu:Bool} {bs:Nat} {rs:List SR} {R:D->Obs->Prop} {n:Nat} {K:List Fr} {s:St} {T:Tr} (e:goT P tb bs (finF pu bs rs) n K s=T)
  (h:T.ok R (fun K s=>At P bs K s (FinQ pu bs rs R))):At P bs K s (FinQ pu bs rs R):=Z1B htb Z02 (fun _ _ h=>h) (e ▸ h)
theorem Z6L {bs:Nat} {sc:SC} {s:St} {Q:Exit->St->Prop} (h:At P bs [.sc sc] s Q):sw P bs sc Q s:=by
 obtain⟨n,hn⟩:=h
 refine Zl (Z7c n bs sc [] s Q hn) fun ex s1 ⟨m,_,hr⟩=> ?_
 cases ex <;> simp only[Ze5,QX] at hr
 ·cases m with
  | zero=>cases hr
  | succ m=>exact hr
 ·exact hr
 ·exact hr
 ·exact hr
theorem FnOK.at[CodesOf P] (Z5:DrawSound P) {f:FuncId} {N:Nat} {sc:SC} {rs:List SR} (hf:FnC P f N sc rs/\ZS P f=true) {args:List D} {r:D}
  (h:At P 0 [.sc sc] ⟨Zc 0 args,[]⟩ (FinQ true 0 rs (fun d _=>d=r))) (hlen:Nat.ble args.length N=true:=by rfl):FnOK P f args r:=by
 have hlen:=Nat.le_of_ble_eq_true hlen
 have hsw:=Z6L h
 refine FnOK.of_call hf.2 (CallL.fn Z5 hf.1 hf.2 (first:=[]) (caps:=[]) 0 (Nat.le_refl _) (by simpa using hlen) ?_)
 have conv: ∀ (s:St) (d:D),RetL 0 (RE true (fun d _=>d=r)) s d->RetL 0 (RetK r) s d:=by
  rintro s d ⟨r',hr',rfl⟩
  unfold retE at hr'
  unfold RetL RetK
  split at hr'
  ·rename_i id hid
   split at hr'
   ·rename_i sz e es hl
    cases hr'
    exact .inl ⟨id,sz,e,es,hid,hl,rfl⟩
   ·cases hr'
  ·split at hr'
   ·rename_i hclo
    cases hr'
    exact .inr ⟨hclo,rfl⟩
   ·cases hr'
 rw[List.nil_append,List.append_nil]
 refine Zl hsw fun ex s1 hq=> ?_
 cases ex <;> simp only[FinQ,EndQ] at hq ⊢
 ·obtain⟨ds,hds,hr⟩:=hq; exact⟨ds,hds,conv _ _ hr⟩
 ·obtain⟨ds,hds,hr⟩:=hq; exact⟨ds,hds,conv _ _ hr⟩
 ·obtain⟨v,rfl,hr⟩:=hq; exact⟨v,rfl,conv _ _ hr⟩
theorem FnOK.tree [CodesOf P] (Z5:DrawSound P) {f:FuncId} {N:Nat} {sc:SC} {rs:List SR} (hf:FnC P f N sc rs/\ZS P f=true) {tb:Ctr} (htb:tb.OK P) {n:Nat} {args:List D} {r:D} {T:Tr}
  (e:goT P tb 0 (finF true 0 rs) n [.sc sc] ⟨Zc 0 args,[]⟩=T) (h:T.ok (fun d _=>d=r) (fun K s=>At P 0 K s (FinQ true 0 rs (fun d _=>d=r)))) (hlen:Nat.ble args.length N=true:=by rfl):FnOK P f args r :=
 FnOK.at Z5 hf (Z1B htb Z02 (fun _ _ h=>h) (e ▸ h)) hlen
theorem CallL.tree [CodesOf P] (Z5:DrawSound P) {f:FuncId} {N:Nat} {sc:SC} {rs:List SR} (hf:FnC P f N sc rs/\ZS P f=true) {tb:Ctr} (htb:tb.OK P) {n bs:Nat} {first args caps:List D} {ob:Obs} {R:D->Obs->Prop} {T:Tr}
  (e:goT P tb bs (finF false bs rs) n [.sc sc] ⟨Zc 0 (first++args++caps),ob⟩=T) (h:T.ok R (fun K s=>At P bs K s (FinQ false bs rs R))) (hlen:Nat.ble (first++args++caps).length N=true:=by rfl) (hbs:Nat.ble (Obs.top ob) bs=true:=by rfl):CallL P (.func (.func f) first caps) args ob R:=by
 have hlen:=Nat.le_of_ble_eq_true hlen
 have hbs:=Nat.le_of_ble_eq_true hbs
 have hsw:=Z6L (Z1B htb Z02 (fun _ _ h=>h) (e ▸ h))
 refine CallL.reordG (CallL.fn Z5 hf.1 hf.2 bs hbs hlen ?_)
 refine Zl hsw fun ex s1 hq=> ?_
 cases ex <;> simp only[FinQ,RE,EndQ] at hq ⊢ <;> exact hq
end
def finY (k rid N:Nat) (ps:Array Tmp) (a b:SC) (keys:List Nat) (ds:List D):Exit->St->Tr:=fun e s=>match Zad e with
 | some pend=>if (lk s.ob rid).isNone=true then .ret (.bool pend.isNone) (Z0K ((rid,.gen (.loop (if pend.isNone then .ready else .done) pend ps a b N keys) ds)::(s.canon k []).ob)) else .bad
 | none=> .bad
def yldT (P:Program) (tb:Ctr) (k rid N:Nat) (ps:Array Tmp) (a b:SC) (keys:List Nat) (ds:List D) (n:Nat) (s:St):Tr :=
 goT P tb k (fun e s=>match e with
  | .normal=>goT P tb k (finY k rid N ps a b keys ds) n [.sc b] s
  | _=> .bad) n [.sc a] s
section
variable {P:Program}
theorem CallL.yldT [CodesOf P] (Z5:DrawSound P) {tb:Ctr} (htb:tb.OK P) {n k rid N:Nat} {ps:Array Tmp} {a b:SC} {keys:List Nat} {ds args:List D} {ob:Obs} {R:D->Obs->Prop} {T:Tr}
  (hrec:lk ob rid=some (.gen (.loop .ready none ps a b N keys) ds)) (e:Sx.yldT P tb k rid N ps a b keys ds n ⟨putP (ps.toList.zip args) (keys.zip ds),Z6 rid ob⟩=T)
  (h:T.ok R (fun _ _=>False)) (hk:Nat.ble (Obs.top ob) k=true:=by rfl) (hps:ps.size=args.length:=by rfl) (hpN:(ps.toList.all fun t=>decide (t<N))=true:=by rfl):CallL P (.yld rid) args ob R:=by
 have hk:=Nat.le_of_ble_eq_true hk
 refine CallL.reordG (CallL.yld Z5 k hk hrec hps (fun t ht=>by simpa using List.all_eq_true.1 hpN t ht) ?_)
 have h':(Sx.yldT P tb k rid N ps a b keys ds n ⟨putP (ps.toList.zip args) (keys.zip ds),Z6 rid ob⟩).ok R (fun _ _=>False):=e ▸ h
 unfold Sx.yldT at h'
 refine Z6L (Z1B htb (fun e s hf=> ?_) (fun _ _ h=>h.elim) h')
 cases e <;> try exact hf.elim
 refine Z6L (Z1B htb (fun e s hf=> ?_) (fun _ _ h=>h.elim) hf)
 unfold finY at hf
 split at hf
 ·rename_i pend hpe
  split at hf
  ·rename_i hn
   refine⟨by simpa using hn, ?_⟩
   cases e <;> simp only[Zad,Option.some.injEq,reduceCtorEq] at hpe <;> (subst hpe; exact hf)
  ·exact hf.elim
 ·exact hf.elim
end
def cuts:SC->List Fr->List (List Fr)
 | .seq a b,K=>cuts a (.sc b::K)++cuts b K
 | .cond _ a b,K=>cuts a K++cuts b K
 | .block id c,K=>cuts c (.blk id::K)
 | .loop ts c,K=>(.sc c:: .sc (.loop ts c)::K)::cuts c (.sc (.loop ts c)::K)
 | _,_=>[]
def cut (sc:SC) (n:Nat):List Fr:=(cuts sc []).getD n []
def spcs:SC->List Fr->List (List Fr)
 | .seq a b,K=>spcs a (.sc b::K)++spcs b K
 | .cond _ a b,K=>spcs a K++spcs b K
 | .block id c,K=>spcs c (.blk id::K)
 | .loop ts c,K=>spcs c (.sc (.loop ts c)::K)
 | .spec k,K=>[.sc (.spec k)::K]
 | _,_=>[]
def spc (sc:SC) (n:Nat):List Fr:=(spcs sc []).getD n []
def aft (sc:SC) (n:Nat):List Fr:=(spc sc n).tail
def SC.rngs:SC->List (SC × SC)
 | .seq a b=>a.rngs++b.rngs
 | .cond _ a b=>a.rngs++b.rngs
 | .block _ c=>c.rngs
 | .loop _ c=>c.rngs
 | .rangeF _ _ _ a b=>(a,b)::(a.rngs++b.rngs)
 | _=>[]
def SC.rngA (sc:SC) (n:Nat):SC:=(sc.rngs.getD n (.skip,.skip)).1
def SC.rngB (sc:SC) (n:Nat):SC:=(sc.rngs.getD n (.skip,.skip)).2
end Go.Sx
/- WHAT COMES IN WITH TERMS IN IT: structs and slices over terms,as plain data. -/
namespace Go.Sx
open Go.RowKit Go.Deep Go.ChangeShapes Go.WideShapes
inductive ShT where
 | bool
 | int (k:IntKind)
 | str
 | tms
 | slice (e:List ShT)
mutual
def ShT.fit (B:Nat):ShT->D->Prop
 | .bool,d=> ∃ b,d= .bool b
 | .int k,d=> ∃ n,d= .int k n/\(Lit.int k n).wf=true
 | .str,d=> ∃ s,d= .str s/\s.length<=B
 | .tms,d=> ∃ l,d= .slice (Tm.cellsL l) []/\l.length<=B/\Tm.wfL B l
 | .slice l,d=> ∃ es,d= .slice es []/\es.length<=B/\ ∀ e,e∈es->ShT.fits B l e
def ShT.fits (B:Nat):List ShT->List D->Prop
 | [],ds=>ds=[]
 | s::r,ds=> ∃ d t,ds=d::t/\ShT.fit B s d/\ShT.fits B r t
end
variable {H:Type} {enc:TypeId × Value->H} {P:Program} {w:World}
section
variable [Globs] [Codes]
end
end Go.Sx
/- TERMS COMPARED,in plain words. -/
namespace Go.Sx
def ncmp (a b:Int):Int:=if a<b then -1 else if b<a then 1 else 0
def rkI (k:Int):Int:=if k=1 then 0 else if k=2 then 1 else if k=4 then 2 else if k=3 then 3 else if k=5 then 4 else if k=6 then 5 else 6+k
def fst0:List Int->Int
 | []=>0
 | x::r=>if x≠0 then x else fst0 r
mutual
def Tm.cmp:Tm->Tm->Int
 | .mk k n s l,b=>match b with
  | .mk k' n' s' l'=>fst0 [ncmp (rkI k) (rkI k'),if k=1 then ncmp n n' else 0,ncmp l.length l'.length,Lib.compareBytes s s',Tm.cmpL l l',ncmp n n']
def Tm.cmpL:List Tm->List Tm->Int
 | [],q=>match q with
  | []=>0
  | _::_=> -1
 | a::r,q=>match q with
  | []=>1
  | b::q=>if a.cmp b≠0 then a.cmp b else Tm.cmpL r q
end
mutual
def Tm.sz:Tm->Int->Int
 | .mk _ _ _ l,m=>1+Tm.szL l (m-1) 0
def Tm.szL:List Tm->Int->Int->Int
 | [],m,n=>n
 | a::r,m,n=>if n<=m then Tm.szL r m (n+a.sz (m-n)) else n
end
end Go.Sx
namespace Go.Sx
mutual
def Tm.few (N:Nat):Tm->Prop
 | .mk _ _ _ l=>l.length<=N/\Tm.fewL N l
def Tm.fewL (N:Nat):List Tm->Prop
 | []=>True
 | a::r=>a.few N/\Tm.fewL N r
end
end Go.Sx
/- Zjl laws on bytes and lists. -/
namespace Go.Sx
def Z9 (p:UInt8->Bool) (s:List UInt8) (i:Nat):Nat:=i+((s.drop i).takeWhile p).length
theorem Z0L {p:UInt8->Bool} {s:List UInt8} {i:Nat} (h:i<s.length) (hp:p (s.getD i 0)=true):Z9 p s i=Z9 p s (i+1):=by
 unfold Z9
 rw[List.drop_eq_getElem_cons h,List.takeWhile_cons]
 rw[List.getD_eq_getElem?_getD,List.getElem?_eq_getElem h,Option.getD_some] at hp
 rw[if_pos hp,List.length_cons]
 omega
theorem Z2b {p:UInt8->Bool} {s:List UInt8} {i:Nat} (h:i<s.length) (hp:p (s.getD i 0)=false):Z9 p s i=i:=by
 unfold Z9
 rw[List.drop_eq_getElem_cons h,List.takeWhile_cons]
 rw[List.getD_eq_getElem?_getD,List.getElem?_eq_getElem h,Option.getD_some] at hp
 rw[if_neg (by simp[hp])]
 simp
theorem Z3w {p:UInt8->Bool} {s:List UInt8} {i:Nat} (h:s.length<=i):Z9 p s i=i:=by
 unfold Z9
 rw[List.drop_eq_nil_of_le h]; simp
theorem Z2S (p:UInt8->Bool) (s:List UInt8) (i:Nat):i<=Z9 p s i:=by unfold Z9; omega
theorem Z1l {p:UInt8->Bool} {s:List UInt8} {i:Nat} (h:i<=s.length):Z9 p s i<=s.length:=by
 unfold Z9
 have:=(List.takeWhile_sublist (l:=s.drop i) p).length_le
 rw[List.length_drop] at this
 omega
theorem Z6l (p:UInt8->Bool) (s:List UInt8) (i:Nat):(s.take (Z9 p s i)).drop i=(s.drop i).takeWhile p:=by
 unfold Z9
 rw[List.drop_take,Nat.add_sub_cancel_left]
 exact (List.prefix_iff_eq_take.1 (List.takeWhile_prefix p)).symm
theorem Z4K (s:List UInt8) (i:Nat):0<=((s.getD i 0).toNat:Int)/\((s.getD i 0).toNat:Int)<256:=by
 have:=(s.getD i 0).toNat_lt
 omega
end Go.Sx
/- The lexer,plainly. -/
namespace Go.Sx.Lx
open Go.Sx
def isLow (b:UInt8):Bool:=decide (97<=b.toNat) && decide (b.toNat<=122)
def isUp (b:UInt8):Bool:=decide (65<=b.toNat) && decide (b.toNat<=90)
def isDig (b:UInt8):Bool:=decide (48<=b.toNat) && decide (b.toNat<=57)
def isLet (b:UInt8):Bool:=isLow b || isUp b
def isUnd (b:UInt8):Bool:=b == 95
def isName (b:UInt8):Bool:=isLet b || isDig b || isUnd b
def isBlank (b:UInt8):Bool:=b == 32 || b == 9 || b == 10 || b == 13
def inLine (b:UInt8):Bool:= !(b == 10)
def skp:Bool->List UInt8->Nat
 | _,[]=>0
 | false,b::r=>if isBlank b then 1+skp false r else if b == 37 then 1+skp true r else 0
 | true,b::r=>if b == 10 then 1+skp false r else 1+skp true r
theorem QP: ∀ (c:Bool) (l:List UInt8),skp c l<=l.length
 | _,[]=>by simp[skp]
 | false,b::r=>by
  simp only[skp]
  have h1:=QP false r
  have h2:=QP true r
  repeat' split
  all_goals simp only[List.length_cons]; omega
 | true,b::r=>by
  simp only[skp]
  have h1:=QP false r
  have h2:=QP true r
  repeat' split
  all_goals simp only[List.length_cons]; omega
theorem Z3n: ∀ l:List UInt8,skp false l=(l.takeWhile isBlank).length+skp false (l.drop (l.takeWhile isBlank).length)
 | []=>rfl
 | b::r=>by
  cases hb:isBlank b with
  | true =>
   rw[List.takeWhile_cons,if_pos hb]
   simp only[List.length_cons,List.drop_succ_cons]
   rw[show skp false (b::r)=1+skp false r by simp[skp,hb],Z3n r]
   omega
  | false=>rw[List.takeWhile_cons,if_neg (by simp[hb])]; simp
theorem Z5g: ∀ l:List UInt8,skp true l=(l.takeWhile inLine).length+skp false (l.drop (l.takeWhile inLine).length)
 | []=>rfl
 | b::r=>by
  cases hb:inLine b with
  | true =>
   rw[List.takeWhile_cons,if_pos hb]
   simp only[List.length_cons,List.drop_succ_cons]
   have h:(b == 10)=false:=by simpa [inLine] using hb
   rw[show skp true (b::r)=1+skp true r by simp[skp,h],Z5g r]
   omega
  | false =>
   rw[List.takeWhile_cons,if_neg (by simp[hb])]
   have h:b=10:=by simpa [inLine] using hb
   subst h
   simp[skp,isBlank]
theorem ZcE {l:List UInt8} (h:l.head? = some 37):skp false l=(l.takeWhile inLine).length+skp false (l.drop (l.takeWhile inLine).length):=by
 cases l with
 | nil=>cases h
 | cons b r =>
  simp only[List.head?_cons,Option.some.injEq] at h
  subst h
  rw[show skp false (37::r)=1+skp true r by simp[skp,isBlank],List.takeWhile_cons,if_pos (by decide),Z5g r]
  simp only[List.length_cons,List.drop_succ_cons]
  omega
theorem Z9V {l:List UInt8} (h: ∀ b,l.head? = some b->isBlank b=false/\b≠37):skp false l=0:=by
 cases l with
 | nil=>rfl
 | cons b r =>
  obtain⟨h1,h2⟩:=h b rfl
  simp[skp,h1,h2]
def skipTo (s:List UInt8) (i:Nat):Nat:=i+skp false (s.drop i)
theorem skipTo_len {s:List UInt8} {i:Nat} (h:i<=s.length):skipTo s i<=s.length:=by
 have:=QP false (s.drop i)
 rw[List.length_drop] at this
 unfold skipTo; omega
theorem skipTo_blank (s:List UInt8) (i:Nat):skipTo s i=skipTo s (Z9 isBlank s i):=by
 unfold skipTo Z9
 rw[Z3n (s.drop i),List.drop_drop]
 omega
theorem skipTo_cmt {s:List UInt8} {i:Nat} (h:i<s.length) (hb:s.getD i 0=37):skipTo s i=skipTo s (Z9 inLine s i):=by
 unfold skipTo Z9
 rw[List.getD_eq_getElem?_getD,List.getElem?_eq_getElem h,Option.getD_some] at hb
 rw[ZcE (by rw[List.head?_drop,List.getElem?_eq_getElem h,hb]),List.drop_drop]
 omega
theorem Z7w {p:UInt8->Bool} {s:List UInt8} {i:Nat} (h:Z9 p s i<s.length):p (s.getD (Z9 p s i) 0)=false:=by
 suffices ∀ (l:List UInt8),(l.takeWhile p).length<l.length->p (l.getD (l.takeWhile p).length 0)=false by
  have h2:=this (s.drop i) (by unfold Z9 at h; rw[List.length_drop]; omega)
  unfold Z9
  simpa [List.getD,List.getElem?_drop] using h2
 intro l
 induction l with
 | nil=>intro h; simp at h
 | cons b r ih =>
  intro h
  rw[List.takeWhile_cons] at h ⊢
  split
  ·rename_i hb
   rw[if_pos hb] at h
   simpa using ih (by simpa using h)
  ·rename_i hb; simpa using hb
theorem skipTo_stop {s:List UInt8} {i:Nat} (h:Z9 isBlank s i=s.length\/s.getD (Z9 isBlank s i) 0≠37) (hi:i<=s.length):skipTo s i=Z9 isBlank s i:=by
 rw[skipTo_blank]
 have hl:=Z1l (p:=isBlank) hi
 unfold skipTo
 rw[Z9V]
 ·omega
 ·intro b hb
  rw[List.head?_drop] at hb
  obtain⟨hlt,hbe⟩:=List.getElem?_eq_some_iff.1 hb
  have hg:s.getD (Z9 isBlank s i) 0=b:=by rw[List.getD_eq_getElem?_getD,hb]; rfl
  refine⟨?_, ?_⟩
  ·have:=Z7w (p:=isBlank) hlt
   rwa [hg] at this
  ·rcases h with h | h
   ·omega
   ·rwa [hg] at h
end Go.Sx.Lx
namespace Go.Sx.Lx
def wordB (first:UInt8->Bool) (s:List UInt8):Bool:=match s.dropWhile isUnd with
 | []=>false
 | b::r=>first b && (b::r).all isName && decide (s.length<=32)
def notS:List UInt8:=[110,111,116]
def symbolB (s:List UInt8):Bool:=wordB isLow s && decide (s≠notS)
def variableB (s:List UInt8):Bool:=wordB isUp s || (match s with
 | 95::r=>r.all isDig && decide (s.length<=32)
 | _=>false)
end Go.Sx.Lx
namespace Go.Sx
def strC (l:List (List UInt8)):List (List D):=l.map fun t=>[D.str t]
theorem Z5c {l:List (List UInt8)} {i:Nat} (h:i<l.length):(strC l)[i]? = some [D.str (l.getD i [])]:=by
 unfold strC
 rw[List.getElem?_map,List.getElem?_eq_getElem h]
 simp[List.getD,h]
theorem Z07 (l:List (List UInt8)):(strC l).length=l.length:=by simp[strC]
def idxS (t:List UInt8):List (List UInt8)->Int->Int
 | [],_=> -1
 | x::r,i=>if t=x then i else idxS t r (i+1)
theorem Z5A (t:List UInt8): ∀ (l:List (List UInt8)) (i:Int),0<=i->(0<=idxS t l i ↔ t∈l)
 | [],i,h=>by simp[idxS]
 | x::r,i,h=>by
  simp only[idxS,List.mem_cons]
  split
  ·rename_i e; simp[e,h]
  ·rename_i e; rw[Z5A t r (i+1) (by omega)]; simp[e]
theorem Z03 {α:Type} {l:List α} {d:α} {i:Nat} (h:i<l.length):l.drop i=l.getD i d::l.drop (i+1):=by
 rw[List.drop_eq_getElem_cons h]; simp[List.getD,h]
end Go.Sx
namespace Go.Sx.Lx
def signL:List (List UInt8):=[[58,45],[58,126],[58],[46,46],[46],[44],[59],[124],[40],[41],[123],[125],[91],[93],[61],[33,61],[60,61],[62,61],[60],[62],[43],[45],[42],[47],[92],[64]]
def signOf (s:List UInt8):List UInt8:=(signL.find? (·.isPrefixOf s)).getD []
end Go.Sx.Lx
namespace Go.Sx.Lx
def wordK (s:List UInt8):Int × Int:=if s=notS then (4,0) else if symbolB s=true then (1,0) else if variableB s=true then (2,0) else (0,31)
def dirs:List (List UInt8):=[[35,99,111,110,115,116],[35,115,104,111,119],[35,109,105,110,105,109,105,122,101],[35,99,111,117,110,116],[35,115,117,109]]
def numE (s:List UInt8):Int:=match Lib.atoiAll s with
 | .ok n=>if 2147483647<n then 32 else if Lib.itoa n=s then 0 else 32
 | _=>32
def tok (s:List UInt8):Int × List UInt8 × Int:=match s with
 | []=>(0,[],0)
 | b::r =>
  if isLet b || isUnd b then ((wordK (s.takeWhile isName)).1,s.takeWhile isName,(wordK (s.takeWhile isName)).2)
  else if isDig b then (3,s.takeWhile isDig,numE (s.takeWhile isDig))
  else if b == 35 then (5,35::r.takeWhile isLet,if 35::r.takeWhile isLet∈dirs then 0 else 31)
  else (6,signOf s,if signOf s=[] then 30 else 0)
end Go.Sx.Lx
namespace Go.Sx.Lx
abbrev Tk:=Int × List UInt8 × Int
def tokC (t:Tk):List D:=[.int .u8 t.1,.str t.2.1,.int .i64 t.2.2]
theorem Z0v {p:UInt8->Bool} {b:UInt8} {r:List UInt8} (h:p b=true):0<((b::r).takeWhile p).length:=by
 rw[List.takeWhile_cons,if_pos h]; simp
theorem tok_pos {l:List UInt8} (hl:l≠[]) (h:(tok l).2.2=0):0<(tok l).2.1.length:=by
 cases l with
 | nil=>exact absurd rfl hl
 | cons b r =>
  unfold tok at h ⊢
  simp only at h ⊢
  split
  ·rename_i hb; exact Z0v (by simp only[isName]; simp only[Bool.or_eq_true] at hb ⊢; rcases hb with h | h <;> simp[h])
  split
  ·rename_i hb; exact Z0v hb
  split
  ·simp
  ·rename_i h1 h2 h3
   rw[if_neg h1,if_neg h2,if_neg h3] at h
   simp only at h
   by_cases hs:signOf (b::r)=[]
   ·rw[if_pos hs] at h; cases h
   ·exact List.length_pos_iff.2 hs
theorem tok_len (l:List UInt8):(tok l).2.1.length<=l.length:=by
 cases l with
 | nil=>simp[tok]
 | cons b r =>
  unfold tok
  simp only
  split
  ·exact (List.takeWhile_sublist _).length_le
  split
  ·exact (List.takeWhile_sublist _).length_le
  split
  ·simpa using (List.takeWhile_sublist (l:=r) isLet).length_le
  ·simp only[signOf]
   cases hf:signL.find? (·.isPrefixOf (b::r)) with
   | none=>simp
   | some s =>
    have:=List.find?_some hf
    exact (List.isPrefixOf_iff_prefix.1 this).length_le
def toksF:Nat->Nat->List UInt8->List Tk × Option (Nat × Int) × Nat
 | 0,o,_=>([],none,o)
 | _+1,o,[]=>([],none,o)
 | f+1,o,b::r =>
  if (tok (b::r)).2.2=0 then
   let n:=(tok (b::r)).2.1.length
   let k:=skp false ((b::r).drop n)
   let q:=toksF f (o+n+k) ((b::r).drop (n+k))
   (((tok (b::r)).1,(tok (b::r)).2.1,(o:Int))::q.1,q.2)
  else ([],some (o,(tok (b::r)).2.2),o+(tok (b::r)).2.1.length)
def lexR (s:List UInt8):List Tk × Int × Int :=
 if 32768<s.length then ([],0,3) else
 match toksF (s.length+1) (skp false s) (s.drop (skp false s)) with
 | (_,some (a,e),_)=>([],a,e)
 | (l,none,_)=>(l,0,0)
end Go.Sx.Lx
namespace Go.Sx.Lx
theorem tokC_get {l:List Tk} {i:Nat} (h:i<l.length):(l.map tokC)[i]? = some (tokC (l.getD i default)):=by
 rw[List.getElem?_map,List.getElem?_eq_getElem h]
 simp[List.getD,h]
def alikeB:List Tk->List Tk->Bool
 | [],[]=>true
 | a::r,b::q=>decide (a.1=b.1) && decide (a.2.1=b.2.1) && alikeB r q
 | _,_=>false
theorem alikeB_iff: ∀ (l k:List Tk),alikeB l k=true ↔ l.map (fun t=>(t.1,t.2.1))=k.map (fun t=>(t.1,t.2.1))
 | [],[]=>by simp[alikeB]
 | a::r,b::q=>by
  simp only[alikeB,Bool.and_eq_true,decide_eq_true_eq,alikeB_iff r q,List.map_cons,List.cons.injEq,Prod.mk.injEq]
 | [],b::q=>by simp[alikeB]
 | a::r,[]=>by simp[alikeB]
end Go.Sx.Lx
namespace Go.Sx.Lx
def ZiZ (n m:Int):Int:=if n.tmod m<0 then n.tmod m+m else n.tmod m
end Go.Sx.Lx
/- All subterms of a term. -/
namespace Go.Sx
mutual
def Tm.all (h:Tm->Bool):Tm->Bool
 | .mk k n s l=>h (.mk k n s l) && Tm.allL h l
def Tm.allL (h:Tm->Bool):List Tm->Bool
 | []=>true
 | a::r=>a.all h && Tm.allL h r
end
mutual
def Tm.depth:Tm->Nat
 | .mk _ _ _ l=>Tm.depthL l+1
def Tm.depthL:List Tm->Nat
 | []=>0
 | a::r=>Nat.max a.depth (Tm.depthL r)
end
end Go.Sx
namespace Go.Sx
def Z0g (k n:Int) (s:List UInt8) (len:Nat):Bool :=
 if k=1 then decide (-2147483647<=n) && decide (n<=2147483647) && decide (s=[]) && decide (len=0)
 else if k=2 then decide (n=0) && Lx.symbolB s && decide (len=0)
 else if k=3 then decide (n=0) && Lx.variableB s && decide (len=0)
 else if k=4 then decide (n=0) && Lx.symbolB s && decide (1<=len) && decide (len<=8)
 else if k=5 then decide (n=0) && (decide (s=[43]) || decide (s=[45]) || decide (s=[42]) || decide (s=[47]) || decide (s=[92])) && (decide (len=2) || decide (s=[45]) && decide (len=1))
 else if k=6 then decide (n=0) && decide (s=[]) && decide (len=2)
 else false
def Tm.shape:Tm->Bool
 | .mk k n s l=>Z0g k n s l.length
def Tm.valid (t:Tm):Bool:=decide (t.depth<=12) && t.all Tm.shape
end Go.Sx
/- Laws of the lexer. -/
namespace Go.Sx.Lx
open Go.Sx
def Z18 (c:UInt8):Bool:=isBlank c || c == 37
theorem ZcL:(List.range 256).all (fun n=> !(Z18 (UInt8.ofNat n)) || (!(isName (UInt8.ofNat n)) && !(isDig (UInt8.ofNat n)) && !(isLet (UInt8.ofNat n)) && signL.all fun s=> !(s.contains (UInt8.ofNat n))))=true:=by decide +kernel
theorem Z2Q {c:UInt8} (h:Z18 c=true):isName c=false/\isDig c=false/\isLet c=false/\ ∀ s∈signL,c ∉ s:=by
 have:=List.all_eq_true.1 ZcL c.toNat (List.mem_range.2 c.toNat_lt)
 simp only[UInt8.ofNat_toNat,h,Bool.not_true,Bool.false_or,Bool.and_eq_true,Bool.not_eq_true',List.all_eq_true] at this
 refine⟨this.1.1.1,this.1.1.2,this.1.2,fun s hs hm=> ?_⟩
 have h1:=this.2 s hs
 rw[List.contains_iff_mem.2 hm] at h1
 cases h1
theorem Q3 {p:UInt8->Bool} {c:UInt8} (h:p c=false) (r:List UInt8): ∀ l:List UInt8,(l++c::r).takeWhile p=l.takeWhile p
 | []=>by simp[List.takeWhile_cons,h]
 | b::l=>by
  simp only[List.cons_append,List.takeWhile_cons]
  split
  ·rw[Q3 h r l]
  ·rfl
theorem Z2f {c:UInt8} (r:List UInt8): ∀ (s l:List UInt8),c ∉ s->s.isPrefixOf (l++c::r)=s.isPrefixOf l
 | [],l,_=>by cases l <;> rfl
 | x::s,[],h=>by
  have:(x == c)=false:=by
   cases hx:x == c with
   | false=>rfl
   | true=>rw[eq_of_beq hx] at h; simp at h
  simp[List.isPrefixOf,this]
 | x::s,b::l,h=>by
  simp only[List.cons_append,List.isPrefixOf]
  rw[Z2f r s l (fun hm=>h (List.mem_cons_of_mem _ hm))]
theorem Z2j {α:Type} {p q:α->Bool}: ∀ {l:List α},(∀ x∈l,p x=q x)->l.find? p=l.find? q
 | [],_=>rfl
 | x::l,h=>by
  rw[List.find?_cons,List.find?_cons,h x (List.mem_cons_self ..),Z2j fun y hy=>h y (List.mem_cons_of_mem _ hy)]
theorem Z67 {c:UInt8} (hc:Z18 c=true) (l r:List UInt8):signOf (l++c::r)=signOf l:=by
 unfold signOf
 rw[Z2j fun s hs=>Z2f r s l ((Z2Q hc).2.2.2 s hs)]
theorem Zcw {c:UInt8} (hc:Z18 c=true) {l:List UInt8} (hl:l≠[]) (r:List UInt8):tok (l++c::r)=tok l:=by
 obtain⟨h1,h2,h3,_⟩:=Z2Q hc
 cases l with
 | nil=>exact absurd rfl hl
 | cons b l =>
  have e1:(b::l++c::r).takeWhile isName=(b::l).takeWhile isName:=Q3 h1 r (b::l)
  have e2:(b::l++c::r).takeWhile isDig=(b::l).takeWhile isDig:=Q3 h2 r (b::l)
  have e3:(l++c::r).takeWhile isLet=l.takeWhile isLet:=Q3 h3 r l
  have e4:signOf (b::l++c::r)=signOf (b::l):=Z67 hc (b::l) r
  simp only[List.cons_append] at e1 e2 e3 e4
  simp only[tok,List.cons_append,e1,e2,e3,e4]
theorem Z63: ∀ (f g o:Nat) (l:List UInt8),l.length<f->l.length<g->toksF f o l=toksF g o l:=by
 intro f
 induction f with
 | zero=>intro g o l h; omega
 | succ f ih =>
  intro g o l hf hg
  cases g with
  | zero=>omega
  | succ g =>
   cases l with
   | nil=>rfl
   | cons b r =>
    simp only[toksF]
    split
    ·rename_i he
     have hp:=tok_pos (l:=b::r) (by simp) he
     have hl:((b::r).drop ((tok (b::r)).2.1.length+skp false ((b::r).drop (tok (b::r)).2.1.length))).length<r.length+1:=by
      rw[List.length_drop,List.length_cons]; omega
     rw[List.length_cons] at hf hg
     rw[ih g _ _ (by omega) (by omega)]
    ·rfl
def run (o:Nat) (l:List UInt8):List Tk × Option (Nat × Int) × Nat:=toksF (l.length+1) (o+skp false l) (l.drop (skp false l))
theorem QU {o:Nat} {l:List UInt8} (h:skp false l=l.length):run o l=([],none,o+l.length):=by
 unfold run
 rw[h,List.drop_length]; rfl
theorem Z1k {o:Nat} {l:List UInt8} (h:skp false l≠l.length):run o l =
  if (tok (l.drop (skp false l))).2.2=0 then
   (((tok (l.drop (skp false l))).1,(tok (l.drop (skp false l))).2.1,((o+skp false l:Nat):Int))::(run (o+skp false l+(tok (l.drop (skp false l))).2.1.length) (l.drop (skp false l+(tok (l.drop (skp false l))).2.1.length))).1,
    (run (o+skp false l+(tok (l.drop (skp false l))).2.1.length) (l.drop (skp false l+(tok (l.drop (skp false l))).2.1.length))).2)
  else ([],some (o+skp false l,(tok (l.drop (skp false l))).2.2),o+skp false l+(tok (l.drop (skp false l))).2.1.length):=by
 have hk:=QP false l
 have hne:l.drop (skp false l)≠[]:=fun he=>by
  have:=congrArg List.length he
  rw[List.length_drop,List.length_nil] at this
  omega
 unfold run
 generalize hd:l.drop (skp false l)=d at hne ⊢
 have hdl:d.length<=l.length:=by rw[<- hd,List.length_drop]; omega
 cases d with
 | nil=>exact absurd rfl hne
 | cons b r =>
  have hl:0<l.length:=by rw[List.length_cons] at hdl; omega
  rw[List.length_cons] at hdl
  cases hlen:l.length with
  | zero=>omega
  | succ m =>
   simp only[toksF]
   split
   ·rename_i he
    have hp:=tok_pos (l:=b::r) (by simp) he
    have e:l.drop (skp false l+(tok (b::r)).2.1.length)=(b::r).drop (tok (b::r)).2.1.length:=by rw[<- hd,List.drop_drop]
    rw[e,List.drop_drop]
    have hl2:((b::r).drop ((tok (b::r)).2.1.length+skp false ((b::r).drop (tok (b::r)).2.1.length))).length<r.length+1:=by
     rw[List.length_drop,List.length_cons]; omega
    have hl3:((b::r).drop ((tok (b::r)).2.1.length+skp false ((b::r).drop (tok (b::r)).2.1.length))).length<((b::r).drop (tok (b::r)).2.1.length).length+1:=by
     simp only[List.length_drop]; omega
    rw[Z63 (m+1) (((b::r).drop (tok (b::r)).2.1.length).length+1) _ _ (by omega) hl3]
   ·rfl
def shift (d:Nat) (r:List Tk × Option (Nat × Int) × Nat):List Tk × Option (Nat × Int) × Nat:=(r.1.map fun t=>(t.1,t.2.1,t.2.2+d),r.2.1.map fun e=>(e.1+d,e.2),r.2.2+d)
def ans (r:List Tk × Option (Nat × Int) × Nat):List Tk × Int × Int:=match r with
 | (_,some (a,e),_)=>([],a,e)
 | (l,none,_)=>(l,0,0)
theorem lexR_eq (s:List UInt8):lexR s=if 32768<s.length then ([],0,3) else ans (run 0 s):=by
 unfold lexR run ans
 rw[Nat.zero_add]
 all_goals rfl
theorem run_err: ∀ (m:Nat) (l:List UInt8) (o:Nat),l.length<m-> ∀ a e,(run o l).2.1=some (a,e)->e≠0/\o<=a/\a<o+l.length/\(e=30\/e=31\/e=32):=by
 intro m
 induction m with
 | zero=>intro l o h; omega
 | succ m ih =>
  intro l o hm a e hr
  have hk:=QP false l
  by_cases h:skp false l=l.length
  ·rw[QU h] at hr; cases hr
  ·have hne:l.drop (skp false l)≠[]:=fun he=>by
    have:=congrArg List.length he
    rw[List.length_drop,List.length_nil] at this
    omega
   rw[Z1k h] at hr
   by_cases he:(tok (l.drop (skp false l))).2.2=0
   ·rw[if_pos he] at hr
    have hp:=tok_pos hne he
    have htl:=tok_len (l.drop (skp false l))
    rw[List.length_drop] at htl
    obtain⟨h1,h2,h3,h4⟩:=ih _ _ (by rw[List.length_drop]; omega) a e hr
    rw[List.length_drop] at h3
    exact⟨h1,by omega,by omega,h4⟩
   ·rw[if_neg he] at hr
    simp only[Option.some.injEq,Prod.mk.injEq] at hr
    obtain⟨rfl,rfl⟩:=hr
    refine⟨he,by omega,by omega, ?_⟩
    generalize l.drop (skp false l)=x at he ⊢
    unfold tok at he ⊢
    cases x with
    | nil=>simp at he
    | cons b r =>
     simp only at he ⊢
     split at he
     ·rename_i h1
      rw[if_pos h1]
      simp only[wordK] at he ⊢
      repeat' split at he
      all_goals first | (exact absurd rfl he) | skip
      rename_i g1 g2 g3
      rw[if_neg g1,if_neg g2,if_neg g3]; simp
     ·rename_i h1
      rw[if_neg h1]
      split at he
      ·rename_i h2
       rw[if_pos h2]
       simp only[numE] at he ⊢
       split at he
       ·rename_i n hn
        repeat' split at he
        all_goals first | (exact absurd rfl he) | skip
        all_goals simp_all
       ·rename_i hn
        simp_all
      ·rename_i h2
       rw[if_neg h2]
       split at he
       ·rename_i h3
        rw[if_pos h3]
        simp only at he ⊢
        split at he
        ·exact absurd rfl he
        ·rename_i h4; rw[if_neg h4]; simp
       ·rename_i h3
        rw[if_neg h3]
        simp only at he ⊢
        split at he
        ·rename_i h4; rw[if_pos h4]; simp
        ·exact absurd rfl he
end Go.Sx.Lx
namespace Go.Sx.Lx
theorem run_toks: ∀ (m:Nat) (l:List UInt8) (o:Nat),l.length<m->(run o l).1.length<=l.length/\ ∀ t∈(run o l).1,(o:Int)<=t.2.2/\t.2.2+t.2.1.length<=o+l.length:=by
 intro m
 induction m with
 | zero=>intro l o h; omega
 | succ m ih =>
  intro l o hm
  have hk:=QP false l
  by_cases h:skp false l=l.length
  ·rw[QU h]; exact⟨by simp,fun t ht=>by cases ht⟩
  ·have hne:l.drop (skp false l)≠[]:=fun he=>by
    have:=congrArg List.length he
    rw[List.length_drop,List.length_nil] at this
    omega
   rw[Z1k h]
   by_cases he:(tok (l.drop (skp false l))).2.2=0
   ·rw[if_pos he]
    have hp:=tok_pos hne he
    have htl:=tok_len (l.drop (skp false l))
    rw[List.length_drop] at htl
    obtain⟨h1,h2⟩:=ih (l.drop (skp false l+(tok (l.drop (skp false l))).2.1.length)) (o+skp false l+(tok (l.drop (skp false l))).2.1.length) (by rw[List.length_drop]; omega)
    rw[List.length_drop] at h1 h2
    refine⟨by simp only[List.length_cons]; omega,fun t ht=> ?_⟩
    rcases List.mem_cons.1 ht with rfl | ht
    ·simp only; omega
    ·have:=h2 t ht; omega
   ·rw[if_neg he]; exact⟨by simp,fun t ht=>by cases ht⟩
end Go.Sx.Lx
namespace Go.Sx.Lx
theorem Zg0:(List.range 256).all (fun n=> !(Z18 (UInt8.ofNat n)) || !(UInt8.ofNat n == 35))=true:=by decide +kernel
theorem ZcI: ∀ s∈signL,s≠[]:=by decide
theorem ZcK {b:UInt8} (h:Z18 b=true) (r:List UInt8):(tok (b::r)).2.2≠0:=by
 obtain⟨h1,h2,h3,h4⟩:=Z2Q h
 have h5:(b == 35)=false:=by
  have:=List.all_eq_true.1 Zg0 b.toNat (List.mem_range.2 b.toNat_lt)
  simpa [h] using this
 have h6:(isLet b || isUnd b)=false:=by
  simp only[isName,Bool.or_eq_false_iff] at h1
  simp only[h1.1.1,h1.2,Bool.or_false]
 have h7:signOf (b::r)=[]:=by
  unfold signOf
  have:signL.find? (·.isPrefixOf (b::r))=none:=by
   rw[List.find?_eq_none]
   intro s hs hp
   cases s with
   | nil=>exact ZcI _ hs rfl
   | cons x s =>
    have:x=b:=by simp[List.isPrefixOf] at hp; exact hp.1
    exact h4 _ hs (by rw[this]; exact List.mem_cons_self ..)
  rw[this]; rfl
 simp only[tok,h6,h2,h5,Bool.false_eq_true,if_false,h7,if_true]
 decide
theorem Qm (p:UInt8->Bool) (l:List UInt8):(l.takeWhile p).takeWhile p=l.takeWhile p:=by
 induction l with
 | nil=>rfl
 | cons b r ih =>
  rw[List.takeWhile_cons]
  split
  ·rename_i h; rw[List.takeWhile_cons,if_pos h,ih]
  ·rfl
theorem Z7m: ∀ s∈signL,signOf s=s:=by decide +kernel
theorem Z66: ∀ s∈signL, ∀ b∈s.head?,isLet b=false/\isUnd b=false/\isDig b=false/\(b == 35)=false:=by decide +kernel
theorem Z68 {l:List UInt8} (h:signOf l≠[]):signOf l∈signL:=by
 unfold signOf at h ⊢
 cases hf:signL.find? (·.isPrefixOf l) with
 | none=>rw[hf] at h; exact absurd rfl h
 | some s=>exact List.mem_of_find?_eq_some hf
theorem Z9S {l:List UInt8} (hl:l≠[]) (h:(tok l).2.2=0):tok (tok l).2.1=tok l:=by
 cases l with
 | nil=>exact absurd rfl hl
 | cons b r =>
  by_cases h1:(isLet b || isUnd b)=true
  ·have e:tok (b::r)=((wordK ((b::r).takeWhile isName)).1,(b::r).takeWhile isName,(wordK ((b::r).takeWhile isName)).2):=by simp only[tok,h1,if_true]
   have hb:isName b=true:=by simp only[isName]; simp only[Bool.or_eq_true] at h1 ⊢; rcases h1 with h | h <;> simp[h]
   have e2:(b::r).takeWhile isName=b::r.takeWhile isName:=by rw[List.takeWhile_cons,if_pos hb]
   rw[e]
   simp only
   rw[e2]
   simp only[tok,h1,if_true]
   have e3:(b::r.takeWhile isName).takeWhile isName=b::r.takeWhile isName:=by rw[List.takeWhile_cons,if_pos hb,Qm]
   rw[e3]
  ·by_cases h2:isDig b=true
   ·have e:tok (b::r)=(3,(b::r).takeWhile isDig,numE ((b::r).takeWhile isDig)):=by simp only[tok,h1,h2,if_true,if_false]; simp
    have e2:(b::r).takeWhile isDig=b::r.takeWhile isDig:=by rw[List.takeWhile_cons,if_pos h2]
    have e3:(b::r.takeWhile isDig).takeWhile isDig=b::r.takeWhile isDig:=by rw[List.takeWhile_cons,if_pos h2,Qm]
    rw[e]
    simp only
    rw[e2]
    simp only[tok,h1,h2,if_true,e3]; simp
   ·by_cases h3:(b == 35)=true
    ·have e:tok (b::r)=(5,35::r.takeWhile isLet,if 35::r.takeWhile isLet∈dirs then 0 else 31):=by simp only[tok,h1,h2,h3,if_true]; simp
     have hb:b=35:=eq_of_beq h3
     subst hb
     rw[e]
     have e4:tok (35::r.takeWhile isLet)=(5,35::(r.takeWhile isLet).takeWhile isLet,if 35::(r.takeWhile isLet).takeWhile isLet∈dirs then 0 else 31):=by simp only[tok,h1,h2,h3,if_true]; simp
     rw[e4,Qm]
    ·have e:tok (b::r)=(6,signOf (b::r),if signOf (b::r)=[] then 30 else 0):=by simp only[tok,h1,h2,h3]; simp
     rw[e] at h ⊢
     simp only at h ⊢
     by_cases hs:signOf (b::r)=[]
     ·rw[if_pos hs] at h; cases h
     ·have hm:=Z68 hs
      have hself:=Z7m _ hm
      have hf:=Z66 _ hm
      generalize signOf (b::r)=s at hs hm hself hf ⊢
      cases s with
      | nil=>exact absurd rfl hs
      | cons x s =>
       obtain⟨g1,g2,g3,g4⟩:=hf x rfl
       simp only[tok,g1,g2,g3,g4,Bool.or_self,Bool.false_eq_true,if_false,hself]
def Val (t:Tk):Prop:=t.2.1≠[]/\tok t.2.1=(t.1,t.2.1,0)
theorem ZfN {l:List UInt8} (hl:l≠[]) (h:(tok l).2.2=0) (a:Int):Val ((tok l).1,(tok l).2.1,a):=by
 have hp:=tok_pos hl h
 refine⟨fun he=>by rw[he] at hp; simp at hp, ?_⟩
 rw[Z9S hl h]
 exact Prod.ext rfl (Prod.ext rfl h)
theorem run_val: ∀ (m:Nat) (l:List UInt8) (o:Nat),l.length<m-> ∀ t∈(run o l).1,Val t:=by
 intro m
 induction m with
 | zero=>intro l o h; omega
 | succ m ih =>
  intro l o hm
  have hk:=QP false l
  by_cases h:skp false l=l.length
  ·rw[QU h]; intro t ht; cases ht
  ·have hne:l.drop (skp false l)≠[]:=fun he=>by
    have:=congrArg List.length he
    rw[List.length_drop,List.length_nil] at this
    omega
   rw[Z1k h]
   by_cases he:(tok (l.drop (skp false l))).2.2=0
   ·rw[if_pos he]
    have hp:=tok_pos hne he
    intro t ht
    rcases List.mem_cons.1 ht with rfl | ht
    ·exact ZfN hne he _
    ·exact ih (l.drop (skp false l+(tok (l.drop (skp false l))).2.1.length)) _ (by rw[List.length_drop]; omega) t ht
   ·rw[if_neg he]; intro t ht; cases ht
def Sepd (r:List UInt8):Prop:=r=[]\/ ∃ c q,r=c::q/\Z18 c=true
theorem Zcr {t:Tk} (h:Val t) {r:List UInt8} (hr:Sepd r):tok (t.2.1++r)=(t.1,t.2.1,0):=by
 rcases hr with rfl | ⟨c,q,rfl,hc⟩
 ·rw[List.append_nil]; exact h.2
 ·rw[Zcw hc h.1]; exact h.2
theorem Z9M {t:Tk} (h:Val t): ∃ b r,t.2.1=b::r/\Z18 b=false:=by
 obtain⟨h1,h2⟩:=h
 cases hs:t.2.1 with
 | nil=>exact absurd hs h1
 | cons b r =>
  refine⟨b,r,rfl, ?_⟩
  rw[hs] at h2
  cases hb:Z18 b with
  | false=>rfl
  | true=>exact absurd (by rw[h2]) (ZcK hb r)
theorem Z9W {b:UInt8} (h:Z18 b=false) (r:List UInt8):skp false (b::r)=0:=by
 simp only[Z18,Bool.or_eq_false_iff] at h
 simp only[skp,h.1,h.2,Bool.false_eq_true,if_false]
def Gap (g:List UInt8):Prop:= ∀ b r,Z18 b=false->skp false (g++b::r)=g.length
theorem Z3v {g:List UInt8} {t:Tk} {r:List UInt8} (hg:Gap g) (ht:Val t) (hr:Sepd r) (o:Nat) :
  run o (g++(t.2.1++r))=((t.1,t.2.1,((o+g.length:Nat):Int))::(run (o+g.length+t.2.1.length) r).1,(run (o+g.length+t.2.1.length) r).2):=by
 obtain⟨b,q,hb,hs⟩:=Z9M ht
 have h1:skp false (g++(t.2.1++r))=g.length:=by rw[hb]; exact hg b (q++r) hs
 have h2:(g++(t.2.1++r)).drop g.length=t.2.1++r:=List.drop_left' rfl
 have hlt:0<t.2.1.length:=by rw[hb]; simp
 rw[Z1k (by rw[h1]; simp only[List.length_append]; omega),h1,h2,Zcr ht hr,if_pos rfl]
 have h3:(g++(t.2.1++r)).drop (g.length+t.2.1.length)=r:=by rw[<- List.drop_drop,h2,List.drop_left' rfl]
 rw[h3]
theorem Z8o:Gap []:=fun b r h=>by simpa using Z9W h r
theorem Z8p {c:UInt8} (h:isBlank c=true) {g:List UInt8} (hg:Gap g):Gap (c::g):=fun b r hb=>by
 simp only[List.cons_append,skp,h,if_true,hg b r hb,List.length_cons]; omega
def Z1W:List Tk->List UInt8
 | []=>[]
 | t::r=>32::(t.2.1++Z1W r)
theorem Z3i (l:List Tk):Sepd (Z1W l):=by
 cases l with
 | nil=>exact .inl rfl
 | cons t r=>exact .inr ⟨32,_,rfl,rfl⟩
theorem Z3u: ∀ (l:List Tk) (o:Nat),(∀ t∈l,Val t)->(run o (Z1W l)).2.1=none/\alikeB l (run o (Z1W l)).1=true
 | [],o,_=>by
  have:run o (Z1W [])=([],none,o+0):=QU rfl
  rw[this]; exact⟨rfl,rfl⟩
 | t::r,o,h=>by
  have hp:=Z3v (Z8p (c:=32) rfl Z8o) (h t (List.mem_cons_self ..)) (Z3i r) o
  obtain⟨h1,h2⟩:=Z3u r (o+[(32:UInt8)].length+t.2.1.length) fun x hx=>h x (List.mem_cons_of_mem _ hx)
  have e:Z1W (t::r)=[32]++(t.2.1++Z1W r):=rfl
  rw[e,hp]
  refine⟨h1, ?_⟩
  simp only[alikeB,decide_true,Bool.and_self,Bool.true_and]
  exact h2
theorem Z1z: ∀ l:List Tk,Lib.joinTail [32] (l.map (·.2.1))=Z1W l
 | []=>rfl
 | t::r=>by
  have:=Z1z r
  simp[Lib.joinTail,Z1W] at this ⊢
  exact this
theorem Z8g (t:Tk) (r:List Tk):Lib.join ((t::r).map (·.2.1)) [32]=t.2.1++Z1W r:=by
 rw[List.map_cons,Lib.join_cons,Z1z]
theorem run_join (l:List Tk) (h: ∀ t∈l,Val t):(run 0 (Lib.join (l.map (·.2.1)) [32])).2.1=none/\alikeB l (run 0 (Lib.join (l.map (·.2.1)) [32])).1=true:=by
 cases l with
 | nil =>
  rw[List.map_nil,Lib.join_nil]
  have:run 0 []=([],none,0+0):=QU rfl
  rw[this]; exact⟨rfl,rfl⟩
 | cons t r =>
  rw[Z8g]
  have hp:=Z3v Z8o (h t (List.mem_cons_self ..)) (Z3i r) 0
  obtain⟨h1,h2⟩:=Z3u r (0+([]:List UInt8).length+t.2.1.length) fun x hx=>h x (List.mem_cons_of_mem _ hx)
  rw[List.nil_append] at hp
  rw[hp]
  refine⟨h1, ?_⟩
  simp only[alikeB,decide_true,Bool.and_self,Bool.true_and]
  exact h2
theorem Z9R (l:List UInt8):l.take (tok l).2.1.length=(tok l).2.1:=by
 cases l with
 | nil=>simp[tok]
 | cons b r =>
  have tw: ∀ (p:UInt8->Bool) (l:List UInt8),l.take (l.takeWhile p).length=l.takeWhile p:=fun p l=>(List.prefix_iff_eq_take.1 (List.takeWhile_prefix p)).symm
  unfold tok
  simp only
  split
  ·exact tw _ _
  split
  ·exact tw _ _
  split
  ·rename_i h; rw[eq_of_beq h]; simp[tw]
  ·simp only[signOf]
   cases hf:signL.find? (·.isPrefixOf (b::r)) with
   | none=>simp
   | some s =>
    have:=List.find?_some hf
    exact (List.prefix_iff_eq_take.1 (List.isPrefixOf_iff_prefix.1 this)).symm
end Go.Sx.Lx
namespace Go.Sx.Lx
theorem run_lens: ∀ (m:Nat) (l:List UInt8) (o:Nat),l.length<m->Lib.lens ((run o l).1.map (·.2.1))<=l.length:=by
 intro m
 induction m with
 | zero=>intro l o h; omega
 | succ m ih =>
  intro l o hm
  have hk:=QP false l
  by_cases h:skp false l=l.length
  ·rw[QU h]; simp[Lib.lens]
  ·have hne:l.drop (skp false l)≠[]:=fun he=>by
    have:=congrArg List.length he
    rw[List.length_drop,List.length_nil] at this
    omega
   rw[Z1k h]
   by_cases he:(tok (l.drop (skp false l))).2.2=0
   ·rw[if_pos he]
    have hp:=tok_pos hne he
    have htl:=tok_len (l.drop (skp false l))
    rw[List.length_drop] at htl
    have h1:=ih (l.drop (skp false l+(tok (l.drop (skp false l))).2.1.length)) (o+skp false l+(tok (l.drop (skp false l))).2.1.length) (by rw[List.length_drop]; omega)
    rw[List.length_drop] at h1
    simp only[Lib.lens,List.map_cons,List.sum_cons] at h1 ⊢
    omega
   ·rw[if_neg he]; simp[Lib.lens]
theorem join_le (l:List Tk):(Lib.join (l.map (·.2.1)) [32]).length<=l.length+Lib.lens (l.map (·.2.1)):=by
 cases l with
 | nil=>simp[Lib.join_nil]
 | cons t r =>
  rw[List.map_cons,Lib.join_length]
  simp
end Go.Sx.Lx
namespace Go.Sx.Lx
def Zje:List (List UInt8):=[[32],[10],[9,32],[37,10],[32,37,32,97,46,32,35,120,10],[13,10]]
def Zj0 (g:Int):Int:=ZiZ g 6
def Zc2 (g:Int):List UInt8:=Zje.getD (Zj0 g).toNat []
def gapF (gs:List Int) (i:Nat):Int:=if i<gs.length then gs.getD i 0 else i
def finB (gs:List Int):Nat->List Tk->List UInt8->List Int->List UInt8 × List Int
 | _,[],s,o=>(s,o)
 | i,t::r,s,o=>finB gs (i+1) r (s++Zc2 (gapF gs i)++t.2.1) (o++[((s++Zc2 (gapF gs i)).length:Int)])
end Go.Sx.Lx
