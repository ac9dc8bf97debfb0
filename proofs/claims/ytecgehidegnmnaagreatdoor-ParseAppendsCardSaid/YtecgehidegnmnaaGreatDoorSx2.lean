/- Own work: a layer over the kit: plain data,a walk over it,its soundness. -/
import Derived.MapKept
import Derived.Maps.RangeRun
import Derived.Test.YtecgehidegnmnaaGreatDoorSx1
set_option linter.unusedSectionVars false
set_option linter.unusedVariables false
set_option linter.unusedSimpArgs false
set_option linter.deprecated false
namespace Go.Sx
open Go.RowKit
variable [Globs] [Codes]
section
variable {P:Program} {o:Oper} {ρ:Operand->Value} {w:World} {φ:Mem} {h:Nat->Value} {dst:Nat} {K:D->Option Ob->Prop} {obs:Nat->Option Ob}
theorem RV.func_inv {f:Fn} {a c:List D} {v:Value} (r:RV φ h v (.func f a c)): ∃ va vc:Array Value,v= .func f va vc:=by
 cases r with
 | pure r=>cases r
 | func _ vf vc _ _ hf hc h1 h2=>exact⟨vf,vc,rfl⟩
theorem RV.yld_inv {i:Nat} {v:Value} (r:RV φ h v (.yld i)): ∃ b,v= .func (.yield b) #[] #[]:=by
 cases r with
 | pure r=>cases r
 | yld _ b _=>exact⟨b,rfl⟩
theorem RV.nilf_inv {v:Value} (r:RV φ h v .nilf):v= .nilFunc:=by cases r with | pure r=>cases r; rfl
theorem RV.nilp_inv {v:Value} (r:RV φ h v .nilp):v= .pointer none:=by cases r with | pure r=>cases r; rfl
theorem RV.ifc_inv {v:Value} (r:RV φ h v .ifc): ∃ t x,v= .iface t x:=by cases r with | pure r=>cases r with | ifc t x=>exact⟨t,x,rfl⟩
theorem RV.raw_inv {u v:Value} (r:RV φ h v (.raw u)):v=u:=by cases r with | pure r=>cases r; rfl
theorem Zfe {x:Operand} (ho:o.op= .nilCheck x) (hφ:Sub φ w) {ds:List D} (hr:RVL φ h [ρ x] ds) (hev:evl P dst .nilck ds obs K):OpOut P o ρ w (APost φ h w dst K):=by
 match ds,hr,hev with
 | [d],hr,hev =>
  obtain⟨hn,hk⟩:=hev
  refine OpOut.same hφ (v:=ρ x) ?_ hk hr.1
  have hr1:=hr.1
  cases d with
  | ptr i off=>obtain⟨b,_,hv⟩:=hr1.ptr_inv; simp[execOp,ho,hv]
  | fptr cs=>obtain⟨b,off,_,hv,_⟩:=hr1.fptr_inv; simp[execOp,ho,hv]
  | vptr i a j sz=>obtain⟨b,_,_,_,_,hv⟩:=hr1.vptr_inv; simp[execOp,ho,hv]
  | yld i=>obtain⟨b,hv⟩:=hr1.yld_inv; simp[execOp,ho,hv]
  | func f a c =>
   cases f with
   | func f=>obtain⟨va,vc,hv⟩:=hr1.func_inv; simp[execOp,ho,hv]
   | _=>simp[D.nn] at hn
  | _=>simp[D.nn] at hn
def Z31 (P:Program):List Field->Nat->Option (List Nat)
 | [],_=>some []
 | f :: r, i => if f.name ≠ "_" /\ f.offset = i then (match P.underlying f.type, Z31 P r (i + 1) with
  | some .bool,some ks=>some (0::ks)
  | some (.int _),some ks=>some (2::ks)
  | some .string,some ks=>some (1::ks)
  | _,_=>none) else none
theorem Z76 {t:TypeId} {cs:Array Value} {off:Nat} {v:Value} (ha:aggB P t=some false) (hv:cs[off]? = some v):(part t cs off).run P w= .ok v w:=by
 unfold part
 simp only[Sem.run_bind,Z0S ha,Result.andThen_ok,Bool.false_eq_true,if_false,hv]
 rfl
theorem Zav {ks:List Nat} {cs ds:List D} {r:Bool} (h:ZG (0::ks) cs ds=some r): ∃ a b cs' ds' x,cs= .bool a::cs'/\ds= .bool b::ds'/\ZG ks cs' ds'=some x/\r=((a == b) && x):=by
 cases cs with
 | nil=>cases ds <;> simp[ZG] at h
 | cons c cs =>
  cases ds with
  | nil=>cases c <;> simp[ZG] at h
  | cons d ds =>
   cases c <;> cases d <;> simp only[ZG,reduceCtorEq] at h
   rename_i a b
   cases hx:ZG ks cs ds with
   | none=>rw[hx] at h; cases h
   | some x=>rw[hx] at h; exact⟨a,b,cs,ds,x,rfl,rfl,hx,(Option.some.inj h).symm⟩
theorem Zau {ks:List Nat} {cs ds:List D} {r:Bool} (h:ZG (1::ks) cs ds=some r): ∃ a b cs' ds' x,cs= .str a::cs'/\ds= .str b::ds'/\ZG ks cs' ds'=some x/\r=(decide (a=b) && x):=by
 cases cs with
 | nil=>cases ds <;> simp[ZG] at h
 | cons c cs =>
  cases ds with
  | nil=>cases c <;> simp[ZG] at h
  | cons d ds =>
   cases c <;> cases d <;> simp only[ZG,reduceCtorEq] at h
   rename_i a b
   cases hx:ZG ks cs ds with
   | none=>rw[hx] at h; cases h
   | some x=>rw[hx] at h; exact⟨a,b,cs,ds,x,rfl,rfl,hx,(Option.some.inj h).symm⟩
theorem Zat {ks:List Nat} {cs ds:List D} {r:Bool} (h:ZG (2::ks) cs ds=some r): ∃ k a b cs' ds' x,cs= .int k a::cs'/\ds= .int k b::ds'/\ZG ks cs' ds'=some x/\r=(decide (a=b) && x):=by
 cases cs with
 | nil=>cases ds <;> simp[ZG] at h
 | cons c cs =>
  cases ds with
  | nil=>cases c <;> simp[ZG] at h
  | cons d ds =>
   cases c <;> cases d <;> simp only[ZG,reduceCtorEq] at h
   rename_i k a k' b
   by_cases hk:k=k'
   ·subst hk
    rw[if_pos rfl] at h
    cases hx:ZG ks cs ds with
    | none=>rw[hx] at h; cases h
    | some x=>rw[hx] at h; exact⟨k,a,b,cs,ds,x,rfl,rfl,hx,(Option.some.inj h).symm⟩
   ·rw[if_neg hk] at h; cases h
theorem Z2i {φ:Mem} {h:Nat->Value} (n:Nat) {xs ys:Array Value}: ∀ (fs:List Field) (i:Nat) (ks:List Nat) (cs ds:List D) (r:Bool),Z31 P fs i=some ks->ZG ks cs ds=some r →
  (∀ j d,cs[j]? = some d-> ∃ v,xs[i+j]? = some v/\RV φ h v d)->(∀ j d,ds[j]? = some d-> ∃ v,ys[i+j]? = some v/\RV φ h v d)->(Op.eqFields (n+1) xs ys fs).run P w= .ok r w
 | [],i,ks,cs,ds,r,hf,he,_,_=>by
  simp only[Z31,Option.some.injEq] at hf
  subst hf
  cases cs <;> cases ds <;> simp[ZG] at he
  subst he; rfl
 | f::fs,i,ks,cs,ds,r,hf,he,hx,hy=>by
  simp only[Z31] at hf
  split at hf
  ·rename_i h12
   obtain⟨h1,h2⟩:=h12
   have key: ∀ (c d:D) (cs' ds':List D) (ks':List Nat) (v u:Value) (q r':Bool),cs=c::cs'->ds=d::ds'->xs[i]? = some v->ys[i]? = some u->aggB P f.type=some false->Z31 P fs (i+1)=some ks'->(Op.equalIn (n+1) f.type v u).run P w= .ok q w->ZG ks' cs' ds'=some r'->r=(q && r')->(Op.eqFields (n+1) xs ys (f::fs)).run P w= .ok r w:=by
    intro c d cs' ds' ks' v u q r' hc hd hv hu ha hk hq hr' hqr
    subst hc hd
    have hx': ∀ j d,cs'[j]? = some d-> ∃ v,xs[i+1+j]? = some v/\RV φ h v d:=fun j d hd=>by
     have:=hx (j+1) d (by simpa using hd)
     rwa [show i+(j+1)=i+1+j by omega] at this
    have hy': ∀ j d,ds'[j]? = some d-> ∃ v,ys[i+1+j]? = some v/\RV φ h v d:=fun j d hd=>by
     have:=hy (j+1) d (by simpa using hd)
     rwa [show i+(j+1)=i+1+j by omega] at this
    simp only[Op.eqFields,h1,ne_eq,not_false_eq_true,if_true,Sem.run_bind,h2,Z76 ha hv,Z76 ha hu,Result.andThen_ok,hq]
    rw[hqr]
    cases q with
    | false=>rfl
    | true =>
     simp only[Bool.not_true,Bool.false_eq_true,if_false,Bool.true_and]
     exact Z2i n fs (i+1) ks' cs' ds' r' hk hr' hx' hy'
   have first: ∀ {l:List D} {zs:Array Value} (hz: ∀ j d,l[j]? = some d-> ∃ v,zs[i+j]? = some v/\RV φ h v d) {c:D} {l':List D},l=c::l'-> ∃ v,zs[i]? = some v/\RV φ h v c:=fun {l zs} hz {c l'} hl=>by
    subst hl
    exact hz 0 c rfl
   split at hf
   ·rename_i ks' hh hk
    cases hf
    obtain⟨a,b,cs',ds',x',rfl,rfl,hx',rfl⟩:=Zav he
    obtain⟨v,hv,hrv⟩:=first hx rfl
    obtain⟨u,hu,hru⟩:=first hy rfl
    have e1:=hrv.bool_inv; have e2:=hru.bool_inv; subst e1; subst e2
    exact key _ _ _ _ _ _ _ _ _ rfl rfl hv hu (by unfold aggB; rw[hh]) hk (run_equalIn_bool' w n f.type _ _ hh) hx' rfl
   ·rename_i k' ks' hh hk
    cases hf
    obtain⟨k,a,b,cs',ds',x',rfl,rfl,hx',rfl⟩:=Zat he
    obtain⟨v,hv,hrv⟩:=first hx rfl
    obtain⟨u,hu,hru⟩:=first hy rfl
    have e1:=hrv.int_inv; have e2:=hru.int_inv; subst e1; subst e2
    refine key _ _ _ _ _ _ _ _ _ rfl rfl hv hu (by unfold aggB; rw[hh]) hk (run_equalIn_int w n f.type _ _ _ _ hh) hx' ?_
    rw[Z2w]
   ·rename_i ks' hh hk
    cases hf
    obtain⟨a,b,cs',ds',x',rfl,rfl,hx',rfl⟩:=Zau he
    obtain⟨v,hv,hrv⟩:=first hx rfl
    obtain⟨u,hu,hru⟩:=first hy rfl
    have e1:=hrv.str_inv; have e2:=hru.str_inv; subst e1; subst e2
    refine key _ _ _ _ _ _ _ _ _ rfl rfl hv hu (by unfold aggB; rw[hh]) hk (run_equalIn_string w n f.type _ _ hh) hx' ?_
    rw[Z3g,ByteArray.toList_eq,ByteArray.toList_eq]
   ·cases hf
  ·cases hf
theorem Zic {neg:Bool} {t yt:TypeId} {x y:Operand} {fs:Array Field} {ks:List Nat} (ho:o.op= .binOp (if neg then .neq else .eql) t x y yt) (hu:P.underlying t=some (.struct fs)) (hk:Z31 P fs.toList 0=some ks)
  (hs:P.stoodInHeld t=false) (hg:P.eqGuardType P.depth t=false) (hφ:Sub φ w) {ds:List D} (hr:RVL φ h [ρ x,ρ y] ds) (hev:evl P dst (.eqs neg ks) ds obs K):OpOut P o ρ w (APost φ h w dst K):=by
 match ds,hr,hev with
 | [.agg a,.agg b],hr,hev =>
  simp only[evl] at hev
  split at hev
  ·rename_i r he
   obtain⟨xs,hx,hxs,hxr⟩:=hr.1.agg_inv
   obtain⟨ys,hy,hys,hyr⟩:=hr.2.1.agg_inv
   have get: ∀ {zs:Array Value} {l:List D},zs.size=l.length->(∀ j d,l[j]? = some d->RV φ h (zs.getD j Go.undef) d)-> ∀ j d,l[j]? = some d-> ∃ v,zs[0+j]? = some v/\RV φ h v d:=fun {zs l} hz hl j d hd=>by
    have hj:j<zs.size:=by rw[hz]; exact (List.getElem?_eq_some_iff.1 hd).1
    refine⟨zs.getD j Go.undef, ?_,hl j d hd⟩
    rw[Nat.zero_add]
    simp[Array.getD,hj]
   have hfo:P.fieldsOf t=fs:=by unfold Program.fieldsOf; rw[hu]
   have hrun:(Op.equalIn 10000 t (.agg xs) (.agg ys)).run P w= .ok r w:=by
    rw[run_equalIn_struct w 9999 t xs ys (by rw[hfo]; exact hu) hs,hfo]
    exact Z2i (φ:=φ) (h:=h) 9998 fs.toList 0 ks a b r hk he (get hxs hxr) (get hys hyr)
   cases neg with
   | false =>
    refine OpOut.same hφ (v:= .bool r) ?_ hev (Qx _)
    have hb:(binOp .eql t (ρ x) (ρ y)).run P w= .ok (.bool r) w:=by rw[hx,hy,run_eql_struct,hrun]; rfl
    have hgd:(eqGuard .eql t x y (ρ x) (ρ y)).run P w= .ok () w:=by rw[hx,hy]; exact run_eqGuard_agg w .eql t x y xs ys hg
    simp[execOp,ho,hgd,hb]
   | true =>
    refine OpOut.same hφ (v:= .bool (!r)) ?_ hev (Qx _)
    have hb:(binOp .neq t (ρ x) (ρ y)).run P w= .ok (.bool (!r)) w:=by rw[hx,hy,run_neq_struct,hrun]; rfl
    have hgd:(eqGuard .neq t x y (ρ x) (ρ y)).run P w= .ok () w:=by rw[hx,hy]; exact run_eqGuard_agg w .neq t x y xs ys hg
    simp[execOp,ho,hgd,hb]
  ·exact hev.elim
theorem ZdO {fz:Bool} {sz:Nat} {e:TypeId} {x:Operand} (ho:o.op= .move x\/o.op= .assign x) (hφ:Sub φ w) {ds:List D} (hr:RVL φ h [ρ x] ds) (hev:evl P dst (.nilv fz sz e) ds obs K):OpOut P o ρ w (APost φ h w dst K):=by
 match ds,hr,hev with
 | [.nils],hr,hev =>
  obtain⟨hn,hk⟩:=hev
  have hv:=hr.1.nils_inv
  refine .inl ⟨.slice none 0 0,w, ?_,_,_,φ,.slice none 0 0,hk, ?_⟩
  ·rcases ho with ho | ho <;> simp[execOp,ho,hv]
  ·refine⟨Below.refl _ _,fun _ _ _ hx=>hx,hφ,fun b o u h1 h2=>by rw[h2] at h1; (cases h1), ?_,fun o ho=> ?_⟩
   ·have:updH h dst (.slice none 0 0) dst= .slice none 0 0:=Zw ..
    show RV φ (updH h dst (.slice none 0 0)) (.slice none 0 0) (.vec dst)
    have r:=RV.vec (φ:=φ) (h:=updH h dst (.slice none 0 0)) dst (by rw[this]; rfl)
    rw[this] at r
    exact r
   ·cases ho
    exact⟨hn,fun x hx=>(by cases hx),[],⟨by simp,.inl ⟨rfl,rfl⟩⟩,fun i x j d hx=>(by simp at hx),fun b hb=>by simp[blk] at hb⟩
theorem Zi9 {f:Fn} {first caps:Array Operand} (ho:o.op= .makeFunc f first caps) (hφ:Sub φ w) {ds:List D} (hr:RVL φ h ((first.toList++caps.toList).map ρ) ds) (hev:evl P dst (.mkfn f first.size) ds obs K):OpOut P o ρ w (APost φ h w dst K):=by
 have hlen:=hr.length
 simp only[List.length_map,List.length_append,Array.length_toList] at hlen
 obtain⟨hle,hk⟩:first.size<=ds.length/\K (.func f (ds.take first.size) (ds.drop first.size)) none:=hev
 refine OpOut.same hφ (v:= .func f (first.map ρ) (caps.map ρ)) (by simp[execOp,ho,Instr.makeFunc]) hk (.func _ _ _ _ _ (by simp; omega) (by simp; omega) (fun j d hd=> ?_) (fun j d hd=> ?_))
 ·rw[List.getElem?_take] at hd
  split at hd
  ·rename_i hj
   have:=hr.get j d hd
   simp only[List.getD,List.map_append] at this
   rw[List.getElem?_append_left (by simpa using hj)] at this
   simpa [Array.getD_eq_getD_getElem?] using this
  ·cases hd
 ·rw[List.getElem?_drop] at hd
  have:=hr.get _ d hd
  simp only[List.getD,List.map_append] at this
  rw[List.getElem?_append_right (by simp)] at this
  simpa [Array.getD_eq_getD_getElem?] using this
def kdOf (P:Program) (t:TypeId):Option Nat:=match P.underlying t with
 | some (.interface _)=>some 0
 | some (.func ..)=>some 1
 | some (.pointer _)=>some 2
 | some (.slice _)=>some 3
 | _=>none
theorem Zaa {t:TypeId} (h:kdOf P t=some 0): ∃ ms,P.underlying t=some (.interface ms):=by
 unfold kdOf at h; split at h <;> simp_all
theorem Za9 {t:TypeId} (h:kdOf P t=some 1): ∃ p q r,P.underlying t=some (.func p q r):=by
 unfold kdOf at h; split at h <;> simp_all
theorem Za8 {t:TypeId} (h:kdOf P t=some 2): ∃ e,P.underlying t=some (.pointer e):=by
 unfold kdOf at h; split at h <;> simp_all
theorem Za7 {t:TypeId} (h:kdOf P t=some 3): ∃ e,P.underlying t=some (.slice e):=by
 unfold kdOf at h; split at h <;> simp_all
theorem Z5c {t:TypeId} {kd:Nat} (ht:kdOf P t=some kd) {a b:D} {r:Bool} (he:eqD kd a b=some r) {x y:Value} (hx:RV φ h x a) (hy:RV φ h y b):(Op.equal t x y).run P w= .ok r w:=by
 have hq: ∀ n:Nat,(Op.equalIn (n+1) t x y).run P w= .ok r w:=fun n=>by
  unfold eqD at he
  split at he <;> simp only[Option.some.injEq,reduceCtorEq] at he
  ·obtain⟨ms,hu⟩:=Zaa ht; subst he
   obtain⟨tt,xx,rfl⟩:=hx.ifc_inv
   rw[hy.raw_inv]; simp[Op.equalIn,run_underlying hu]
  ·obtain⟨ms,hu⟩:=Zaa ht; subst he
   obtain⟨tt,xx,rfl⟩:=hy.ifc_inv
   rw[hx.raw_inv]; simp[Op.equalIn,run_underlying hu]
  ·obtain⟨ms,hu⟩:=Zaa ht; subst he
   rw[hx.raw_inv,hy.raw_inv]; simp[Op.equalIn,run_underlying hu]
  ·obtain⟨p,q,r',hu⟩:=Za9 ht; subst he
   obtain⟨va,vc,rfl⟩:=hx.func_inv
   rw[hy.nilf_inv]; simp[Op.equalIn,run_underlying hu]
  ·obtain⟨p,q,r',hu⟩:=Za9 ht; subst he
   obtain⟨va,rfl⟩:=hx.yld_inv
   rw[hy.nilf_inv]; simp[Op.equalIn,run_underlying hu]
  ·obtain⟨p,q,r',hu⟩:=Za9 ht; subst he
   rw[hx.nilf_inv,hy.nilf_inv]; simp[Op.equalIn,run_underlying hu]
  ·obtain⟨e,hu⟩:=Za8 ht; subst he
   obtain⟨b,_,rfl⟩:=hx.ptr_inv
   rw[hy.nilp_inv]; simp[Op.equalIn,run_underlying hu]
  ·obtain⟨e,hu⟩:=Za8 ht; subst he
   obtain⟨b,off,_,rfl,_⟩:=hx.fptr_inv
   rw[hy.nilp_inv]; simp[Op.equalIn,run_underlying hu]
  ·obtain⟨e,hu⟩:=Za8 ht; subst he
   rw[hx.nilp_inv,hy.nilp_inv]; simp[Op.equalIn,run_underlying hu]
  ·obtain⟨e,hu⟩:=Za7 ht; subst he
   rcases hx.slice_inv.slice_inv with ⟨_,h0,_⟩ | ⟨b,off,cap,sz,vals,rfl,_⟩
   ·cases h0
   ·rw[hy.nils_inv]; simp[Op.equalIn,run_underlying hu]
  ·obtain⟨e,hu⟩:=Za7 ht; subst he
   rw[hx.nils_inv,hy.nils_inv]; simp[Op.equalIn,run_underlying hu]
 exact hq 9999
def cst:Operand->Bool
 | .const _=>true
 | _=>false
theorem Z34 {op:BinOp} {t:TypeId} {x y:Operand} {a b:Value} (hc:cst x || cst y) (hna: ∀ vs,a≠ .agg vs):(eqGuard op t x y a b).run P w= .ok () w:=by
 cases op
 all_goals first
  | rfl
  | (
   unfold eqGuard
   simp only[Bool.not_true,Bool.false_eq_true,if_false]
   split
   ·cases x <;> cases y <;> first | rfl | exact absurd hc (by simp only[cst,Bool.or_self,Bool.false_eq_true,not_false_eq_true])
   ·exact absurd rfl (hna _)
   ·rfl)
theorem ZkG {op:BinOp} {t yt:TypeId} {kd:Nat} {x y:Operand} (ho:o.op= .binOp op t x y yt) (ht:kdOf P t=some kd) (hc:cst x || cst y) (hφ:Sub φ w) {ds:List D} (hr:RVL φ h [ρ x,ρ y] ds)
  (hev:evl P dst (.eqn op kd) ds obs K):OpOut P o ρ w (APost φ h w dst K):=by
 match ds,hr,hev with
 | [a,b],hr,hev =>
  simp only[evl] at hev
  split at hev
  ·rename_i r he
   have heq:=Z5c (P:=P) (w:=w) ht he hr.1 hr.2.1
   have hx:=hr.1
   have hform:(∃ t' v,ρ x= .iface t' v)\/ρ x= .nilIface\/(∃ f a c,ρ x= .func f a c)\/ρ x= .nilFunc\/(∃ p,ρ x= .pointer p)\/(∃ a n c,ρ x= .slice a n c):=by
    unfold eqD at he
    split at he
    ·exact .inl (by obtain⟨tt,v,h⟩:=hx.ifc_inv; exact⟨tt,v,h⟩)
    ·exact .inr (.inl hx.raw_inv)
    ·exact .inr (.inl hx.raw_inv)
    ·exact .inr (.inr (.inl (by obtain⟨va,vc,h⟩:=hx.func_inv; exact⟨_,va,vc,h⟩)))
    ·exact .inr (.inr (.inl (by obtain⟨b,h⟩:=hx.yld_inv; exact⟨_,_,_,h⟩)))
    ·exact .inr (.inr (.inr (.inl hx.nilf_inv)))
    ·exact .inr (.inr (.inr (.inr (.inl (by obtain⟨b,_,h⟩:=hx.ptr_inv; exact⟨_,h⟩)))))
    ·exact .inr (.inr (.inr (.inr (.inl (by obtain⟨b,off,_,h,_⟩:=hx.fptr_inv; exact⟨_,h⟩)))))
    ·exact .inr (.inr (.inr (.inr (.inl ⟨_,hx.nilp_inv⟩))))
    ·exact .inr (.inr (.inr (.inr (.inr (by
      rcases hx.slice_inv.slice_inv with ⟨⟨a,c,h,_⟩,_⟩ | ⟨b,off,cap,sz,vals,h,_⟩
      ·exact⟨_,_,_,h⟩
      ·exact⟨_,_,_,h⟩)))))
    ·exact .inr (.inr (.inr (.inr (.inr ⟨_,_,_,hx.nils_inv⟩))))
    ·cases he
   have hg:(eqGuard op t x y (ρ x) (ρ y)).run P w= .ok () w:=Z34 hc (by rcases hform with ⟨t',v,h⟩ | h | ⟨f,a,c,h⟩ | h | ⟨p,h⟩ | ⟨a,n,c,h⟩ <;> rw[h] <;> simp)
   by_cases h1:op= .eql
   ·subst h1
    simp only[if_true] at hev
    refine OpOut.same hφ (v:= .bool r) ?_ hev (Qx _)
    have hb:(binOp .eql t (ρ x) (ρ y)).run P w= .ok (.bool r) w:=by
     rcases hform with ⟨t',v,h⟩ | h | ⟨f,a,c,h⟩ | h | ⟨p,h⟩ | ⟨a,n,c,h⟩ <;> rw[h] at heq ⊢ <;> simp[binOp,heq]
    simp[execOp,ho,hg,hb]
   ·by_cases h2:op= .neq
    ·subst h2
     simp only[if_neg h1,if_true] at hev
     refine OpOut.same hφ (v:= .bool (!r)) ?_ hev (Qx _)
     have hb:(binOp .neq t (ρ x) (ρ y)).run P w= .ok (.bool (!r)) w:=by
      rcases hform with ⟨t',v,h⟩ | h | ⟨f,a,c,h⟩ | h | ⟨p,h⟩ | ⟨a,n,c,h⟩ <;> rw[h] at heq ⊢ <;> simp[binOp,heq]
     simp[execOp,ho,hg,hb]
    ·rw[if_neg h1,if_neg h2] at hev; exact hev.elim
  ·exact hev.elim
theorem Z33 {t e:TypeId} {x y:Operand} {b off len sz:Nat} {k:IntKind} {i:Int} (ho:o.op= .indexAddr t x y) (ht:P.underlying t=some (.array len e)) (hs:szT P e=some sz)
  (hx:ρ x= .pointer (some ⟨b,off,none⟩)) (hy:ρ y= .int k i) (h0:0<=i) (h1:i<len):(execOp ρ o).run P w= .ok (.value (.pointer (some ⟨b,off+i.toNat*sz,none⟩))) w:=by
 simp[execOp,ho,hx,hy,Instr.indexAt,run_underlying ht,asIntOf,Instr.sureAddr,h0,h1,Q5 hs,Addr.add_lit]
theorem ZbW {t e:TypeId} {x y:Operand} {len sz:Nat} (ho:o.op= .indexAddr t x y) (ht:P.underlying t=some (.array len e)) (hs:szT P e=some sz) (hφ:Sub φ w) {ds:List D} (hr:RVL φ h [ρ x,ρ y] ds)
  (hev:evl P dst (.iaddrA len sz) ds obs K):OpOut P o ρ w (APost φ h w dst K):=by
 match ds,hr,hev with
 | [.fptr cs,.int k i],hr,hev =>
  obtain⟨h0,h1,hk⟩:=hev
  obtain⟨b,off,vals,hx,hm,hrep⟩:=hr.1.fptr_inv
  refine OpOut.same hφ (Z33 ho ht hs hx hr.2.1.int_inv h0 h1) hk (.fptr b (off+i.toNat*sz) (cs.drop (i.toNat*sz)) (fun j=>vals (i.toNat*sz+j)) ?_ ?_)
  ·intro j d hd
   rw[List.getElem?_drop] at hd
   have:=hm _ _ hd
   rwa [<- Nat.add_assoc] at this
  ·intro j d hd
   rw[List.getElem?_drop] at hd
   exact hrep _ _ hd
 | [.ptr id off,.int k i],hr,hev =>
  obtain⟨h0,h1,hk⟩:=hev
  obtain⟨b,hh,hx⟩:=hr.1.ptr_inv
  exact OpOut.same hφ (Z33 ho ht hs hx hr.2.1.int_inv h0 h1) hk (.ptr id (off+i.toNat*sz) b hh)
theorem Z9V {big:Bool} {k:IntKind}: ∀ (vs:List Value) (ds:List D) (a r:Int),RVL φ h vs ds->mmI big k a ds=some r->(vs.foldlM (if big then Builtin.max2 else Builtin.min2) (.int k a)).run P w= .ok (.int k r) w
 | [],[],a,r,_,he=>by simp[mmI] at he; subst he; rfl
 | v::vs,.int k' b::ds,a,r,hr,he=>by
  simp only[mmI] at he
  split at he
  ·rename_i hk
   subst hk
   rw[hr.1.int_inv,List.foldlM_cons,Sem.run_bind]
   cases big
   ·simp only[Bool.false_eq_true,if_false] at he ⊢
    have:(Builtin.min2 (.int k' a) (.int k' b)).run P w= .ok (.int k' (if b<a then b else a)) w:=rfl
    rw[this,Result.andThen_ok]
    exact Z9V (big:=false) vs ds _ r hr.2 he
   ·simp only[if_true] at he ⊢
    have:(Builtin.max2 (.int k' a) (.int k' b)).run P w= .ok (.int k' (if b > a then b else a)) w:=rfl
    rw[this,Result.andThen_ok]
    exact Z9V (big:=true) vs ds _ r hr.2 he
  ·cases he
 | [],_::_,_,_,hr,_=>hr.elim
 | _::_,[],_,_,hr,_=>hr.elim
theorem s_mm {big:Bool} {args:Array Operand} {ts:Array TypeId} (ho:o.op= .call { callee:= .builtin (if big then .max else .min),args,argTypes:=ts }) (hφ:Sub φ w) {ds:List D} (hr:RVL φ h (args.toList.map ρ) ds)
  (hev:evl P dst (.mm big) ds obs K):OpOut P o ρ w (APost φ h w dst K):=by
 match ds,hev with
 | .int k a::ds,hev =>
  simp only[evl] at hev
  split at hev
  ·rename_i r hm
   cases hl:args.toList with
   | nil=>rw[hl] at hr; exact hr.elim
   | cons x xs =>
    rw[hl] at hr
    have h1:=hr.1.int_inv
    refine OpOut.same hφ (v:= .int k r) (QB (b:=if big then .max else .min) (args:=args) (ts:=ts) ho ?_) hev (Z06 _ _)
    have hrun:=Z9V (P:=P) (w:=w) (xs.map ρ) ds a r hr.2 hm
    have hargs:(args.map ρ).toList= .int k a::xs.map ρ:=by rw[Array.toList_map,hl,List.map_cons,h1]
    cases big
    ·simp only[Bool.false_eq_true,if_false] at hrun ⊢
     simp only[builtin,Builtin.min_,hargs,Sem.run_bind,hrun,Result.andThen_ok]
     rfl
    ·simp only[if_true] at hrun ⊢
     simp only[builtin,Builtin.max_,hargs,Sem.run_bind,hrun,Result.andThen_ok]
     rfl
  ·exact hev.elim
theorem Z3h {w w':World} (h:w.grownBy w' none):Below w.heap.size w w':=⟨h.os,h.tape,h.output,h.size,fun k hk=>h.block k hk (by simp)⟩
theorem ZkE {t c:TypeId} {l:Operand} {fz:Bool} {sz:Nat} {z:List D} {i:TypeInfo} (ho:o.op= .makeSlice t l l) (hu:P.underlying t=some (.slice c)) (hz:Z0m P c=some z) (hi:P.info? c=some i) (hs:i.size=sz) (hsz:0<sz) (hφ:Sub φ w)
  {ds:List D} (hr:RVL φ h [ρ l] ds) (hev:evl P dst (.mks fz sz c (z.map unnil) i.bytes) ds obs K):OpOut P o ρ w (APost φ h w dst K):=by
 match ds,hr,hev with
 | [.int k n],hr,hev =>
  obtain⟨hpur,h0,hb,hn,hk⟩:=hev
  obtain⟨i',zv,hi',hzv,hss,rfl⟩:=QH hz
  obtain rfl:=Option.some.inj (hi.symm.trans hi')
  have hv:=hr.1.int_inv
  have hzl:zv.cells.size=sz:=by rw[hss,hs]
  have hbn:i.bytes*n.toNat<=281474976710656:=by
   have:((i.bytes*n.toNat:Nat):Int)<=281474976710656:=by
    rw[Int.natCast_mul,Int.toNat_of_nonneg h0,Int.mul_comm]; exact hb
   omega
  obtain⟨w',hrun,hown,hg⟩:=run_make_full (P:=P) w 0 t c i zv sz hu hi hzv hs k k n.toNat hbn (by unfold maxLen; omega) (Nat.zero_le _)
  rw[Int.toNat_of_nonneg h0] at hrun
  have hlen: ∀ x∈List.replicate n.toNat ((zv.cells.toList.map Qs).map Sx.unnil),x.length=sz:=fun x hx=>by
   rw[List.eq_of_mem_replicate hx]; simp[hzl]
  have hc:CR φ h zv.cells ((zv.cells.toList.map Qs).map Sx.unnil):=(CR.const _).unnil
  refine .inl ⟨.slice (some ⟨w.heap.size,0,none⟩) n.toNat n.toNat,w', ?_,_,_,if fz then Z0V φ w.heap.size (madeCells zv.cells (n.toNat*sz)).toList else φ,.slice (some ⟨w.heap.size,0,none⟩) n.toNat n.toNat,hk, ?_⟩
  ·simp[execOp,ho,hv,hrun]
  ·have:=AStep.arr (dst:=dst) (fz:=fz) (h:=h) (es:=List.replicate n.toNat ((zv.cells.toList.map Qs).map Sx.unnil)) hφ (Z3h hg) (Nat.le_refl _) hsz hlen (by rw[List.length_replicate]; exact hown) (fun q x j d hx hj=>by
    obtain⟨hq,hxe⟩:=List.getElem?_eq_some_iff.1 hx
    rw[List.getElem_replicate] at hxe
    rw[List.length_replicate] at hq
    subst hxe
    have hjl:=(List.getElem?_eq_some_iff.1 hj).1
    have hjs:j<sz:=by simpa [hzl] using hjl
    have hlt:q*sz+j<n.toNat*sz:=by
     have:(q+1)*sz<=n.toNat*sz:=Nat.mul_le_mul_right _ hq
     rw[Nat.add_mul,Nat.one_mul] at this; omega
    have hmod:(q*sz+j) % sz=j:=by rw[Nat.mul_comm,Nat.mul_add_mod,Nat.mod_eq_of_lt hjs]
    have e1:(madeCells zv.cells (n.toNat*sz)).toList.getD (q*sz+j) Go.undef=zv.cells.getD j Go.undef:=by
     unfold madeCells
     simp only[List.getD,Array.getElem?_toList,Array.getElem?_map,Array.getElem?_range,hlt,if_true,Option.map_some,Option.getD_some]
     rw[hzl,hmod]
     simp[Array.getD,hzl,hjs]
    rw[e1]
    have hd:=List.all_eq_true.1 hpur d (List.mem_of_getElem? hj)
    exact (hc.2 j d hj).pur_rep hd)
   rw[List.length_replicate] at this
   exact this
theorem ZkF {t c:TypeId} {l:Operand} {k0:IntKind} {fz:Bool} {sz:Nat} {z:List D} {i:TypeInfo} (ho:o.op= .makeSlice t (.const (.int k0 0)) l) (hρ:ρ (.const (.int k0 0))= .int k0 0) (hu:P.underlying t=some (.slice c)) (hz:Z0m P c=some z) (hi:P.info? c=some i) (hs:i.size=sz) (hsz:0<sz) (hφ:Sub φ w)
  {ds:List D} (hr:RVL φ h [ρ l] ds) (hev:evl P dst (.mke fz sz c i.bytes) ds obs K):OpOut P o ρ w (APost φ h w dst K):=by
 match ds,hr,hev with
 | [.int k n],hr,hev =>
  obtain⟨h0,hb,hn,hk⟩:=hev
  obtain⟨i',zv,hi',hzv,hss,rfl⟩:=QH hz
  obtain rfl:=Option.some.inj (hi.symm.trans hi')
  have hv:=hr.1.int_inv
  have hbn:i.bytes*n.toNat<=281474976710656:=by
   have:((i.bytes*n.toNat:Nat):Int)<=281474976710656:=by
    rw[Int.natCast_mul,Int.toNat_of_nonneg h0,Int.mul_comm]; exact hb
   omega
  obtain⟨w',hrun,hown,hg⟩:=run_make_own (P:=P) w 0 t c i zv sz hu hi hzv hs k0 k n.toNat hbn (by unfold maxLen; omega) (Nat.zero_le _)
  rw[Int.toNat_of_nonneg h0] at hrun
  refine .inl ⟨.slice (some ⟨w.heap.size,0,none⟩) 0 n.toNat,w', ?_,_,_,if fz then Z0V φ w.heap.size [] else φ,.slice (some ⟨w.heap.size,0,none⟩) 0 n.toNat,hk, ?_⟩
  ·simp[execOp,ho,hv,hρ,hrun]
  ·exact AStep.arr (dst:=dst) (fz:=fz) (h:=h) (es:=[]) hφ (Z3h hg) (Nat.le_refl _) hsz (fun x hx=>by cases hx) hown (fun q x j d hx hj=>by simp at hx)
theorem ZkI {s d e:TypeId} {x:Operand} (ho:o.op= .convert s d x) (hs:P.underlying s=some (.slice e)) (he:P.underlying e=some (.int .u8)) (hd:P.underlying d=some .string) (hφ:Sub φ w)
  (hobs: ∀ i ob,obs i=some ob->live (h i)=true-> ∃ own,ObR own φ h w (h i) ob) {ds:List D} (hr:RVL φ h [ρ x] ds) (hev:evl P dst .b2s ds obs K):OpOut P o ρ w (APost φ h w dst K):=by
 match ds,hr,hev with
 | [dd],hr,hev =>
  simp only[evl] at hev
  split at hev
  ·rename_i es hrow
   obtain⟨hes,hk⟩:=hev
   have key: ∀ (a:Option Addr) (c:Nat),ρ x= .slice a es.length c->(a=none->es=[])->(∀ b,a=some b-> ∀ j (hj:j<(QC es).length),w.cell? (b.add j)=some (.int .u8 ((QC es)[j].toNat:Int))) →
     (execOp ρ o).run P w= .ok (.value (.string ⟨(QC es).toArray⟩)) w:=by
    intro a c hx hn hc
    have hlen:es.length=(QC es).length:=by simp[QC]
    cases a with
    | none =>
     have h0:=hn rfl
     subst h0
     have:(convert s d (.slice none 0 c)).run P w= .ok (.string ⟨(QC []).toArray⟩) w:=by
      rw[run_convert_bytes_string w s d e none 0 c hs he hd]
      rfl
     simp only[List.length_nil] at hx
     simp[execOp,ho,hx,this]
    | some b =>
     rw[hlen] at hx
     have:=run_convert_bytes_back (P:=P) w s d e b c (QC es) hs he hd (hc b rfl)
     simp[execOp,ho,hx,this]
   have byte_cell: ∀ (j:Nat) (hj:j<(QC es).length),es[j]? = some [.int .u8 ((QC es)[j].toNat:Int)]:=fun j hj=>by
    have h1:(byC (QC es))[j]? = some [.int .u8 ((QC es)[j].toNat:Int)]:=by
     unfold byC
     rw[List.getElem?_map,List.getElem?_eq_getElem hj]; rfl
    rw[<- hes] at h1; exact h1
   refine OpOut.same hφ ?_ hk (Z4V _)
   cases dd with
   | slice es' ext =>
    simp only[Z1Y,Option.some.injEq] at hrow
    subst hrow
    rcases hr.1.slice_inv.slice_inv with ⟨⟨a,c,hx,hac⟩,h0,_⟩ | ⟨b,off,cap,sz,vals,hx,hcap,hsz,hmem,hrep⟩
    ·refine key a c (by rw[h0]; exact hx) (fun _=>h0) (fun b _ j hj=> ?_)
     subst h0; simp[QC] at hj
    ·refine key _ cap hx (fun h=>by cases h) (fun b' hb' j hj=> ?_)
     cases hb'
     have hc:=byte_cell j hj
     have h1:(es'++ext)[j]? = some [.int .u8 ((QC es')[j].toNat:Int)]:=by
      rw[List.getElem?_append_left (List.getElem?_eq_some_iff.1 hc).1]; exact hc
     have hsz1:sz=1:=by have:=hsz _ (List.mem_of_getElem? h1); simpa using this.symm
     subst hsz1
     have h2:=hmem j _ 0 _ h1 rfl
     have h3:=RV.int_inv (RV.pure (h:=h) (hrep j _ 0 _ h1 rfl))
     rw[h3] at h2
     have h4:=hφ _ _ _ h2
     rw[Addr.add_lit]
     simpa using h4
   | nils =>
    simp only[Z1Y,Option.some.injEq] at hrow
    subst hrow
    exact key none 0 hr.1.nils_inv (fun _=>rfl) (fun b hb=>by cases hb)
   | vec id =>
    simp only[Z1Y] at hrow
    split at hrow
    ·rename_i fz sz ee es' hob
     cases hrow
     obtain⟨own,hob'⟩:=hobs id _ hob hr.1.vec_live
     obtain⟨hsz0,hlen,xs,⟨hxl,hown⟩,hrep,_⟩:=hob'
     have hx:=hr.1.vec_inv
     rcases hown with ⟨hv,h0⟩ | ⟨g,cap,cur,hv,_,hheap,_,_,_,hxs⟩
     ·have h0':es=[]:=List.eq_nil_of_length_eq_zero h0
      refine key none 0 (by rw[hx,hv,h0]) (fun _=>h0') (fun b hb=>by cases hb)
     ·refine key _ cap (hx.trans hv) (fun h=>by cases h) (fun b' hb' j hj=> ?_)
      cases hb'
      have hc:=byte_cell j hj
      have hjl:=(List.getElem?_eq_some_iff.1 hc).1
      have hsz1:sz=1:=by have:=hlen _ (List.mem_of_getElem? hc); simpa using this.symm
      subst hsz1
      have h1:=hrep j _ 0 _ hc rfl
      have h3:=RV.int_inv (RV.pure (h:=h) h1)
      rw[Addr.add_lit,Nat.zero_add,cell_of_row w g j cur ee _ hheap]
      have h5:xs[j]? = cur[j]? := by
       rw[<- hxs,List.getElem?_take,if_pos (by omega)]; simp
      rw[<- h5]
      have h6:xs[j]? = some (xs.getD j Go.undef):=by
       simp[List.getD,show j<xs.length by omega]
      rw[h6]
      simp only[Nat.mul_one,Nat.add_zero] at h3
      rw[h3]
    ·cases hrow
   | _=>simp[Z1Y] at hrow
  ·exact hev.elim
theorem RV.map_inv {i:Nat} {v:Value} (r:RV φ h v (.map i)):v=h i/\live (h i)=true:=by
 cases r with
 | pure r=>cases r
 | map _ hl=>exact⟨rfl,hl⟩
def kdT:Option IntKind->TypeDesc
 | some k=> .int k
 | none=> .string
theorem Z4r {kd:Option IntKind} {key:D} {kv:Value} (hk:isKD kd key=true) (hr:RV φ h kv key):MapKept.IsKey (kdT kd) kv:=by
 unfold isKD at hk
 split at hk
 ·rw[hr.int_inv]; have hq:=of_decide_eq_true hk; exact hq
 ·rw[hr.str_inv]; exact trivial
 ·cases hk
theorem Z70 {kd:Option IntKind} {key k:D} {kv:Value} {r:Bool} (hk:isKD kd key=true) (hr:RV φ h kv key) (he:keqD key k=some r):Instr.sameNow (kdT kd) kv (keyV k)=some r:=by
 unfold isKD at hk
 split at hk
 ·rw[hr.int_inv]
  unfold keqD at he
  split at he
  ·rename_i h1; cases h1
   simp only[keyV,kdT,Instr.sameNow]
   split at he
   ·rename_i hq; rw[if_pos hq,Z2w]; exact he
   ·cases he
  ·rename_i h1; cases h1
  ·cases he
 ·rw[hr.str_inv]
  unfold keqD at he
  split at he
  ·rename_i h1; cases h1
  ·rename_i a b h1
   cases h1
   simp only[keyV,kdT,Instr.sameNow]
   rw[<- he]
   congr 1
   exact Bool.eq_iff_iff.2 (by rw[MapKept.bytes_beq]; simp[ByteArray.mk.injEq])
  ·cases he
 ·cases hk
theorem Z4u {kd:Option IntKind} {key:D} {kv:Value} (hk:isKD kd key=true) (hr:RV φ h kv key): ∀ (es:List MapEntry) (ks ds:List D) (i:Nat) (r:Option D),es.map MapEntry.key=ks.map keyV->RVL φ h (es.map MapEntry.val) ds->Z2n key ks ds=some r →
  (r=none/\Instr.findNow (kdT kd) kv es i=some none)\/ ∃ d j v,r=some d/\Instr.findNow (kdT kd) kv es i=some (some (j,v))/\RV φ h v d
 | [],[],[],i,r,_,_,hf=> .inl ⟨by cases hf; rfl,rfl⟩
 | [],[],_::_,i,r,_,hd,_=>hd.elim
 | [],_::_,_,i,r,h1,_,_=>by cases h1
 | _::_,[],_,i,r,h1,_,_=>by cases h1
 | _::_,_::_,[],i,r,_,hd,_=>hd.elim
 | e::es,k::ks,d::ds,i,r,h1,hd,hf=>by
  simp only[List.map_cons,List.cons.injEq] at h1
  simp only[Z2n] at hf
  cases hq:keqD key k with
  | none=>rw[hq] at hf; cases hf
  | some b =>
   rw[hq] at hf
   have hs:=Z70 (k:=k) hk hr hq
   rw[<- h1.1] at hs
   cases b with
   | true =>
    simp only[Option.some.injEq] at hf
    exact .inr ⟨d,i,e.val,hf.symm,by simp only[Instr.findNow,hs],hd.1⟩
   | false =>
    rcases Z4u hk hr es ks ds (i+1) r h1.2 hd.2 hf with ⟨h3,h4⟩ | ⟨d',j,v,h3,h4,h5⟩
    ·exact .inl ⟨h3,by simp only[Instr.findNow,hs]; exact h4⟩
    ·exact .inr ⟨d',j,v,h3,by simp only[Instr.findNow,hs]; exact h4,h5⟩
theorem Z9b {t:TypeId} (ho:o.op= .makeMap t none) (hφ:Sub φ w) (hev:evl P dst .mkmap [] obs K):OpOut P o ρ w (APost φ h w dst K):=by
 refine .inl ⟨.map (some w.heap.size),w.alloc (.map #[] 0), ?_,_,_,φ,.map (some w.heap.size),hev,(Below.refl _ w).alloc (Nat.le_refl _) _,fun _ _ _ h=>h,hφ.alloc _,fun _ _ _ h h'=>(by rw[h] at h'; cases h'), ?_,fun ob he=> ?_⟩
 ·simp[execOp,ho,run_makeMap]
 ·have:=Zw h dst (.map (some w.heap.size))
  simp only[hx]
  have hq:RV φ (updH h dst (.map (some w.heap.size))) (updH h dst (.map (some w.heap.size)) dst) (.map dst):= .map dst (by rw[this]; rfl)
  rw[this] at hq
  exact hq
 ·cases he
  refine⟨w.heap.size,[],.map #[] 0,rfl,Nat.le_refl _,heap_alloc_new w _,⟨⟨_,rfl⟩, #[],0,rfl,rfl,rfl,by simp,by simp⟩,rfl,by simp,fun off=> ?_⟩
  cases hb:φ w.heap.size off with
  | none=>rfl
  | some v=>exact absurd (hφ.lt hb) (by omega)
def Zee:Value->D
 | .agg ⟨[]⟩=> .agg []
 | v=>Qs v
theorem Z9d (φ:Mem) (h:Nat->Value) (v:Value):RV φ h v (Zee v):=by
 unfold Zee
 split
 ·exact .agg _ _ rfl fun j d hd=>by simp at hd
 ·exact Z1G φ h v
def Z7L (P:Program) (t:TypeId):Option D:=match P.info? t with
 | some i=>match i.zero with
  | some z=>some (Zee z)
  | none=>none
 | none=>none
def keyK (P:Program) (t:TypeId):Option (Option IntKind):=match P.underlying t with
 | some (.int k)=>some (some k)
 | some .string=>some none
 | _=>none
theorem Z63 {t:TypeId} {kd:Option IntKind} (hk:keyK P t=some kd):P.underlying t=some (kdT kd):=by
 unfold keyK at hk
 split at hk
 ·rename_i hu; cases hk; exact hu
 ·rename_i hu; cases hk; exact hu
 ·cases hk
theorem ZbV {t:TypeId} (ho:o.op= .makeMap t none) (hφ:Sub φ w) (hev:evl P dst .mkmapC [] obs K):OpOut P o ρ w (APost φ h w dst K):=by
 refine .inl ⟨.map (some w.heap.size),w.alloc (.map #[] 0), ?_,_,_,φ,.map (some w.heap.size),hev,(Below.refl _ w).alloc (Nat.le_refl _) _,fun _ _ _ h=>h,hφ.alloc _,fun _ _ _ h h'=>(by rw[h] at h'; cases h'), ?_,fun ob he=> ?_⟩
 ·simp[execOp,ho,run_makeMap]
 ·have:=Zw h dst (.map (some w.heap.size))
  simp only[hx]
  have hq:RV φ (updH h dst (.map (some w.heap.size))) (updH h dst (.map (some w.heap.size)) dst) (.map dst):= .map dst (by rw[this]; rfl)
  rw[this] at hq
  exact hq
 ·cases he
  refine⟨w.heap.size,[],.map #[] 0,rfl,Nat.le_refl _,heap_alloc_new w _,⟨rfl,rfl,⟨_,rfl⟩, #[],0,rfl,rfl,rfl,by simp,by simp⟩,rfl,by simp,fun off=> ?_⟩
  cases hb:φ w.heap.size off with
  | none=>rfl
  | some v=>exact absurd (hφ.lt hb) (by omega)
theorem ZdB {d:D} (hd:Z1i d=true):RV φ h (valV d) d:=by
 unfold Z1i at hd
 split at hd
 ·exact Z06 _ _
 ·exact Z4V _
 ·exact Qx _
 ·exact .agg _ _ rfl (fun j d hj=>by simp at hj)
 ·cases hd
theorem Z9e {d:D} {v:Value} (hd:Z1i d=true) (hr:RV φ h v d):v=valV d:=by
 unfold Z1i at hd
 split at hd
 ·exact hr.int_inv
 ·exact hr.str_inv
 ·exact hr.bool_inv
 ·obtain⟨vs,rfl,hs,_⟩:=hr.agg_inv
  have:vs= #[]:=Array.eq_empty_of_size_eq_zero (by simpa using hs)
  subst this
  rfl
 ·cases hd
theorem Z8S {own:Nat->Prop} {hv:Value} {ks cs:List D} (hob:ObR own φ h w hv (.gen (.mapC ks cs) [])):ObR own φ h w hv (.gen (.map ks) cs):=by
 obtain⟨b,vals,oo,hblk,hown,hheap,⟨rfl,hall,hb,es,clock,rfl,h1,h2,h3,h4⟩,hlen,hrv,hnone⟩:=hob
 refine⟨b,cs.map valV,_,hblk,hown,hheap,⟨hb,es,clock,rfl,h1,h2,h3,h4⟩,by simp,fun j d hd=> ?_,hnone⟩
 have:(cs.map valV).getD j Go.undef=valV d:=by simp[List.getD,hd]
 rw[this]
 exact ZdB (List.all_eq_true.1 hall d (List.mem_of_getElem? hd))
theorem ZkX {own:Nat->Prop} {hv:Value} {ks cs:List D} (hall:cs.all Z1i=true) (hob:ObR own φ h w hv (.gen (.map ks) cs)):ObR own φ h w hv (.gen (.mapC ks cs) []):=by
 obtain⟨b,vals,oo,hblk,hown,hheap,⟨hb,es,clock,rfl,h1,h2,h3,h4⟩,hlen,hrv,hnone⟩:=hob
 refine⟨b,[],_,hblk,hown,hheap,⟨rfl,hall,hb,es,clock,rfl,h1, ?_,h3,h4⟩,rfl,fun j d hd=>by simp at hd,hnone⟩
 rw[h2]
 refine List.ext_getElem? fun j=> ?_
 rw[List.getElem?_map]
 cases hj:cs[j]? with
 | none =>
  have:=List.getElem?_eq_none_iff.1 hj
  rw[List.getElem?_eq_none (by omega)]; rfl
 | some d =>
  have hjl:=(List.getElem?_eq_some_iff.1 hj).1
  have hr:=hrv j d hj
  rw[List.getD_eq_getElem?_getD,List.getElem?_eq_getElem (by omega)] at hr
  rw[List.getElem?_eq_getElem (by omega)]
  exact congrArg some (Z9e (List.all_eq_true.1 hall d (List.mem_of_getElem? hj)) hr)
theorem Z4a (hobs: ∀ i ob,obs i=some ob->live (h i)=true-> ∃ own,ObR own φ h w (h i) ob) {id:Nat} {ob:Ob} (hq:unpk (obs id)=some ob) (hl:live (h id)=true): ∃ own,ObR own φ h w (h id) ob:=by
 unfold unpk at hq
 split at hq
 ·rename_i ks cs ho
  cases hq
  obtain⟨own,hob⟩:=hobs id _ ho hl
  exact⟨own,Z8S hob⟩
 ·exact hobs id _ hq hl
theorem Zff {t kt et:TypeId} {m k:Operand} {kd:Option IntKind} {z:D} (ho:o.op= .lookup t m k false) (ht:P.underlying t=some (.map kt et)) (hkd:keyK P kt=some kd) (hz:Z7L P et=some z) (hφ:Sub φ w)
  (hobs: ∀ i ob,obs i=some ob->live (h i)=true-> ∃ own,ObR own φ h w (h i) ob) {ds:List D} (hr:RVL φ h [ρ m,ρ k] ds) (hev:evl P dst (.mlook kd z) ds obs K):OpOut P o ρ w (APost φ h w dst K):=by
 match ds,hr,hev with
 | [.map id,key],hr,hev =>
  simp only[evl] at hev
  obtain⟨hv,hl⟩:=hr.1.map_inv
  cases hq:obs id with
  | none=>rw[hq] at hev; exact hev.elim
  | some ob =>
  rw[hq] at hev
  cases ob with
  | cells=>exact hev.elim
  | arr=>exact hev.elim
  | gen g gds =>
  cases g with
  | loop=>exact hev.elim
  | mapC=>exact hev.elim
  | mapB=>exact hev.elim
  | mapS=>exact hev.elim
  | iter=>exact hev.elim
  | map ks =>
  obtain⟨hkk,hev⟩:=hev
  obtain⟨own,hob⟩:=hobs id _ hq hl
  obtain⟨b,vals,oo,hblk,_,hheap,⟨⟨b',hb'⟩,es,clock,rfl,h1,h2,_,_⟩,hlen,hrv,_⟩:=hob
  rw[hb'] at hblk
  cases hblk
  cases hm:Z2n key ks gds with
  | none=>rw[hm] at hev; exact hev.elim
  | some r =>
  rw[hm] at hev
  have hrl:RVL φ h (es.toList.map MapEntry.val) gds:=ZB _ _ (by rw[h2,hlen]) (fun j d hd=>by rw[h2]; exact hrv j d hd)
  have hu:=Z63 hkd
  have hik:=Z4r hkk hr.2.1
  have hc:=fun e=>MapKept.run_checkKey (w:=w) hu hik e 9999
  rcases Z4u hkk hr.2.1 es.toList ks gds 0 r h1 hrl hm with ⟨rfl,hf⟩ | ⟨d,j,v,rfl,hf,hvd⟩
  ·unfold Z7L at hz
   split at hz
   ·rename_i i hi
    split at hz
    ·rename_i zv hzv
     cases hz
     refine OpOut.same hφ (v:=zv) ?_ hev (Z9d φ h zv)
     simp[execOp,ho,hv,hb',Instr.lookup,run_underlying ht,MapKept.run_getObj_map hheap,hc,MapKept.run_findKey hu hf,zeroValue,typeInfo,hi,hzv,Result.andThen]
    ·cases hz
   ·cases hz
  ·refine OpOut.same hφ (v:=v) ?_ hev hvd
   simp[execOp,ho,hv,hb',Instr.lookup,run_underlying ht,MapKept.run_getObj_map hheap,hc,MapKept.run_findKey hu hf,Result.andThen]
theorem Z4U {k:Ext} {ds:List D} (hφ:Sub φ w) (he: ∀ d,extD k ds obs=some d-> ∃ v,(execOp ρ o).run P w= .ok (.value v) w/\RV φ h v d) (hev:evl P dst (.ext k) ds obs K):OpOut P o ρ w (APost φ h w dst K):=by
 have hev':match extD k ds obs with
  | some d=>K d none
  | none=>False:=by
  unfold evl at hev
  exact hev
 cases hd:extD k ds obs with
 | none=>rw[hd] at hev'; exact hev'.elim
 | some d =>
  rw[hd] at hev'
  obtain⟨v,h1,h2⟩:=he d hd
  exact OpOut.same hφ h1 hev' h2
theorem Zcw {t kt et:TypeId} {x:Operand} (ho:o.op= .call { callee:= .builtin .len,args:= #[x],argTypes:= #[t] }) (ht:P.underlying t=some (.map kt et))
  (hobs: ∀ i ob,obs i=some ob->live (h i)=true-> ∃ own,ObR own φ h w (h i) ob) {ds:List D} (hr:RVL φ h [ρ x] ds) {d:D} (he:extD .lenm ds obs=some d): ∃ v,(execOp ρ o).run P w= .ok (.value v) w/\RV φ h v d:=by
 match ds,hr,he with
 | [.map id],hr,he =>
  obtain⟨hv,hl⟩:=hr.1.map_inv
  simp only[extD] at he
  split at he
  ·rename_i ks gds hq
   cases he
   obtain⟨own,b,vals,oo,hblk,_,hheap,⟨⟨b',hb'⟩,es,clock,rfl,h1,h2,_,_⟩,hlen,hrv,_⟩:=Z4a hobs hq hl
   rw[hb'] at hblk
   cases hblk
   have hn:es.size=ks.length:=by
    have:=congrArg List.length h1
    simpa using this
   refine⟨.int .i64 es.size,QB ho ?_,by rw[hn]; exact Z06 _ _⟩
   simp[builtin,hv,hb',Builtin.len_,run_underlying ht,MapKept.run_getObj_map hheap,Result.andThen,goInt]
  ·rename_i ks z gds hq
   cases he
   obtain⟨own,b,vals,oo,hblk,_,hheap,⟨ks',hp,_,_,⟨b',hb'⟩,es,clock,rfl,h1,h2,_,_⟩,hlen,hrv,_⟩:=Z4a hobs hq hl
   rw[hb'] at hblk
   cases hblk
   have hn:es.size=ks.length:=by
    have:=congrArg List.length h1
    rw[<- hp.length_eq]
    simpa using this
   refine⟨.int .i64 es.size,QB ho ?_,by rw[hn]; exact Z06 _ _⟩
   simp[builtin,hv,hb',Builtin.len_,run_underlying ht,MapKept.run_getObj_map hheap,Result.andThen,goInt]
  ·cases he
theorem Zih {k:D} (hk:kOK k=true):RV φ h (keyV k) k:=by
 cases k <;> first | (exact Z06 _ _) | (exact Z4V _) | cases hk
theorem Zap {x:Operand} (ho:o.op= .entry x)
  (hobs: ∀ i ob,obs i=some ob->live (h i)=true-> ∃ own,ObR own φ h w (h i) ob) {ds:List D} (hr:RVL φ h [ρ x] ds) {d:D} (he:extD .entry ds obs=some d): ∃ v,(execOp ρ o).run P w= .ok (.value v) w/\RV φ h v d:=by
 match ds,hr,he with
 | [.ptr id 0],hr,he =>
  simp only[extD] at he
  split at he
  ·rename_i bs ix cl mid hq
   split at he
   ·rename_i ks gds bs' cl' hq2
    split at he
    ·rename_i hc
     obtain⟨rfl,rfl⟩:=hc
     split at he
     ·rename_i i hi
      split at he
      ·rename_i k dd hk hdd
       split at he
       ·rename_i hkk
        cases he
        obtain⟨b0,hh,hx⟩:=hr.1.ptr_inv
        obtain⟨own,b,vals,oo,hblk,_,hheap,⟨⟨b',hb'⟩,bm,rfl,rfl,hix⟩,hlen,hrv,_⟩:=hobs id _ hq (by rw[hh]; rfl)
        rw[hh] at hblk
        cases hblk
        obtain⟨hmv,hml⟩:=(hrv 0 _ rfl).map_inv
        have hmv':h mid= .map (some bm):=by simpa using hmv.symm
        obtain⟨own2,b2,vals2,oo2,hblk2,_,hheap2,⟨rfl,hall2,_,es,rfl,h1,h2,h3,hnd,hlt⟩,hlen2,hrv2,_⟩:=hobs mid _ hq2 hml
        rw[hmv'] at hblk2
        cases hblk2
        have hlk:es.size=ks.length:=by
         have:=congrArg List.length h1
         simpa using this
        have hil:i<es.size:=by
         have:=(List.getElem?_eq_some_iff.1 hk).1
         omega
        have hkey:keyV k=es[i].key:=by
         have:=congrArg (fun l=>l[i]?) h1
         simp only[List.getElem?_map,hk,Option.map_some] at this
         have e2:es.toList[i]? = some es[i]:=by simp[hil]
         rw[e2] at this
         simpa using this.symm
        have hval:valV dd=es[i].val:=by
         have:=congrArg (fun l=>l[i]?) h2
         simp only[List.getElem?_map,hdd,Option.map_some] at this
         have e2:es.toList[i]? = some es[i]:=by simp[hil]
         rw[e2] at this
         simpa using this.symm
        have hborn:bs'.getD i 0=es[i].born:=by
         rw[<- h3]
         have e2:es.toList[i]? = some es[i]:=by simp[hil]
         simp[List.getD,e2]
        obtain⟨ix',rfl⟩: ∃ ix',ix=ix'++[i]:=by
         rcases List.eq_nil_or_concat ix with h0 | ⟨l,a,h0⟩
         ·subst h0; cases hi
         ·rw[List.concat_eq_append] at h0
          subst h0
          simp at hi
          exact⟨l,by rw[hi]⟩
        have hseen:((ix'++[i]).map fun i=>bs'.getD i 0).toArray=((ix'.map fun i=>bs'.getD i 0).toArray).push es[i].born:=by
         rw[List.map_append,<- hborn]; simp
        rw[hseen] at hheap
        refine⟨.tuple #[es[i].key,es[i].val], ?_,.tuple _ _ rfl fun j d' hj=> ?_⟩
        ·have:=run_entry_at (P:=P) w b0 bm cl' _ es cl' es[i] hheap hheap2 (by simp) (by rw[show (es.toList.map fun x=>x.born)=bs' from h3]; exact hnd)
         simp[execOp,ho,hx,this]
        ·match j,hj with
         | 0,hj=>cases hj; rw[<- hkey]; exact Zih hkk
         | 1,hj=>cases hj; rw[<- hval]; exact ZdB (List.all_eq_true.1 hall2 _ (List.mem_of_getElem? hdd))
       ·cases he
      ·cases he
     ·cases he
    ·cases he
   ·cases he
  ·cases he
theorem Zao {t kt et:TypeId} {m k:Operand} {kd:Option IntKind} {z:D} (ho:o.op= .lookup t m k true) (ht:P.underlying t=some (.map kt et)) (hkd:keyK P kt=some kd) (hz:Z7L P et=some z)
  (hobs: ∀ i ob,obs i=some ob->live (h i)=true-> ∃ own,ObR own φ h w (h i) ob) {ds:List D} (hr:RVL φ h [ρ m,ρ k] ds) {d:D} (he:extD (.look2 kd z) ds obs=some d): ∃ v,(execOp ρ o).run P w= .ok (.value v) w/\RV φ h v d:=by
 match ds,hr,he with
 | [.map id,key],hr,he =>
  obtain⟨hv,hl⟩:=hr.1.map_inv
  simp only[extD] at he
  split at he
  ·rename_i ks gds hq
   split at he
   ·rename_i hkk
    split at he
    ·rename_i r hm
     cases he
     obtain⟨own,b,vals,oo,hblk,_,hheap,⟨⟨b',hb'⟩,es,clock,rfl,h1,h2,_,_⟩,hlen,hrv,_⟩:=Z4a hobs hq hl
     rw[hb'] at hblk
     cases hblk
     have hrl:RVL φ h (es.toList.map MapEntry.val) gds:=ZB _ _ (by rw[h2,hlen]) (fun j d hd=>by rw[h2]; exact hrv j d hd)
     have hu:=Z63 hkd
     have hik:=Z4r hkk hr.2.1
     have hc:=fun e=>MapKept.run_checkKey (w:=w) hu hik e 9999
     rcases Z4u hkk hr.2.1 es.toList ks gds 0 r h1 hrl hm with ⟨rfl,hf⟩ | ⟨d,j,v,rfl,hf,hvd⟩
     ·unfold Z7L at hz
      split at hz
      ·rename_i i hi
       split at hz
       ·rename_i zv hzv
        cases hz
        refine⟨.tuple #[zv,.bool false], ?_,.tuple _ _ rfl fun j d' hj=> ?_⟩
        ·simp[execOp,ho,hv,hb',Instr.lookup,run_underlying ht,MapKept.run_getObj_map hheap,hc,MapKept.run_findKey hu hf,zeroValue,typeInfo,hi,hzv,Result.andThen]
        ·match j,hj with
         | 0,hj=>cases hj; exact Z9d φ h zv
         | 1,hj=>cases hj; exact Qx _
       ·cases hz
      ·cases hz
     ·refine⟨.tuple #[v,.bool true], ?_,.tuple _ _ rfl fun j d' hj=> ?_⟩
      ·simp[execOp,ho,hv,hb',Instr.lookup,run_underlying ht,MapKept.run_getObj_map hheap,hc,MapKept.run_findKey hu hf,Result.andThen]
      ·match j,hj with
       | 0,hj=>cases hj; exact hvd
       | 1,hj=>cases hj; exact Qx _
    ·cases he
   ·cases he
  ·cases he
theorem ZbF {hh:Nat->Value} {d:D} {v u:Value} (h:valA d=some v) (hr:RV φ hh u d):u=v:=by
 unfold valA at h
 split at h
 ·rename_i cs
  split at h
  ·rename_i hall
   cases h
   obtain⟨vs,rfl,hs,hc⟩:=hr.agg_inv
   congr 1
   refine Array.ext (by simpa using hs) fun i h1 h2=> ?_
   have hi:i<cs.length:=by simpa using h2
   have hci:cs[i]? = some cs[i]:=List.getElem?_eq_getElem hi
   have hv:=Z9e (List.all_eq_true.1 hall _ (List.getElem_mem hi)) (hc i _ hci)
   rw[Array.getD_eq_getD_getElem?,Array.getElem?_eq_getElem h1,Option.getD_some] at hv
   rw[hv]
   simp
  ·cases h
 ·split at h
  ·rename_i hok
   cases h
   exact Z9e hok hr
  ·cases h
theorem Z9f {hh:Nat->Value} (v:Value):RV φ hh v (datC v):=by
 unfold datC
 split
 ·exact Qx _
 ·exact Z06 _ _
 ·exact Z4V _
 ·exact .undef _
theorem Z9g {hh:Nat->Value} (v:Value):RV φ hh v (datA v):=by
 unfold datA
 split
 ·rename_i vs
  refine .agg _ _ (by simp) fun j d hj=> ?_
  rw[List.getElem?_map] at hj
  cases hq:vs.toList[j]? with
  | none=>rw[hq] at hj; cases hj
  | some u =>
   rw[hq] at hj
   cases hj
   have:vs.getD j Go.undef=u:=by
    rw[Array.getD_eq_getD_getElem?]
    rw[Array.getElem?_toList] at hq
    rw[hq]; rfl
   rw[this]
   exact Z9f u
 ·exact Z9f v
theorem Zcv {t:TypeId} {x:Operand} (ho:o.op= .makeInterface t x) (hu: ∃ u,P.underlying t=some u/\ ∀ ms,u≠ .interface ms) {ds:List D} (hr:RVL φ h [ρ x] ds) {d:D} (he:extD (.mkif t) ds obs=some d): ∃ v,(execOp ρ o).run P w= .ok (.value v) w/\RV φ h v d:=by
 match ds,hr,he with
 | [dx],hr,he =>
  simp only[extD] at he
  split at he
  ·rename_i v hv
   cases he
   obtain⟨u,h1,h2⟩:=hu
   have hx:=ZbF hv hr.1
   refine⟨.iface t v, ?_,.pure (.raw _ rfl)⟩
   simp only[execOp,ho,Instr.makeInterface,hx,Sem.run_bind,run_underlying h1,Result.andThen_ok]
   cases u <;> first | exact absurd rfl (h2 _) | rfl
  ·cases he
theorem ZgF {t:TypeId} {x:Operand} {sz:Nat} (ho:o.op= .load t x) (ha:aggB P t=some true) (hs:szT P t=some sz) {own:Nat->Prop}
  (hobs: ∀ i ob,obs i=some ob->live (h i)=true->ObR own φ h w (h i) ob) {ds:List D} (hr:RVL φ h [ρ x] ds) {d:D} (he:extD (.ldn sz) ds obs=some d): ∃ v,(execOp ρ o).run P w= .ok (.value v) w/\RV φ h v d:=by
 match ds,hr,he with
 | [.ptr id off],hr,he =>
  obtain⟨b,hh,hx⟩:=hr.1.ptr_inv
  simp only[extD] at he
  split at he
  ·rename_i cs hob
   obtain⟨b',vals,e,hb',_,hheap,hsize,hrv,_⟩:=hobs id _ hob (by rw[hh]; rfl)
   rw[hh] at hb'
   cases hb'
   have hcell: ∀ j,j<cs.length->w.cell? ⟨b,j,none⟩=some (vals.getD j Go.undef):=fun j hj=>by
    rw[cell_of_row w b j vals e _ hheap]
    simp[Array.getD_eq_getD_getElem?,hsize,hj]
   split at he
   ·rename_i hq
    cases he
    simp only[Bool.and_eq_true,decide_eq_true_eq] at hq
    refine⟨_,QY ho hx ha hs (fun j=>vals.getD (off+j) Go.undef) (fun j hj=>hcell _ (by omega)),Z4W (by simp; omega) ?_⟩
    intro j d hd
    rw[List.getElem?_take] at hd
    split at hd
    ·rw[List.getElem?_drop] at hd
     exact hrv _ _ hd
    ·cases hd
   ·cases he
  ·cases he
def Zed (P:Program) (t:TypeId):Option D:=match P.info? t with
 | some i=>match i.zero with
  | some z=>some (datA z)
  | none=>none
 | none=>none
theorem ZgE {t xt:TypeId} {x:Operand} {z:D} (ho:o.op= .typeAssert x xt t true) (hu: ∃ u,P.underlying t=some u/\ ∀ ms,u≠ .interface ms) (hz:Zed P t=some z) {ds:List D} (hr:RVL φ h [ρ x] ds) {d:D} (he:extD (.tas t z) ds obs=some d): ∃ v,(execOp ρ o).run P w= .ok (.value v) w/\RV φ h v d:=by
 match ds,hr,he with
 | [.raw v],hr,he =>
  simp only[extD] at he
  obtain⟨u,h1,h2⟩:=hu
  have hx:ρ x=v:=hr.1.raw_inv
  have hzero: ∃ zv,(zeroValue t).run P w= .ok zv w/\z=datA zv:=by
   unfold Zed at hz
   split at hz
   ·rename_i i hi
    split at hz
    ·rename_i zv hzv
     cases hz
     exact⟨zv,by simp[zeroValue,typeInfo,hi,hzv,Result.andThen],rfl⟩
    ·cases hz
   ·cases hz
  obtain⟨zv,hzr,rfl⟩:=hzero
  have hf:RV φ h (.tuple #[zv,.bool false]) (.tuple [datA zv,.bool false]):= .tuple _ _ rfl fun j d' hj=>by
   match j,hj with
   | 0,hj=>cases hj; exact Z9g zv
   | 1,hj=>cases hj; exact Qx _
  split at he
  ·cases he
   refine⟨_, ?_,hf⟩
   simp only[execOp,ho,Instr.typeAssert,hx,Sem.run_bind,run_underlying h1,Result.andThen_ok]
   cases u <;> first | exact absurd rfl (h2 _) | simp[hzr,Result.andThen]
  ·rename_i t' x'
   split at he
   ·rename_i htt
    cases he
    refine⟨.tuple #[x',.bool true], ?_,.tuple _ _ rfl fun j d' hj=> ?_⟩
    ·simp only[execOp,ho,Instr.typeAssert,hx,Sem.run_bind,run_underlying h1,Result.andThen_ok]
     cases u <;> first | exact absurd rfl (h2 _) | simp[htt,Result.andThen]
    ·match j,hj with
     | 0,hj=>cases hj; exact Z9g x'
     | 1,hj=>cases hj; exact Qx _
   ·rename_i htt
    cases he
    refine⟨_, ?_,hf⟩
    simp only[execOp,ho,Instr.typeAssert,hx,Sem.run_bind,run_underlying h1,Result.andThen_ok]
    cases u <;> first | exact absurd rfl (h2 _) | simp[htt,hzr,Result.andThen]
  ·cases he
theorem Zas {t:TypeId} (ht:kdOf P t=some 3) {a:Addr} {n c:Nat} {y:Value} (hy:y= .slice none 0 0):(Op.equal t (.slice (some a) n c) y).run P w= .ok false w:=by
 have hq: ∀ n':Nat,(Op.equalIn (n'+1) t (.slice (some a) n c) y).run P w= .ok false w:=fun n'=>by
  obtain⟨e,hu⟩:=Za7 ht
  rw[hy]; simp[Op.equalIn,run_underlying hu]
 exact hq 9999
theorem Z7q {op:BinOp} {neg:Bool} (hop:op=(if neg=true then .neq else .eql)) {t yt:TypeId} {x y:Operand} (ho:o.op= .binOp op t x y yt) (ht:kdOf P t=some 3) (hc:cst x || cst y)
  (hobs: ∀ i ob,obs i=some ob->live (h i)=true-> ∃ own,ObR own φ h w (h i) ob) {ds:List D} (hr:RVL φ h [ρ x,ρ y] ds) {d:D} (he:extD (.eqs3 neg) ds obs=some d): ∃ v,(execOp ρ o).run P w= .ok (.value v) w/\RV φ h v d:=by
 match ds,hr,he with
 | [a,b],hr,he =>
  simp only[extD] at he
  have key: ∀ r:Bool,(∃ q n c,ρ x= .slice q n c)->(Op.equal t (ρ x) (ρ y)).run P w= .ok r w->d= .bool (ngB neg r)-> ∃ v,(execOp ρ o).run P w= .ok (.value v) w/\RV φ h v d:=fun r ⟨q,n,c,hx⟩ heq hd=>by
   rw[hd]
   have hg:(eqGuard op t x y (ρ x) (ρ y)).run P w= .ok () w:=Z34 hc (by rw[hx]; simp)
   refine⟨_, ?_,Qx _⟩
   cases neg with
   | true =>
    simp only[if_true] at hop
    subst hop
    have hb:(binOp .neq t (ρ x) (ρ y)).run P w= .ok (.bool (!r)) w:=by rw[hx] at heq ⊢; simp[binOp,heq]
    simp[execOp,ho,hg,hb,ngB]
   | false =>
    simp only[Bool.false_eq_true,if_false] at hop
    subst hop
    have hb:(binOp .eql t (ρ x) (ρ y)).run P w= .ok (.bool r) w:=by rw[hx] at heq ⊢; simp[binOp,heq]
    simp[execOp,ho,hg,hb,ngB]
  split at he
  ·rename_i r hr3
   cases he
   split at hr3
   ·rename_i id
    split at hr3
    ·rename_i fz sz e q es hq
     split at hr3
     ·cases hr3
      have hv:=hr.1.vec_inv
      have hl:live (h id)=true:=by
       have h0:=hr.1
       generalize ρ x=vv at h0
       cases h0 with
       | pure r=>cases r
       | vec _ hl=>exact hl
      obtain⟨own,_,_,xs,hown,_⟩:=hobs id _ hq hl
      rcases hown.2 with ⟨_,h0⟩ | ⟨g,cap,cur,hhv,_⟩
      ·cases h0
      ·have hx:ρ x= .slice (some ⟨g,0,none⟩) (q::es).length cap:=hv.trans hhv
       exact key false ⟨_,_,_,hx⟩ (by rw[hx]; exact Zas ht hr.2.1.nils_inv) rfl
     ·cases hr3
    ·cases hr3
   ·rename_i a' _
    have heq:=Z5c (P:=P) (w:=w) ht hr3 hr.1 hr.2.1
    refine key r ?_ heq rfl
    unfold eqD at hr3
    split at hr3 <;> try (simp at *; done)
    ·rcases hr.1.slice_inv.slice_inv with ⟨⟨a,c,h,_⟩,_⟩ | ⟨b,off,cap,sz,vals,h,_⟩
     ·exact⟨_,_,_,h⟩
     ·exact⟨_,_,_,h⟩
    ·exact⟨_,_,_,hr.1.nils_inv⟩
  ·cases he
end
end Go.Sx
namespace Go.Sx
open Go.RowKit
variable [Globs] [Codes]
def St.clean (i:Nat) (s:St):Bool:=s.tm.all (fun p=> !(D.men i p.2)) && s.ob.all fun p=> !(Ob.men i p.2)
theorem St.clean_tm {i:Nat} {s:St} (h:s.clean i=true) {t:Nat} {d:D} (hl:lk s.tm t=some d):D.men i d=false:=by
 simp only[St.clean,Bool.and_eq_true] at h
 have h1:=h.1
 clear h
 generalize s.tm=l at *
 induction l with
 | nil=>simp[lk] at hl
 | cons p l ih =>
  obtain⟨j,a⟩:=p
  simp only[List.all_cons,Bool.and_eq_true,Bool.not_eq_true'] at h1
  simp only[lk] at hl
  split at hl
  ·cases hl; exact h1.1
  ·exact ih hl h1.2
theorem St.clean_ob {i:Nat} {s:St} (h:s.clean i=true) {t:Nat} {d:Ob} (hl:lk s.ob t=some d):Ob.men i d=false:=by
 simp only[St.clean,Bool.and_eq_true] at h
 have h1:=h.2
 clear h
 generalize s.ob=l at *
 induction l with
 | nil=>simp[lk] at hl
 | cons p l ih =>
  obtain⟨j,a⟩:=p
  simp only[List.all_cons,Bool.and_eq_true,Bool.not_eq_true'] at h1
  simp only[lk] at hl
  split at hl
  ·cases hl; exact h1.1
  ·exact ih hl h1.2
section
variable {cx:Cx} {s:St} {φ φ':Mem} {h:Nat->Value} {tmps:Array Value} {w w':World}
theorem ObR.blk_lt {own:Nat->Prop} {hv:Value} {o:Ob} (hob:ObR own φ h w hv o) {b:Nat} (hb:blk hv=some b):b<w.heap.size/\own b:=by
 cases o with
 | cells cs =>
  obtain⟨b',vals,e,rfl,ho,hh,_⟩:=hob
  cases hb
  exact⟨(Array.getElem?_eq_some_iff.1 hh).1,ho⟩
 | gen g ds =>
  obtain⟨b',vals,o,hbk,ho,hh,_⟩:=hob
  rw[hb] at hbk
  cases hbk
  exact⟨(Array.getElem?_eq_some_iff.1 hh).1,ho⟩
 | arr fz sz e es =>
  obtain⟨_,_,xs,hown,_,hblk⟩:=hob
  refine⟨?_,(hblk b hb).1⟩
  rcases hown.2 with ⟨rfl,_⟩ | ⟨g,cap,cur,rfl,_,hg,_⟩
  ·cases hb
  ·cases hb
   exact (Array.getElem?_eq_some_iff.1 hg).1
theorem ObR.keep {own own':Nat->Prop} (hown: ∀ b,own b->own' b) {h h':Nat->Value} {hv:Value} {o:Ob} (hob:ObR own φ h w hv o) (hw: ∀ b,blk hv=some b->w'.heap[b]? = w.heap[b]?)
  (hmono: ∀ b off u,φ b off=some u->φ' b off=some u) (hφ: ∀ b,blk hv=some b-> ∀ off,φ' b off=φ b off) (hrv: ∀ v d,d∈o.parts->RV φ h v d->RV φ' h' v d):ObR own' φ' h' w' hv o:=by
 cases o with
 | cells cs =>
  obtain⟨b,vals,e,rfl,ho,hh,hs,hc,hn⟩:=hob
  exact⟨b,vals,e,rfl,hown b ho,by rw[hw b rfl]; exact hh,hs,fun j d hd=>hrv _ _ (List.mem_of_getElem? hd) (hc j d hd),fun off=>by rw[hφ b rfl]; exact hn off⟩
 | gen g ds =>
  obtain⟨b,vals,o,hbk,ho,hh,hg,hs,hc,hn⟩:=hob
  exact⟨b,vals,o,hbk,hown b ho,by rw[hw b hbk]; exact hh,hg,hs,fun j d hd=>hrv _ _ (List.mem_of_getElem? hd) (hc j d hd),fun off=>by rw[hφ b hbk]; exact hn off⟩
 | arr fz sz e es =>
  obtain⟨h1,h2,xs,⟨hx,hor⟩,hrep,hblk⟩:=hob
  refine⟨h1,h2,xs,⟨hx, ?_⟩,fun i x j d hi hj=>(hrep i x j d hi hj).mono hmono,fun b hb=>⟨hown b (hblk b hb).1,fun off=>by rw[hφ b hb]; exact (hblk b hb).2 off⟩⟩
  rcases hor with hor | ⟨g,cap,cur,rfl,r1,r2,r3⟩
  ·exact .inl hor
  ·exact .inr ⟨g,cap,cur,rfl,r1,by rw[hw g rfl]; exact r2,r3⟩
def hxx (h:Nat->Value) (dst:Nat) (hv:Value) (nb:Option Ob):Nat->Value:=hx h dst hv nb
def St.add (s:St) (dst id:Nat) (d:D) (nb:Option Ob):St :=
 { tm:=(dst,d)::s.tm,ob:=match nb with | none=>s.ob | some o=>(id,o)::s.ob }
theorem Z4n {φ':Mem} (hmono: ∀ b o u,φ b o=some u->φ' b o=some u) (hnew: ∀ b o u,φ' b o=some u->φ b o=none->w.heap.size<=b) {b:Nat} (hb:b<w.heap.size) (off:Nat):φ' b off=φ b off:=by
 cases hq:φ b off with
 | some u=>exact hmono b off u hq
 | none =>
  cases hq':φ' b off with
  | none=>rfl
  | some u=>exact absurd (hnew b off u hq' hq) (by omega)
theorem Mod.astep (hm:Mod cx s φ h tmps w) {dst id:Nat} {d:D} {nb:Option Ob} {v hv:Value} (hs:AStep φ h w id d nb v φ' hv w') (hd:dst<cx.N) (hid:cx.bs<=id) (hct:nb≠none-> ∀ t d,lk s.tm t=some d->D.men id d=false) (hco:nb≠none-> ∀ t o,lk s.ob t=some o->Ob.men id o=false) (hone:nb≠none->hv.oneCell'=true) :
  Mod cx (s.add dst id d nb) φ' (hx h id hv nb) (tmps.setIfInBounds dst v) w':=by
 have hsame:=fun {b} hb off=>Z4n (b:=b) hs.mono hs.new hb off
 have hold: ∀ t e,lk s.tm t=some e->RV φ' (hx h id hv nb) (tmps.getD t Go.undef) e:=fun t e he=>by
  have:=(hm.tm t e he).mono hs.mono
  cases nb with
  | none=>exact this
  | some o=>exact this.upd id hv (hct (by simp) _ _ he)
 refine⟨by simp[hm.size], ?_,hs.mem,fun b o v hb=>hs.mono b o v (hm.ext b o v hb), ?_, ?_, ?_,hs.below.os.trans hm.os,hs.below.tape.trans hm.tape,hs.below.output.trans hm.output,Nat.le_trans hm.grow hs.below.size, ?_, ?_, ?_, ?_⟩
 ·intro t e he
  simp only[St.add,lk] at he
  split at he
  ·rename_i ht
   cases he
   have:(tmps.setIfInBounds dst v).getD t Go.undef=v:=by
    subst ht
    have:t<tmps.size:=by rw[hm.size]; exact hd
    simp[Array.getD,this]
   rw[this]; exact hs.rv
  ·rename_i ht
   have:(tmps.setIfInBounds dst v).getD t Go.undef=tmps.getD t Go.undef:=by
    simp[Array.getD_eq_getD_getElem?,Ne.symm ht]
   rw[this]
   exact hold t e he
 ·intro b o u hu h0
  cases hq:φ b o with
  | some u'=>exact hm.new b o u' hq h0
  | none=>exact .inl (Nat.le_trans hm.grow (hs.new b o u hu hq))
 ·intro i o ho
  have hk: ∀ o',lk s.ob i=some o'->(nb≠none->i≠id)->ObR cx.own φ' (hx h id hv nb) w' (hx h id hv nb i) o':=fun o' ho' hne=>by
   have hob:=hm.ob i o' ho'
   have hi:hx h id hv nb i=h i:=by
    cases nb with
    | none=>rfl
    | some _=>exact Zj _ _ (hne (by simp))
   rw[hi]
   refine hob.keep (fun _ hb=>hb) (fun b hb=>hs.below.block b (hob.blk_lt hb).1) hs.mono (fun b hb off=>hsame (hob.blk_lt hb).1 off) (fun v d hdm r=> ?_)
   have:=r.mono hs.mono
   cases nb with
   | none=>exact this
   | some _ =>
    have hmen:=hco (by simp) _ _ ho'
    obtain⟨j,hj⟩:=List.mem_iff_getElem?.1 hdm
    exact this.upd id hv (Qv hmen j d hj)
  cases nb with
  | none=>exact hk o ho (fun h=>absurd rfl h)
  | some ob =>
   simp only[St.add,lk] at ho
   split at ho
   ·rename_i hi
    cases ho
    subst hi
    have:=hs.ob _ rfl
    have e: ∀ q,hx h i hv (some q) i=hv:=fun _=>Zw _ _ _
    rw[e]
    exact this.keep (fun b hb=>Or.inl (Nat.le_trans hm.grow hb)) (fun _ _=>rfl) (fun _ _ _ h=>h) (fun _ _ _=>rfl) (fun _ _ _ r=>r)
   ·rename_i hi
    exact hk o ho (fun _=>hi)
 ·intro i j b hi hj hbi hbj
  cases nb with
  | none=>exact hm.sep i j b hi hj hbi hbj
  | some ob =>
   have hnew: ∀ b,blk hv=some b->w.heap.size<=b:=fun b hb=>((hs.ob ob rfl).blk_lt hb).2
   have hlt: ∀ i b,i≠id->(lk (s.add dst id d (some ob)).ob i).isSome->blk (h i)=some b->b<w.heap.size:=fun i b hne hi hb=>by
    simp only[St.add,lk,if_neg hne] at hi
    obtain⟨o,ho⟩:=Option.isSome_iff_exists.1 hi
    exact ((hm.ob i o ho).blk_lt hb).1
   by_cases h1:i=id <;> by_cases h2:j=id
   ·rw[h1,h2]
   ·subst h1
    simp only[hx,Zw] at hbi
    simp only[hx,Zj h hv h2] at hbj
    exact absurd (hlt j b h2 hj hbj) (by have:=hnew b hbi; omega)
   ·subst h2
    simp only[hx,Zw] at hbj
    simp only[hx,Zj h hv h1] at hbi
    exact absurd (hlt i b h1 hi hbi) (by have:=hnew b hbj; omega)
   ·simp only[hx,Zj h hv h1] at hbi
    simp only[hx,Zj h hv h2] at hbj
    simp only[St.add,lk,if_neg h1] at hi
    simp only[St.add,lk,if_neg h2] at hj
    exact hm.sep i j b hi hj hbi hbj
 ·intro i
  cases nb with
  | none=>exact hm.one i
  | some _ =>
   simp only[hx,updH]
   split
   ·exact hone (by simp)
   ·exact hm.one i
 ·intro b hb hz
  rw[hs.below.block b (Nat.lt_of_lt_of_le hb hm.grow)]
  exact hm.frame b hb hz
 ·intro i hi
  rw[<- hm.hfix i hi]
  cases nb with
  | none=>rfl
  | some _=>exact Zj _ _ (by omega)
 ·intro b o hb
  obtain⟨h1,h2,h3⟩:=hm.kept b o hb
  have hlt:=(Array.getElem?_eq_some_iff.1 h1).1
  refine⟨by rw[hs.below.block b hlt]; exact h1,fun off=>by rw[hsame hlt off]; exact h2 off,fun i hi=> ?_⟩
  cases nb with
  | none=>exact h3 i hi
  | some ob =>
   by_cases hid':i=id
   ·subst hid'
    simp only[hx,Zw]
    intro he
    have:=((hs.ob ob rfl).blk_lt he).2
    omega
   ·simp only[hx,Zj h hv hid']
    simp only[St.add,lk,if_neg hid'] at hi
    exact h3 i hi
end
end Go.Sx
namespace Go.Sx
open Go.RowKit
variable [Globs] [Codes]
theorem Z1E: ∀ (ds:List D) (off:Nat) (cs:List D) (j:Nat) (d:D),(setAt cs off ds)[j]? = some d->(off<=j/\j<off+ds.length/\ds[j-off]? = some d)\/(¬ (off<=j/\j<off+ds.length)/\cs[j]? = some d)
 | [],off,cs,j,d,h=> .inr ⟨by simp only[List.length_nil]; omega,h⟩
 | x::ds,off,cs,j,d,h=>by
  simp only[setAt] at h
  rcases Z1E ds (off+1) (cs.set off x) j d h with ⟨h1,h2,h3⟩ | ⟨h1,h2⟩
  ·refine .inl ⟨by omega,by simp; omega, ?_⟩
   rw[show j-off=(j-(off+1))+1 by omega]
   simpa using h3
  ·rw[List.getElem?_set] at h2
   split at h2
   ·rename_i hj
    subst hj
    split at h2
    ·cases h2
     exact .inl ⟨Nat.le_refl _,by simp,by simp⟩
    ·cases h2
   ·exact .inr ⟨by simp only[List.length_cons]; omega,h2⟩
section
variable {cx:Cx} {s:St} {φ φ':Mem} {h:Nat->Value} {tmps:Array Value} {w w':World}
theorem Mod.setRow (hm:Mod cx s φ h tmps w) {id b:Nat} {cs cs':List D} {vals vals':Array Value} {e:TypeId} (hl:lk s.ob id=some (.cells cs)) (hb:h id= .pointer (some ⟨b,0,none⟩))
  (hw:w.heap[b]? = some (.cells vals e (0,0))) (hc:CR φ h vals' cs'):Mod cx { s with ob:=(id,.cells cs')::s.ob } φ h tmps (w.setRow b vals'):=by
 have hob:=hm.ob id _ hl
 obtain⟨b',vals0,e0,hb',hown,hh,hs,hrv,hnone⟩:=hob
 rw[hb] at hb'
 cases hb'
 have hother: ∀ k,k≠b->(w.setRow b vals').heap[k]? = w.heap[k]? := fun k hk=>setRow_other w b k _ hk
 refine⟨hm.size,hm.tm, ?_,hm.ext,hm.new, ?_, ?_,hm.os,hm.tape,hm.output,by simpa using hm.grow,hm.one, ?_,hm.hfix, ?_⟩
 ·intro g o v hv
  have hg:g≠b:=fun e=>by rw[e,hnone] at hv; cases hv
  rw[World.cell?_of_block (w:=w) (a:=⟨g,o,none⟩) (hother g hg)]
  exact hm.mem g o v hv
 ·intro i o ho
  simp only[lk] at ho
  split at ho
  ·rename_i hi
   cases ho
   subst hi
   exact⟨b,vals',e,hb,hown,setRow_heap w b vals vals' e _ hw,hc.1,hc.2,hnone⟩
  ·rename_i hi
   refine (hm.ob i o ho).keep (fun _ hb=>hb) (fun k hk=>hother k ?_) (fun _ _ _ h=>h) (fun _ _ _=>rfl) (fun _ _ _ r=>r)
   intro e'
   subst e'
   exact hi (hm.sep i id k (by simp[ho]) (by simp[hl]) hk (by rw[hb]; rfl))
 ·intro i j k hi hj hbi hbj
  have hh: ∀ i,(lk ((id,Ob.cells cs')::s.ob) i).isSome->(lk s.ob i).isSome:=fun i hi=>by
   simp only[lk] at hi
   split at hi
   ·rename_i e'; rw[e',hl]; rfl
   ·exact hi
  exact hm.sep i j k (hh i hi) (hh j hj) hbi hbj
 ·intro k hk hz
  have:k≠b:=fun e'=>by
   subst e'
   rcases hown with h1 | h1
   ·omega
   ·exact hz h1
  rw[hother k this]
  exact hm.frame k hk hz
 ·intro k o hk
  obtain⟨h1,h2,h3⟩:=hm.kept k o hk
  have:k≠b:=fun e'=>h3 id (by simp[hl]) (by rw[hb,e']; rfl)
  refine⟨by rw[hother k this]; exact h1,h2,fun i hi=>h3 i ?_⟩
  simp only[lk] at hi
  split at hi
  ·rename_i e'; rw[e',hl]; rfl
  ·exact hi
theorem CR.setAt {vals:Array Value} {cs ds:List D} {vs:List Value} (off:Nat) (hc:CR φ h vals cs) (hv:RVL φ h vs ds) (hle:off+ds.length<=cs.length) :
  CR φ h (vals.toList.take off++vs++vals.toList.drop (off+vs.length)).toArray (setAt cs off ds):=by
 have hl:=hv.length
 have hs:=hc.1
 refine⟨by simp[QA]; omega,fun j d hd=> ?_⟩
 have hgd:(vals.toList.take off++vs++vals.toList.drop (off+vs.length)).toArray.getD j Go.undef=(vals.toList.take off++(vs++vals.toList.drop (off+vs.length))).getD j Go.undef:=by
  simp[Array.getD_eq_getD_getElem?,List.getD]
 rw[hgd]
 rcases Z1E ds off cs j d hd with ⟨h1,h2,h3⟩ | ⟨h1,h2⟩
 ·have:=hv.get (j-off) d h3
  have e1:(vals.toList.take off++(vs++vals.toList.drop (off+vs.length))).getD j Go.undef=vs.getD (j-off) Go.undef:=by
   simp only[List.getD]
   rw[List.getElem?_append_right (by simp; omega),List.getElem?_append_left (by simp; omega)]
   congr 2
   simp; omega
  rw[e1]; exact this
 ·have:=hc.2 j d h2
  have hj:j<cs.length:=(List.getElem?_eq_some_iff.1 h2).1
  have e1:(vals.toList.take off++(vs++vals.toList.drop (off+vs.length))).getD j Go.undef=vals.getD j Go.undef:=by
   simp only[List.getD,Array.getD_eq_getD_getElem?]
   by_cases hlt:j<off
   ·rw[List.getElem?_append_left (by simp; omega),List.getElem?_take,if_pos hlt]; simp
   ·rw[List.getElem?_append_right (by simp; omega),List.getElem?_append_right (by simp; omega),List.getElem?_drop]
    simp only[List.length_take,Array.length_toList,Array.getElem?_toList]
    congr 2
    omega
  rw[e1]; exact this
theorem Z3L {P:Program} {o:Oper} {ρ:Operand->Value} {t:TypeId} {x y:Operand} {b off sz:Nat} {vals:Array Value} {e:TypeId} (ho:o.op= .store t x y) (hs:szT P t=some sz) (hx:ρ x= .pointer (some ⟨b,off,none⟩))
  (hw:w.heap[b]? = some (.cells vals e (0,0))) (hsz:(ρ y).cells.size=sz) (hle:off+sz<=vals.size) (h1: ∀ v∈(ρ y).cells.toList,v.oneCell'=true) :
  (execOp ρ o).run P w= .ok .skip (w.setRow b (vals.toList.take off++(ρ y).cells.toList++vals.toList.drop (off+(ρ y).cells.toList.length)).toArray):=by
 have hst:=run_storeCells_at P b off e (ρ y).cells.toList 0 vals w hw (by simp; omega) h1
 simp only[Nat.add_zero] at hst
 simp only[execOp,ho,hx,Instr.storeAt,Instr.sureAddr,storeVar,Sem.run_bind,Sem.run_pure,Result.andThen_ok,Q5 hs,hsz,ne_eq,not_true_eq_false,if_false,hst]
def D.flat:D->Bool
 | .agg cs=>cs.all D.one
 | d=>D.one d
theorem Z3S {v:Value} {d:D} (hh:HOne h) (r:RV φ h v d) (hf:D.flat d=true): ∀ u∈v.cells.toList,u.oneCell'=true:=by
 by_cases ha: ∃ cs,d= .agg cs
 ·obtain⟨cs,rfl⟩:=ha
  obtain⟨vs,rfl,hs,hc⟩:=r.agg_inv
  intro u hu
  obtain⟨j,hj⟩:=List.mem_iff_getElem?.1 hu
  have hlt:j<cs.length:=by
   have:=(List.getElem?_eq_some_iff.1 hj).1
   rw[<- hs]; simpa [Value.cells] using this
  have hcj:=hc j _ (List.getElem?_eq_getElem hlt)
  have:vs.getD j Go.undef=u:=by
   simp only[Value.cells,Array.getElem?_toList] at hj
   simp[Array.getD_eq_getD_getElem?,hj]
  rw[this] at hcj
  exact hcj.one hh (List.all_eq_true.1 hf _ (List.getElem_mem hlt))
 ·have h1:D.one d=true:=by
   cases d <;> first | exact hf | exact absurd ⟨_,rfl⟩ ha
  have h2:=r.one hh h1
  rw[Z5h h2]
  intro u hu
  simp at hu
  subst hu
  exact h2
theorem Z7n {d:D} (hf:D.flat d=true):D.okc d=true:=by
 cases d <;> first | exact hf | rfl
theorem Z5H {P:Program} {o:Oper} {ρ:Operand->Value} {t:TypeId} {x y:Operand} {sz id off:Nat} {cs:List D} {d:D} (ho:o.op= .store t x y) (hs:szT P t=some sz) (hm:Mod cx s φ h tmps w)
  (hx:RV φ h (ρ x) (.ptr id off)) (hy:RV φ h (ρ y) d) (hl:lk s.ob id=some (.cells cs)) (hf:D.flat d=true) (hd:d.cells.length=sz) (hle:off+sz<=cs.length) :
  ∃ w',(execOp ρ o).run P w= .ok .skip w'/\Mod cx { s with ob:=(id,.cells (Sx.setAt cs off d.cells))::s.ob } φ h tmps w':=by
 obtain⟨b,hb,hxv⟩:=hx.ptr_inv
 have hob:=hm.ob id _ hl
 obtain⟨b',vals,e,hb',hown,hh,hsz,hrv,hnone⟩:=hob
 rw[hb] at hb'
 cases hb'
 have hcr:=hy.cells hm.one (Z7n hf)
 have hlen:(ρ y).cells.size=sz:=by rw[hcr.1,hd]
 refine⟨_,Z3L ho hs hxv hh hlen (by omega) (Z3S hm.one hy hf),hm.setRow hl hb hh ?_⟩
 refine CR.setAt off ⟨hsz,hrv⟩ (ZB _ _ (by simpa using hcr.1) fun j d' hd'=> ?_) (by omega)
 have:=hcr.2 j d' hd'
 simpa [Array.getD_eq_getD_getElem?,List.getD] using this
end
theorem QI {α:Type} (A vs:List α) (off p:Nat) (h:off+vs.length<=A.length):(A.take off++vs++A.drop (off+vs.length))[p]? = if off<=p/\p<off+vs.length then vs[p-off]? else A[p]? := by
 by_cases h1:p<off
 ·rw[if_neg (by omega),List.append_assoc,List.getElem?_append_left (by rw[List.length_take]; omega),List.getElem?_take,if_pos h1]
 ·by_cases h2:p<off+vs.length
  ·rw[if_pos ⟨by omega,h2⟩,List.append_assoc,List.getElem?_append_right (by rw[List.length_take]; omega),List.getElem?_append_left (by rw[List.length_take]; omega)]
   rw[List.length_take]; congr 1; omega
  ·rw[if_neg (by omega),List.getElem?_append_right (by rw[List.length_append,List.length_take]; omega),List.getElem?_drop]
   rw[List.length_append,List.length_take]; congr 1; omega
section
variable {cx:Cx} {s:St} {φ φ':Mem} {h:Nat->Value} {tmps:Array Value} {w w':World}
theorem Mod.turn (hm:Mod cx s φ h tmps w) {id b:Nat} {o0 o':Ob} (hother: ∀ k,k≠b->w'.heap[k]? = w.heap[k]?) (hos:w'.os=w.os) (htape:w'.tape=w.tape) (hout:w'.output=w.output) (hgrow:w.heap.size<=w'.heap.size) (hl:lk s.ob id=some o0) (hb:blk (h id)=some b) (hnone: ∀ off,φ b off=none)
  (hob':ObR cx.own φ h w' (h id) o'):Mod cx { s with ob:=(id,o')::s.ob } φ h tmps w':=by
 have hown:=((hm.ob id _ hl).blk_lt hb).2
 refine⟨hm.size,hm.tm, ?_,hm.ext,hm.new, ?_, ?_,hos.trans hm.os,htape.trans hm.tape,hout.trans hm.output,Nat.le_trans hm.grow hgrow,hm.one, ?_,hm.hfix, ?_⟩
 ·intro g o v hv
  have hg:g≠b:=fun e=>by rw[e,hnone] at hv; cases hv
  rw[World.cell?_of_block (w:=w) (a:=⟨g,o,none⟩) (hother g hg)]
  exact hm.mem g o v hv
 ·intro i o ho
  simp only[lk] at ho
  split at ho
  ·rename_i hi
   cases ho
   subst hi
   exact hob'
  ·rename_i hi
   refine (hm.ob i o ho).keep (fun _ hb=>hb) (fun k hk=>hother k ?_) (fun _ _ _ h=>h) (fun _ _ _=>rfl) (fun _ _ _ r=>r)
   intro e'
   subst e'
   exact hi (hm.sep i id k (by simp[ho]) (by simp[hl]) hk hb)
 ·intro i j k hi hj hbi hbj
  have hh: ∀ i,(lk ((id,o')::s.ob) i).isSome->(lk s.ob i).isSome:=fun i hi=>by
   simp only[lk] at hi
   split at hi
   ·rename_i e'; rw[e',hl]; rfl
   ·exact hi
  exact hm.sep i j k (hh i hi) (hh j hj) hbi hbj
 ·intro k hk hz
  have:k≠b:=fun e'=>by
   subst e'
   rcases hown with h1 | h1
   ·omega
   ·exact hz h1
  rw[hother k this]
  exact hm.frame k hk hz
 ·intro k o hk
  obtain⟨h1,h2,h3⟩:=hm.kept k o hk
  have:k≠b:=fun e'=>h3 id (by simp[hl]) (by rw[hb,e'])
  refine⟨by rw[hother k this]; exact h1,h2,fun i hi=>h3 i ?_⟩
  simp only[lk] at hi
  split at hi
  ·rename_i e'; rw[e',hl]; rfl
  ·exact hi
theorem Mod.setBlk (hm:Mod cx s φ h tmps w) {id b:Nat} {o0 o':Ob} {vals':Array Value} (hl:lk s.ob id=some o0) (hb:blk (h id)=some b) (hnone: ∀ off,φ b off=none)
  (hob':ObR cx.own φ h (w.setRow b vals') (h id) o'):Mod cx { s with ob:=(id,o')::s.ob } φ h tmps (w.setRow b vals') :=
 hm.turn (fun k hk=>setRow_other w b k _ hk) rfl rfl rfl (by simp) hl hb hnone hob'
theorem Z4H {P:Program} {o:Oper} {ρ:Operand->Value} {t:TypeId} {x y:Operand} {sz id i j sz':Nat} {e:TypeId} {es:List (List D)} {cs:List D} {d:D} (ho:o.op= .store t x y) (hs:szT P t=some sz) (hm:Mod cx s φ h tmps w)
  (hx:RV φ h (ρ x) (.vptr id i j sz')) (hy:RV φ h (ρ y) d) (hl:lk s.ob id=some (.arr false sz' e es)) (hi:es[i]? = some cs) (hf:D.flat d=true) (hp:d.cells.all D.pur=true) (hd:d.cells.length=sz) (hle:j+sz<=sz') :
  ∃ w',(execOp ρ o).run P w= .ok .skip w'/\Mod cx { s with ob:=(id,.arr false sz' e (es.set i (Sx.setAt cs j d.cells)))::s.ob } φ h tmps w':=by
 obtain⟨b,len,cap,hsz0,hh,hxv⟩:=hx.vptr_inv
 have hob:=hm.ob id _ hl
 obtain⟨h0,hlen,xs,⟨hxl,hor⟩,hrep,hblk⟩:=hob
 rw[hh] at hor hblk
 rcases hor with ⟨h1,_⟩ | ⟨g,cap',cur,hv,_,hg,hnc,hcm,hcs,htake⟩
 ·cases h1
 cases hv
 have hcr:=hy.cells hm.one (Z7n hf)
 have hlv:(ρ y).cells.size=sz:=by rw[hcr.1,hd]
 have hlv2:(ρ y).cells.toList.length=sz:=by simpa using hlv
 have hil:i<es.length:=(List.getElem?_eq_some_iff.1 hi).1
 have hcl:cs.length=sz':=hlen _ (List.mem_of_getElem? hi)
 have hrow:i*sz'+sz'<=es.length*sz':=by
  have:(i+1)*sz'<=es.length*sz':=Nat.mul_le_mul_right _ hil
  rwa [Nat.add_mul,Nat.one_mul] at this
 have hcap:es.length*sz'<=cur.size:=by rw[hcs]; exact Nat.mul_le_mul_right _ hnc
 have hnone: ∀ off,φ b off=none:=fun off=>by
  have:=(hblk b rfl).2 off
  simpa using this
 refine⟨_,Z3L ho hs hxv hg hlv (by omega) (Z3S hm.one hy hf),hm.setBlk hl (by rw[hh]; rfl) hnone ?_⟩
 have hvl: ∀ k d',d.cells[k]? = some d'->Rep φ ((ρ y).cells.toList.getD k Go.undef) d':=fun k d' hk=>by
  have h2:=hcr.2 k d' hk
  have hpu:D.pur d'=true:=List.all_eq_true.1 hp _ (List.mem_of_getElem? hk)
  have:=RV.pur_rep hpu h2
  simpa [Array.getD_eq_getD_getElem?,List.getD] using this
 have hsetl:(Sx.setAt cs j d.cells).length=sz':=by rw[QA]; exact hcl
 rw[hh]
 have hxl2:(i*sz'+j)+(ρ y).cells.toList.length<=xs.length:=by rw[hxl,hlv2]; omega
 have hcl2:(i*sz'+j)+(ρ y).cells.toList.length<=cur.toList.length:=by rw[hlv2,Array.length_toList]; omega
 refine⟨h0, ?_,xs.take (i*sz'+j)++(ρ y).cells.toList++xs.drop (i*sz'+j+(ρ y).cells.toList.length),⟨?_,.inr ⟨b,cap,_,by rw[List.length_set],by assumption,setRow_heap w b cur _ e _ hg,by rw[List.length_set]; exact hnc,hcm, ?_, ?_⟩⟩, ?_, ?_⟩
 ·intro q hq
  rcases List.mem_or_eq_of_mem_set hq with h | h
  ·exact hlen q h
  ·rw[h]; exact hsetl
 ·rw[List.length_set]
  simp only[List.length_append,List.length_take,List.length_drop]
  omega
 ·simp only[List.size_toArray,List.length_append,List.length_take,List.length_drop,Array.length_toList]
  rw[<- hcs]
  rw[Array.length_toList] at hcl2
  omega
 ·rw[List.length_set]
  refine List.ext_getElem? fun p=> ?_
  rw[List.getElem?_take,QI _ _ _ _ hxl2]
  simp only[]
  rw[QI _ _ _ _ hcl2]
  by_cases hpn:p<es.length*sz'
  ·rw[if_pos hpn]
   split
   ·rfl
   ·rw[<- htake,List.getElem?_take,if_pos hpn]
  ·rw[if_neg hpn,if_neg (by omega)]
   rw[List.getElem?_eq_none (by omega)]
 ·intro i' q j' d' hi' hj'
  have hq:q.length=sz':=by
   rw[List.getElem?_set] at hi'
   split at hi'
   ·cases hi'; exact hsetl
   ·exact hlen _ (List.mem_of_getElem? hi')
  have hj2:j'<sz':=by rw[<- hq]; exact (List.getElem?_eq_some_iff.1 hj').1
  rw[List.getD_eq_getElem?_getD,QI _ _ _ _ hxl2,hlv2]
  by_cases hii:i=i'
  ·subst hii
   rw[List.getElem?_set_self hil] at hi'
   cases hi'
   rcases Z1E _ _ _ _ _ hj' with ⟨g1,g2,g3⟩ | ⟨g1,g2⟩
   ·rw[hd] at g2
    rw[if_pos (by omega),show i*sz'+j'-(i*sz'+j)=j'-j by omega,<- List.getD_eq_getElem?_getD]
    exact hvl _ _ g3
   ·rw[hd] at g1
    rw[if_neg (by omega),<- List.getD_eq_getElem?_getD]
    exact hrep i cs j' d' hi g2
  ·rw[List.getElem?_set_ne hii] at hi'
   have hout: ¬ (i*sz'+j<=i'*sz'+j'/\i'*sz'+j'<i*sz'+j+sz):=by
    rcases Nat.lt_or_gt_of_ne hii with hlt | hlt
    ·have:(i+1)*sz'<=i'*sz':=Nat.mul_le_mul_right _ hlt
     rw[Nat.add_mul,Nat.one_mul] at this; omega
    ·have:(i'+1)*sz'<=i*sz':=Nat.mul_le_mul_right _ hlt
     rw[Nat.add_mul,Nat.one_mul] at this; omega
   rw[if_neg hout,<- List.getD_eq_getElem?_getD]
   exact hrep i' q j' d' hi' hj'
 ·intro b' hb'
  refine⟨(hblk b' hb').1,fun off=> ?_⟩
  rw[(hblk b' hb').2 off]
  simp
end
def cpyL (es:List (List D)) (i:Nat) (ys:List (List D)):List (List D):=es.take i++ys.take (es.length-i)++es.drop (i+(ys.take (es.length-i)).length)
def srcP:D->Option (List (List D))
 | .slice ys _=>some ys
 | .nils=>some []
 | _=>none
def badN (sz:Nat) (ys:List (List D)):Nat:=(ys.filter fun q=>decide (q.length≠sz)).length
theorem Z5k {sz:Nat} {ys:List (List D)}:badN sz ys<1 ↔ ∀ q∈ys,q.length=sz:=by
 unfold badN
 rw[Nat.lt_one_iff,List.length_eq_zero_iff,List.filter_eq_nil_iff]
 simp
def stO (sk:SK) (x y:D) (obs:Nat->Option Ob):Option (Nat × Nat × Nat × Ob):=match x with
 | .ptr id off=>match sk with
  | .c sz=>match obs id with
   | some (.cells cs)=>if D.flat y=true/\y.cells.length=sz/\off+sz<=cs.length then some (0,1,id,.cells (setAt cs off y.cells)) else none
   | _=>none
  | _=>none
 | .vptr id i j sz'=>match sk with
  | .c sz=>match obs id with
   | some (.arr false sz2 e es)=>if sz2=sz'/\D.flat y=true/\y.cells.all D.pur=true/\y.cells.length=sz/\j+sz<=sz' then some (i,es.length,id,.arr false sz' e (es.set i (if j=0/\sz=sz' then y.cells else setAt (es.getD i []) j y.cells))) else none
   | _=>none
  | _=>none
 | .map id=>match sk with
  | .m key=>match obs id with
   | some (.gen (.map ks) ds)=>match mput key y ks ds with
    | some (ks',ds')=>some (0,1,id,.gen (.map ks') ds')
    | none=>none
   | some (.gen (.mapC ks cs) [])=>if Z1i y=true then (match mput key y ks cs with
    | some (ks',cs')=>some (0,1,id,.gen (.mapC ks' cs') [])
    | none=>none) else none
   | _=>none
  | _=>none
 | .vec id=>match sk with
  | .cp _ sz=>match obs id with
   | some (.arr false sz2 e es)=>match srcP y with
    | some ys=>if sz2=sz then some (badN sz2 ys,1,id,.arr false sz2 e (cpyL es 0 ys)) else none
    | none=>none
   | _=>none
  | _=>none
 | .vwin id i sz'=>match sk with
  | .cp _ sz=>match obs id with
   | some (.arr false sz2 e es)=>match srcP y with
    | some ys=>if sz2=sz/\sz2=sz' then some (badN sz2 ys,1,id,.arr false sz2 e (cpyL es i ys)) else none
    | none=>none
   | _=>none
  | _=>none
 | _=>none
def mapK (P:Program) (t:TypeId) (k:Operand):Option D:=match k,P.underlying t with
 | .const v,some (.map kt _)=>match keyK P kt with
  | some kd=>if isKD kd (Qs v)=true then some (Qs v) else none
  | none=>none
 | _,_=>none
def Z8g (P:Program) (t:TypeId):Option (Option IntKind):=match P.underlying t with
 | some (.map kt _)=>keyK P kt
 | _=>none
def StOp (P:Program) (o:Oper) (ρ:Operand->Value) (φ:Mem) (h:Nat->Value) (sk:SK) (x y:Operand):Prop :=
 (∃ t sz,sk= .c sz/\o.op= .store t x y/\szT P t=some sz)\/ ∃ t k kd key,sk= .m key/\(o.op= .insert t x k y\/o.op= .mapUpdate t x k y)/\Z8g P t=some kd/\isKD kd key=true/\RV φ h (ρ k) key
theorem Zgf {P:Program} {t:TypeId} {k:Operand} {key:D} (hk:mapK P t k=some key): ∃ v kd,k= .const v/\key=Qs v/\Z8g P t=some kd/\isKD kd key=true:=by
 unfold mapK at hk
 split at hk
 ·rename_i v kt et hu
  split at hk
  ·rename_i kd hkd
   split at hk
   ·rename_i hik
    cases hk
    exact⟨v,kd,rfl,rfl,by simp only[Z8g,hu]; exact hkd,hik⟩
   ·cases hk
  ·cases hk
 ·cases hk
theorem Z7U: ∀ (ds cs:List D),cs.length=ds.length->setAt cs 0 ds=ds:=fun ds cs h=>by
 refine List.ext_getElem? fun k=> ?_
 by_cases hk:k<ds.length
 ·have h1:k<(setAt cs 0 ds).length:=by rw[QA]; omega
  rcases Z1E ds 0 cs k _ (List.getElem?_eq_getElem h1) with ⟨_,_,h3⟩ | ⟨h3,_⟩
  ·rw[List.getElem?_eq_getElem h1]; exact h3.symm
  ·omega
 ·rw[List.getElem?_eq_none (by rw[QA]; omega),List.getElem?_eq_none (by omega)]
section
variable {cx:Cx} {s:St} {φ φ':Mem} {h:Nat->Value} {tmps:Array Value} {w w':World}
theorem Zgp {kd:Option IntKind} {key k:D} {kv:Value} (hk:isKD kd key=true) (hr:RV φ h kv key) (he:keqD key k=some true):keyV k=kv:=by
 unfold keqD at he
 split at he
 ·split at he
  ·rename_i hkk
   subst hkk
   simp only[Option.some.injEq,decide_eq_true_eq] at he
   subst he
   rw[hr.int_inv]; rfl
  ·cases he
 ·simp only[Option.some.injEq,decide_eq_true_eq] at he
  subst he
  rw[hr.str_inv]; rfl
 ·cases he
theorem Z7p {kd:Option IntKind} {key y:D} {kv:Value} (hk:isKD kd key=true) (hr:RV φ h kv key): ∀ (es:List MapEntry) (ks ds:List D) (i:Nat) (ks' ds':List D),es.map MapEntry.key=ks.map keyV->es.length=ds.length->mput key y ks ds=some (ks',ds') →
  (Instr.findNow (kdT kd) kv es i=some none/\ks'=ks++[key]/\ds'=ds++[y])\/ ∃ j v e,Instr.findNow (kdT kd) kv es i=some (some (i+j,v))/\es[j]? = some e/\e.key=kv/\ks'=ks/\ds'=ds.set j y
 | [],[],[],i,ks',ds',_,_,hf=>by cases hf; exact .inl ⟨rfl,rfl,rfl⟩
 | [],[],_::_,i,ks',ds',_,hd,_=>by cases hd
 | [],_::_,_,i,ks',ds',h1,_,_=>by cases h1
 | _::_,[],_,i,ks',ds',h1,_,_=>by cases h1
 | _::_,_::_,[],i,ks',ds',_,hd,_=>by cases hd
 | e::es,k::ks,d::ds,i,ks',ds',h1,hd,hf=>by
  simp only[List.map_cons,List.cons.injEq] at h1
  simp only[mput] at hf
  cases hq:keqD key k with
  | none=>rw[hq] at hf; cases hf
  | some b =>
   rw[hq] at hf
   have hs:=Z70 (k:=k) hk hr hq
   rw[<- h1.1] at hs
   cases b with
   | true =>
    simp only[Option.some.injEq,Prod.mk.injEq] at hf
    exact .inr ⟨0,e.val,e,by simp only[Instr.findNow,hs,Nat.add_zero],rfl,by rw[h1.1]; exact Zgp hk hr hq,hf.1.symm,hf.2.symm⟩
   | false =>
    simp only at hf
    split at hf
    ·rename_i a b hab
     simp only[Option.some.injEq,Prod.mk.injEq] at hf
     obtain⟨rfl,rfl⟩:=hf
     rcases Z7p hk hr es ks ds (i+1) a b h1.2 (by simpa using hd) hab with ⟨h3,rfl,rfl⟩ | ⟨j,v,e',h3,h4,h5,rfl,rfl⟩
     ·exact .inl ⟨by simp only[Instr.findNow,hs]; exact h3,rfl,rfl⟩
     ·exact .inr ⟨j+1,v,e',by simp only[Instr.findNow,hs]; rw[h3]; congr 3; omega,by simpa using h4,h5,rfl,rfl⟩
    ·cases hf
theorem Mod.weaken {s':St} (hm:Mod cx s φ h tmps w) (h1: ∀ t d,lk s'.tm t=some d->lk s.tm t=some d) (h2: ∀ i o,lk s'.ob i=some o->lk s.ob i=some o):Mod cx s' φ h tmps w:=by
 have h3: ∀ i,(lk s'.ob i).isSome->(lk s.ob i).isSome:=fun i hi=>by
  obtain⟨o,ho⟩:=Option.isSome_iff_exists.1 hi
  rw[h2 i o ho]; rfl
 exact⟨hm.size,fun t d hd=>hm.tm t d (h1 t d hd),hm.mem,hm.ext,hm.new,fun i o ho=>hm.ob i o (h2 i o ho),fun i j b hi hj=>hm.sep i j b (h3 i hi) (h3 j hj),hm.os,hm.tape,hm.output,hm.grow,hm.one,hm.frame,hm.hfix,fun b o hb=>⟨(hm.kept b o hb).1,(hm.kept b o hb).2.1,fun i hi=>(hm.kept b o hb).2.2 i (h3 i hi)⟩⟩
theorem Z7b {key y:D} (hy:Z1i y=true): ∀ {ks ds ks' ds':List D},mput key y ks ds=some (ks',ds')->ds.all Z1i=true->ds'.all Z1i=true
 | [],[],_,_,h,_=>by cases h; simp[hy]
 | [],_::_,_,_,h,_=>by cases h
 | _::_,[],_,_,h,_=>by cases h
 | k::ks,d::ds,ks',ds',h,ha=>by
  simp only[List.all_cons,Bool.and_eq_true] at ha
  simp only[mput] at h
  split at h
  ·cases h; simp[hy,ha.2]
  ·split at h
   ·rename_i a b hab
    cases h
    simp[ha.1,Z7b hy hab ha.2]
   ·cases h
  ·cases h
theorem Z2g {P:Program} {o:Oper} {ρ:Operand->Value} {t:TypeId} {x k y:Operand} {key d:D} {id:Nat} {ks ds ks' ds':List D} {kd:Option IntKind} (ho:o.op= .insert t x k y\/o.op= .mapUpdate t x k y) (hmk:Z8g P t=some kd) (hik:isKD kd key=true) (hkv:RV φ h (ρ k) key) (hm:Mod cx s φ h tmps w)
  (hx:RV φ h (ρ x) (.map id)) (hy:RV φ h (ρ y) d) (hl:lk s.ob id=some (.gen (.map ks) ds)) (hf:mput key d ks ds=some (ks',ds')) :
  ∃ w',(execOp ρ o).run P w= .ok .skip w'/\Mod cx { s with ob:=(id,.gen (.map ks') ds')::s.ob } φ h tmps w':=by
 unfold Z8g at hmk
 split at hmk
 ·rename_i kt et hu
  obtain⟨b,vals,oo,hblk,hown,hheap,⟨⟨b',hb'⟩,es,clock,rfl,h1,h2,h3,h4⟩,hlen,hrv,hnone⟩:=hm.ob id _ hl
  rw[hb'] at hblk
  cases hblk
  have hesl:es.toList.length=ds.length:=by rw[<- hlen,<- h2]; simp
  have hu2:=Z63 hmk
  have hik2:=Z4r hik hkv
  have hc:=fun e=>MapKept.run_checkKey (w:=w) hu2 hik2 e 9999
  rcases Z7p hik hkv es.toList ks ds 0 ks' ds' h1 hesl hf with ⟨hfn,rfl,rfl⟩ | ⟨j,v,e,hfn,hej,hek,rfl,rfl⟩
  ·have hrun:(execOp ρ o).run P w= .ok .skip { w with heap:=w.heap.setIfInBounds b (.map (es.push { key:=ρ k,val:=ρ y,born:=clock }) (clock+1)) }:=by
    rcases ho with ho | ho <;>
     simp[execOp,ho,hx.map_inv.1,hb',Instr.mapUpdate,run_underlying hu,MapKept.run_getObj_map hheap,hc,MapKept.run_findKey hu2 hfn,MapKept.run_setObj_map _ hheap,Result.andThen]
   refine⟨_,hrun,hm.turn (fun k hk=>(MapKept.heap_set hheap).2 k hk) rfl rfl rfl (by simp) hl (by rw[hb']; rfl) hnone ?_⟩
   refine⟨b,vals++[ρ y],_,by rw[hb']; rfl,hown,(MapKept.heap_set hheap).1,⟨⟨b,hb'⟩,_,_,rfl, ?_, ?_, ?_, ?_⟩,by simp[hlen], ?_,hnone⟩
   ·have hkk:keyV key=ρ k:=by
     match key,kd,hik,hkv with
     | .int _ _,_,_,hkv=>rw[hkv.int_inv]; rfl
     | .str _,_,_,hkv=>rw[hkv.str_inv]; rfl
    simp[h1,hkk]
   ·simp[h2]
   ·simp only[Array.toList_push,List.map_append,List.map_cons,List.map_nil]
    rw[List.nodup_append]
    refine⟨h3,by simp,fun a ha a' ha' e=> ?_⟩
    simp only[List.mem_singleton] at ha'
    obtain⟨x,hx,rfl⟩:=List.mem_map.1 ha
    have:=h4 x (by simpa using hx)
    omega
   ·intro x hx
    rw[Array.mem_push] at hx
    rcases hx with hx | rfl
    ·have:=h4 x hx; omega
    ·simp
   ·intro j d' hd'
    rw[List.getElem?_append] at hd'
    split at hd'
    ·rename_i hj
     rw[List.getD_eq_getElem?_getD,List.getElem?_append_left (by omega),<- List.getD_eq_getElem?_getD]
     exact hrv j d' hd'
    ·rename_i hj
     have hj2:j=ds.length:=by
      have:=(List.getElem?_eq_some_iff.1 hd').1
      simp at this; omega
     subst hj2
     simp only[Nat.sub_self,List.getElem?_cons_zero,Option.some.injEq] at hd'
     subst hd'
     rw[List.getD_eq_getElem?_getD,List.getElem?_append_right (by omega)]
     simpa [hlen] using hy
  ·rw[Nat.zero_add] at hfn
   have hej':es[j]? = some e:=by simpa using hej
   have hjl:j<es.size:=(Array.getElem?_eq_some_iff.1 hej').1
   have hst:(Instr.keyThatStays (((es[j]?).map MapEntry.key).getD (ρ k)) (ρ k)).run P w= .ok (ρ k) w:=by
    rw[hej']
    simp only[Option.map_some,Option.getD_some,hek]
    exact MapKept.run_keyThatStays hik2
   have hrun:(execOp ρ o).run P w= .ok .skip { w with heap:=w.heap.setIfInBounds b (.map (es.modify j fun e=>{ e with key:=ρ k,val:=ρ y }) clock) }:=by
    rcases ho with ho | ho <;>
     simp[execOp,ho,hx.map_inv.1,hb',Instr.mapUpdate,run_underlying hu,MapKept.run_getObj_map hheap,hc,MapKept.run_findKey hu2 hfn,MapKept.run_setObj_map _ hheap,Result.andThen,hst]
   refine⟨_,hrun,hm.turn (fun k hk=>(MapKept.heap_set hheap).2 k hk) rfl rfl rfl (by simp) hl (by rw[hb']; rfl) hnone ?_⟩
   have hget: ∀ i,(es.modify j fun e=>{ e with key:=ρ k,val:=ρ y }).toList[i]? = if i=j then (es.toList[i]?).map (fun e=>{ e with key:=ρ k,val:=ρ y }) else es.toList[i]? := by
    intro i
    simp only[Array.toList_modify,List.getElem?_modify]
    by_cases h:j=i
    ·subst h; simp
    ·have h': ¬ i=j:=fun e=>h e.symm
     simp[h,h']
   refine⟨b,vals.set j (ρ y),_,by rw[hb']; rfl,hown,(MapKept.heap_set hheap).1,⟨⟨b,hb'⟩,_,_,rfl, ?_, ?_, ?_, ?_⟩,by simp[hlen], ?_,hnone⟩
   ·rw[<- h1]
    refine List.ext_getElem? fun i=> ?_
    simp only[List.getElem?_map,hget]
    by_cases hi:i=j
    ·subst hi
     rw[if_pos rfl,hej]
     simp[hek]
    ·rw[if_neg hi]
   ·rw[<- h2]
    refine List.ext_getElem? fun i=> ?_
    simp only[List.getElem?_map,hget,List.getElem?_set,List.length_map]
    by_cases hi:i=j
    ·subst hi
     have hjl':i<es.toList.length:=by simpa using hjl
     rw[if_pos rfl,if_pos rfl,if_pos hjl',hej]
     rfl
    ·rw[if_neg hi,if_neg (fun e=>hi e.symm)]
   ·have:(es.modify j fun e=>{ e with key:=ρ k,val:=ρ y }).toList.map MapEntry.born=es.toList.map MapEntry.born:=by
     refine List.ext_getElem? fun i=> ?_
     simp only[List.getElem?_map,hget]
     by_cases hi:i=j
     ·subst hi; rw[if_pos rfl]; cases es.toList[i]? <;> rfl
     ·rw[if_neg hi]
    rw[this]; exact h3
   ·intro x hx
    have hx':x∈(es.modify j fun e=>{ e with key:=ρ k,val:=ρ y }).toList:=Array.mem_toList_iff.2 hx
    obtain⟨i,hi⟩:=List.getElem?_of_mem hx'
    rw[hget] at hi
    split at hi
    ·cases hq:es.toList[i]? with
     | none=>rw[hq] at hi; cases hi
     | some e' =>
      rw[hq] at hi
      simp only[Option.map_some,Option.some.injEq] at hi
      subst hi
      exact h4 e' (by have:=List.mem_of_getElem? hq; simpa using this)
    ·exact h4 x (by have:=List.mem_of_getElem? hi; simpa using this)
   ·intro i d' hd'
    rw[List.getElem?_set] at hd'
    split at hd'
    ·rename_i hij
     subst hij
     split at hd'
     ·cases hd'
      have:j<vals.length:=by omega
      simp[List.getD,this]
      exact hy
     ·cases hd'
    ·rename_i hij
     have:=hrv i d' hd'
     simpa [List.getD,List.getElem?_set,hij] using this
 ·cases hmk
theorem Z2D {P:Program} {o:Oper} {ρ:Operand->Value} {x y:Operand} {sk:SK} {a b id:Nat} {dx d:D} {ob:Ob} (ho:StOp P o ρ φ h sk x y) (hm:Mod cx s φ h tmps w)
  (hx:RV φ h (ρ x) dx) (hy:RV φ h (ρ y) d) (hst:stO sk dx d (lk s.ob)=some (a,b,id,ob)) (hab:a<b) :
  ∃ w',(execOp ρ o).run P w= .ok .skip w'/\Mod cx { s with ob:=(id,ob)::s.ob } φ h tmps w':=by
 unfold stO at hst
 rcases ho with ⟨t,sz,rfl,ho,hs⟩ | ⟨t,k,kd,key,rfl,ho,hk,hik,hkv⟩
 ·split at hst
  ·rename_i id' off
   simp only at hst
   split at hst
   ·rename_i cs hl
    split at hst
    ·rename_i hc
     cases hst
     exact Z5H ho hs hm hx hy hl hc.1 hc.2.1 hc.2.2
    ·cases hst
   ·cases hst
  ·rename_i id' i j sz'
   simp only at hst
   split at hst
   ·rename_i sz2 e es hl
    split at hst
    ·rename_i hc
     obtain⟨rfl,h1,h2,h3,h4⟩:=hc
     cases hst
     have hi:es[a]? = some (es.getD a []):=by rw[List.getD_eq_getElem?_getD,List.getElem?_eq_getElem hab]; rfl
     have hcl:(es.getD a []).length=sz2:=(hm.ob _ _ hl).2.1 _ (List.mem_of_getElem? hi)
     have:=Z4H ho hs hm hx hy hl hi h1 h2 h3 h4
     by_cases hf:j=0/\sz=sz2
     ·rw[if_pos hf]
      obtain⟨rfl,rfl⟩:=hf
      rw[Z7U _ _ (by omega)] at this
      exact this
     ·rw[if_neg hf]; exact this
    ·cases hst
   ·cases hst
  ·cases hst
  ·cases hst
  ·cases hst
  ·cases hst
 ·split at hst
  ·cases hst
  ·cases hst
  ·rename_i id'
   simp only at hst
   split at hst
   ·rename_i ks ds hl
    split at hst
    ·rename_i hf
     cases hst
     exact Z2g ho hk hik hkv hm hx hy hl hf
    ·cases hst
   ·rename_i ks cs hl
    split at hst
    ·rename_i hvy
     split at hst
     ·rename_i ks' cs' hf
      cases hst
      have hob:=hm.ob id _ hl
      have hall:cs.all Z1i=true:=by obtain⟨b,vals,oo,hblk,hown,hheap,⟨rfl,hall,_⟩,_⟩:=hob; exact hall
      obtain⟨b,vals,oo,hblk,_,_,_,_,_,hnone⟩:=(fun x=>x) hob
      have hm1:=hm.turn (w':=w) (fun _ _=>rfl) rfl rfl rfl (Nat.le_refl _) hl hblk hnone (Z8S hob)
      obtain⟨w',hrun,hm2⟩:=Z2g ho hk hik hkv hm1 hx hy (id:=id) (ks:=ks) (ds:=cs) (by simp[lk]) hf
      refine⟨w',hrun, ?_⟩
      have hob2:=hm2.ob id (.gen (.map ks') cs') (by simp[lk])
      obtain⟨b2,vals2,oo2,hblk2,_,_,_,_,_,hnone2⟩:=(fun x=>x) hob2
      refine (hm2.turn (w':=w') (fun _ _=>rfl) rfl rfl rfl (Nat.le_refl _) (id:=id) (o0:= .gen (.map ks') cs') (by simp[lk]) hblk2 hnone2 (ZkX (Z7b hvy hf hall) hob2)).weaken (fun _ _ h=>h) (fun i o hi=> ?_)
      simp only[lk] at hi ⊢
      split
      ·rename_i e; rw[if_pos e] at hi; exact hi
      ·rename_i e; rw[if_neg e] at hi; simpa only[if_neg e] using hi
     ·cases hst
    ·cases hst
   ·cases hst
  ·cases hst
  ·cases hst
  ·cases hst
def Z0t (sz n:Nat) (vals:Nat->Nat->Value):List Value:=(List.range (n*sz)).map fun p=>vals (p / sz) (p % sz)
theorem Z3T (sz n:Nat) (vals:Nat->Nat->Value):(Z0t sz n vals).length=n*sz:=by simp[Z0t]
theorem Z8u {sz n:Nat} {vals:Nat->Nat->Value} {i j:Nat} (hi:i<n) (hj:j<sz):(Z0t sz n vals)[i*sz+j]? = some (vals i j):=by
 have hlt:i*sz+j<n*sz:=by
  have:(i+1)*sz<=n*sz:=Nat.mul_le_mul_right _ hi
  rw[Nat.add_mul,Nat.one_mul] at this
  omega
 have h1:(i*sz+j) / sz=i:=by rw[Nat.mul_comm,Nat.mul_add_div (by omega),Nat.div_eq_of_lt hj]; rfl
 have h2:(i*sz+j) % sz=j:=by rw[Nat.mul_comm,Nat.mul_add_mod]; exact Nat.mod_eq_of_lt hj
 simp[Z0t,List.getElem?_map,List.getElem?_range hlt,h1,h2]
theorem Z5i {sz n:Nat} {vals:Nat->Nat->Value} {p:Nat} {v:Value} (h:(Z0t sz n vals)[p]? = some v):p<n*sz/\p / sz<n/\p % sz<sz/\v=vals (p / sz) (p % sz)/\p=p / sz*sz+p % sz:=by
 have hp:=(List.getElem?_eq_some_iff.1 h).1
 rw[Z3T] at hp
 have hs:0<sz:=by
  rcases Nat.eq_zero_or_pos sz with e | e
  ·rw[e] at hp; simp at hp
  ·exact e
 refine⟨hp,Nat.div_lt_of_lt_mul (by rw[Nat.mul_comm]; exact hp),Nat.mod_lt _ hs, ?_, ?_⟩
 ·simp only[Z0t,List.getElem?_map,List.getElem?_range hp,Option.map_some,Option.some.injEq] at h
  exact h.symm
 ·rw[Nat.mul_comm]; exact (Nat.div_add_mod p sz).symm
theorem Zfo {P:Program} {w:World} {t u ty elem:TypeId} {inf:TypeInfo} (hu:P.underlying t=some (.slice elem)) (hin:P.info? elem=some inf) {n:Nat} {dp:Option Addr} {dLen dCap:Nat} {sp:Option Addr} {sLen sCap:Nat} (hn:Nat.min sLen dLen=n)
  {cs:List Value} (hcl:cs.length=n*inf.size) {g off:Nat} {cur:Array Value} {e:TypeId} (hg:w.heap[g]? = some (.cells cur e (0,0)))
  (hpos:0<n->dp=some ⟨g,off,none⟩/\off+cs.length<=cur.size/\ ∃ ad,sp=some ad/\ ∀ j v,cs[j]? = some v->w.cell? (ad.add j)=some v) (h1: ∀ v∈cs,v.oneCell'=true) :
  (Builtin.copy_ #[t,u] ty #[.slice dp dLen dCap,.slice sp sLen sCap]).run P w= .ok (goInt n) (if n=0 then w else w.setRow g (cur.toList.take off++cs++cur.toList.drop (off+cs.length)).toArray):=by
 by_cases h0:n=0
 ·subst h0
  rw[if_pos rfl]
  have hl: ∀ (x:Addr),(loadCells x 0).run P w= .ok #[] w:=fun x=>by simpa using run_loadCells_list (P:=P) w x [] (by simp)
  cases dp <;> cases sp <;> simp[Builtin.copy_,run_underlying hu,Builtin.lenOf,Builtin.firstCells,sizeOf,typeInfo,hin,hn,storeCells,hl]
 ·obtain⟨rfl,hfit,ad,rfl,hsrc⟩:=hpos (by omega)
  rw[if_neg h0]
  have hl:=run_loadCells_list (P:=P) w ad cs hsrc
  have hst:=run_storeCells_at P g off e cs 0 cur w hg (by simpa using hfit) h1
  rw[hcl] at hl
  simp[Builtin.copy_,run_underlying hu,Builtin.lenOf,Builtin.firstCells,sizeOf,typeInfo,hin,hn,hl,hst]
theorem ZcC (es:List (List D)) (i:Nat) (ys:List (List D)) (h:i<=es.length):(cpyL es i ys).length=es.length:=by
 unfold cpyL
 simp only[List.length_append,List.length_take,List.length_drop]
 omega
theorem Z5f {P:Program} {o:Oper} {ρ:Operand->Value} {t u elem:TypeId} {inf:TypeInfo} {x y:Operand} {id i sz:Nat} {e:TypeId} {es ys:List (List D)} {dx dy:D} (ho:o.op= .call { callee:= .builtin .copy,args:= #[x,y],argTypes:= #[t,u] }) (hu:P.underlying t=some (.slice elem))
  (hin:P.info? elem=some inf) (hsz:inf.size=sz) (hm:Mod cx s φ h tmps w) (hx:RV φ h (ρ x) dx) (hdx:(dx= .vec id/\i=0)\/dx= .vwin id i sz) (hy:RV φ h (ρ y) dy) (hdy:srcP dy=some ys) (hl:lk s.ob id=some (.arr false sz e es)) (hlen: ∀ q∈ys,q.length=sz) :
  ∃ v w',(execOp ρ o).run P w= .ok (.value v) w'/\Mod cx { s with ob:=(id,.arr false sz e (cpyL es i ys))::s.ob } φ h tmps w':=by
 have hob:=hm.ob id _ hl
 obtain⟨h0,hel,xs,⟨hxl,hor⟩,hrep,hblk⟩:=hob
 -- the source
 obtain⟨ext,hsrc⟩: ∃ ext,Rep φ (ρ y) (.slice ys ext):=by
  cases dy <;> simp only[srcP] at hdy <;> try (cases hdy; done)
  ·cases hdy; exact⟨_,hy.slice_inv⟩
  ·cases hdy; rw[hy.nils_inv]; exact⟨[],.nil⟩
 obtain⟨sp,sLen,sCap,hsv,hsl,hcell⟩: ∃ sp sLen sCap,ρ y= .slice sp sLen sCap/\sLen=ys.length/\(0<ys.length-> ∃ ad,sp=some ad/\ad.spot=none/\ ∃ vals:Nat->Nat->Value,(∀ i q j d,ys[i]? = some q->q[j]? = some d->φ ad.block (ad.off+i*sz+j)=some (vals i j)/\Rep φ (vals i j) d)):=by
  rcases hsrc.slice_inv with ⟨⟨a0,c0,hv,hac⟩,rfl,rfl⟩ | ⟨g,off,cap,sz',vals,hv,hcap,hsz',hmem,hrp⟩
  ·exact⟨a0,0,c0,hv,rfl,fun h=>by simp at h⟩
  ·refine⟨_,_,_,hv,rfl,fun hpos=>⟨_,rfl,rfl,vals,fun i q j d hq hd=> ?_⟩⟩
   have hq2:(ys++ext)[i]? = some q:=by
    rw[List.getElem?_append_left (List.getElem?_eq_some_iff.1 hq).1]; exact hq
   have e1:sz'=sz:=by rw[<- hsz' q (List.mem_of_getElem? hq2),hlen q (List.mem_of_getElem? hq)]
   subst e1
   exact⟨hmem i q j d hq2 hd,hrp i q j d hq2 hd⟩
 -- the place
 obtain⟨dp,dCap,hdv,hile,hdp⟩: ∃ dp dCap,ρ x= .slice dp (es.length-i) dCap/\i<=es.length/\(i<es.length-> ∃ g,blk (h id)=some g/\dp=some ⟨g,i*sz,none⟩):=by
  rcases hdx with ⟨rfl,rfl⟩ | rfl
  ·have hv:=hx.vec_inv
   rcases hor with ⟨h1,h2⟩ | ⟨g,cap,cur,hv2,_⟩
   ·exact⟨none,0,by rw[hv,h1,h2],Nat.zero_le _,fun h=>by omega⟩
   ·exact⟨some ⟨g,0,none⟩,cap,by rw[hv,hv2]; rfl,Nat.zero_le _,fun h=>⟨g,by rw[hv2]; rfl,by rw[Nat.zero_mul]⟩⟩
  ·obtain⟨b,len,cap,p,c,_,hh,hal,hap,hv⟩:=hx.vwin_inv
   have hle:len=es.length:=by
    rcases hor with ⟨h1,_⟩ | ⟨g,cap,cur,hv2,_⟩
    ·rw[h1] at hh; cases hh
    ·rw[hv2] at hh; cases hh; rfl
   subst hle
   exact⟨p,c,hv,hal,fun hlt=>⟨b,by rw[hh]; rfl,hap hlt⟩⟩
 obtain⟨n,hn⟩: ∃ n,n=Nat.min ys.length (es.length-i):=⟨_,rfl⟩
 have hexec: ∀ v w',(Builtin.copy_ #[t,u] o.type #[.slice dp (es.length-i) dCap,.slice sp sLen sCap]).run P w= .ok v w'->(execOp ρ o).run P w= .ok (.value v) w':=fun v w' hr=>by
  simp[execOp,ho,resolve,invoke,builtin,hdv,hsv,hr,Result.andThen]
 by_cases hn0:n=0
 ·-- nothing goes over
  have hnz:Nat.min sLen (es.length-i)=0:=by rw[hsl,<- hn]; exact hn0
  have hl0: ∀ (x:Addr),(loadCells x 0).run P w= .ok #[] w:=fun x=>by simpa using run_loadCells_list (P:=P) w x [] (by simp)
  have hr:(Builtin.copy_ #[t,u] o.type #[.slice dp (es.length-i) dCap,.slice sp sLen sCap]).run P w= .ok (goInt 0) w:=by
   cases dp <;> cases sp <;> simp[Builtin.copy_,run_underlying hu,Builtin.lenOf,Builtin.firstCells,sizeOf,typeInfo,hin,hnz,storeCells,hl0]
  refine⟨_,w,hexec _ _ hr,hm.weaken (fun _ _ h=>h) (fun k o' hk=> ?_)⟩
  simp only[lk] at hk
  split at hk
  ·rename_i hki
   cases hk
   subst hki
   have he:cpyL es i ys=es:=by
    unfold cpyL
    have:ys.take (es.length-i)=[]:=by
     rw[<- List.length_eq_zero_iff,List.length_take]
     have h2:min (es.length-i) ys.length=Nat.min ys.length (es.length-i):=Nat.min_comm _ _
     omega
    rw[this,List.append_nil,List.length_nil,Nat.add_zero,List.take_append_drop]
   rw[he]; exact hl
  ·exact hk
 have hylen:0<ys.length:=by
  rcases Nat.eq_zero_or_pos ys.length with h | h
  ·have h2:=Nat.min_le_left ys.length (es.length-i)
   have h3:Nat.min ys.length (es.length-i)<=ys.length:=h2
   omega
  ·exact h
 have hnle:n<=ys.length/\n<=es.length-i:=by rw[hn]; exact⟨Nat.min_le_left _ _,Nat.min_le_right _ _⟩
 have hilt:i<es.length:=by omega
 obtain⟨ad,rfl,hspot,vals,hvals⟩:=hcell hylen
 obtain⟨g',hg',rfl⟩:=hdp hilt
 rcases hor with ⟨h1,_⟩ | ⟨g,cap',cur,hv,hge,hg,hnc,hcm,hcs,htake⟩
 ·rw[h1] at hg'; cases hg'
 have hgg:g'=g:=by rw[hv] at hg'; simpa [blk] using hg'.symm
 subst hgg
 have hnone: ∀ off,φ g' off=none:=fun off=>by
  have:=(hblk g' hg').2 off
  simpa using this
 have hyq: ∀ k,k<n-> ∃ q,ys[k]? = some q/\q.length=sz:=fun k hk=>⟨ys[k]'(by omega),List.getElem?_eq_getElem _,hlen _ (List.getElem_mem _)⟩
 have hval: ∀ k j,k<n->j<sz-> ∃ d,φ ad.block (ad.off+k*sz+j)=some (vals k j)/\Rep φ (vals k j) d:=fun k j hk hj=>by
  obtain⟨q,hq,hql⟩:=hyq k hk
  obtain⟨h1,h2⟩:=hvals k q j (q[j]'(by omega)) hq (List.getElem?_eq_getElem _)
  exact⟨_,h1,h2⟩
 have hcl:(Z0t sz n vals).length=n*sz:=Z3T _ _ _
 have hrow:i*sz+n*sz<=es.length*sz:=by
  rw[<- Nat.add_mul]; exact Nat.mul_le_mul_right _ (by omega)
 have hcap:es.length*sz<=cur.size:=by rw[hcs]; exact Nat.mul_le_mul_right _ hnc
 have hone: ∀ v∈Z0t sz n vals,v.oneCell'=true:=fun v hv=>by
  obtain⟨p,hp⟩:=List.mem_iff_getElem?.1 hv
  obtain⟨_,h1,h2,h3,_⟩:=Z5i hp
  obtain⟨d,_,hr⟩:=hval _ _ h1 h2
  rw[h3]; exact hr.one
 have hrun:=Zfo (P:=P) (w:=w) (t:=t) (u:=u) (ty:=o.type) hu hin (n:=n) (dp:=some ⟨g',i*sz,none⟩) (dLen:=es.length-i) (dCap:=dCap) (sp:=some ad) (sLen:=sLen) (sCap:=sCap) (by rw[hsl,hn]) (cs:=Z0t sz n vals) (by rw[hcl,hsz]) hg
  (fun _=>⟨rfl,by rw[hcl]; omega,ad,rfl,fun p v hp=>by
   obtain⟨_,h1,h2,h3,h4⟩:=Z5i hp
   obtain⟨d,hφ,_⟩:=hval _ _ h1 h2
   have:=hm.mem _ _ _ hφ
   rw[h3]
   rw[Nat.add_assoc,<- h4] at this
   obtain⟨b,off,spot⟩:=ad
   simp only at hspot
   subst hspot
   by_cases hp0:p=0
   ·subst hp0; simpa [Addr.add] using this
   ·simpa [Addr.add,hp0] using this⟩) hone
 rw[if_neg hn0] at hrun
 refine⟨_,_,hexec _ _ hrun,hm.setBlk hl hg' hnone ?_⟩
 have htk:(ys.take (es.length-i)).length=n:=by rw[List.length_take,hn]; exact Nat.min_comm _ _
 have hfitE:i+(ys.take (es.length-i)).length<=es.length:=by omega
 have hget: ∀ k,(cpyL es i ys)[k]? = if i<=k/\k<i+n then ys[k-i]? else es[k]? := fun k=>by
  unfold cpyL
  rw[QI _ _ _ _ hfitE,htk]
  by_cases hk:i<=k/\k<i+n
  ·rw[if_pos hk,if_pos hk,List.getElem?_take,if_pos (by omega)]
  ·rw[if_neg hk,if_neg hk]
 have hleq:=ZcC es i ys hile
 rw[hv]
 have hxl2:i*sz+(Z0t sz n vals).length<=xs.length:=by rw[hxl,hcl]; exact hrow
 have hcl2:i*sz+(Z0t sz n vals).length<=cur.toList.length:=by rw[hcl,Array.length_toList]; omega
 refine⟨h0, ?_,xs.take (i*sz)++Z0t sz n vals++xs.drop (i*sz+(Z0t sz n vals).length),⟨?_,.inr ⟨g',cap',_,by rw[hleq],by assumption,setRow_heap w g' cur _ e _ hg,by rw[hleq]; exact hnc,hcm, ?_, ?_⟩⟩, ?_, ?_⟩
 ·intro q hq
  obtain⟨k,hk⟩:=List.mem_iff_getElem?.1 hq
  rw[hget] at hk
  split at hk
  ·exact hlen q (List.mem_of_getElem? hk)
  ·exact hel q (List.mem_of_getElem? hk)
 ·rw[hleq]
  simp only[List.length_append,List.length_take,List.length_drop]
  omega
 ·simp only[List.size_toArray,List.length_append,List.length_take,List.length_drop,Array.length_toList]
  rw[<- hcs]
  rw[Array.length_toList] at hcl2
  omega
 ·rw[hleq]
  refine List.ext_getElem? fun p=> ?_
  rw[List.getElem?_take,QI _ _ _ _ hxl2]
  simp only[]
  rw[QI _ _ _ _ hcl2]
  by_cases hpn:p<es.length*sz
  ·rw[if_pos hpn]
   split
   ·rfl
   ·rw[<- htake,List.getElem?_take,if_pos hpn]
  ·rw[if_neg hpn,if_neg (by omega)]
   rw[List.getElem?_eq_none (by omega)]
 ·intro i' q j' d' hi' hj'
  rw[hget] at hi'
  rw[List.getD_eq_getElem?_getD,QI _ _ _ _ hxl2,hcl]
  by_cases hk:i<=i'/\i'<i+n
  ·rw[if_pos hk] at hi'
   have hql:q.length=sz:=hlen q (List.mem_of_getElem? hi')
   have hj2:j'<sz:=by rw[<- hql]; exact (List.getElem?_eq_some_iff.1 hj').1
   have e1:i'*sz=i*sz+(i'-i)*sz:=by rw[<- Nat.add_mul]; congr 1; omega
   have e2:(i'-i)*sz+sz<=n*sz:=by
    have:(i'-i+1)*sz<=n*sz:=Nat.mul_le_mul_right _ (by omega)
    rwa [Nat.add_mul,Nat.one_mul] at this
   rw[if_pos ⟨by omega,by omega⟩,show i'*sz+j'-i*sz=(i'-i)*sz+j' by omega,Z8u (by omega) hj2]
   exact (hvals _ q j' d' hi' hj').2
  ·rw[if_neg hk] at hi'
   have hql:q.length=sz:=hel q (List.mem_of_getElem? hi')
   have hj2:j'<sz:=by rw[<- hql]; exact (List.getElem?_eq_some_iff.1 hj').1
   have hout: ¬ (i*sz<=i'*sz+j'/\i'*sz+j'<i*sz+n*sz):=by
    rcases Nat.lt_or_ge i' i with hlt | hge
    ·have:(i'+1)*sz<=i*sz:=Nat.mul_le_mul_right _ hlt
     rw[Nat.add_mul,Nat.one_mul] at this; omega
    ·have:(i+n)*sz<=i'*sz:=Nat.mul_le_mul_right _ (by omega)
     rw[Nat.add_mul] at this; omega
   rw[if_neg hout,<- List.getD_eq_getElem?_getD]
   exact hrep i' q j' d' hi' hj'
 ·intro b' hb'
  have hbb:blk (h id)=some b':=by rw[hv]; exact hb'
  refine⟨(hblk b' hbb).1,fun off=> ?_⟩
  rw[(hblk b' hbb).2 off]
  simp
theorem ZaI {P:Program} {o:Oper} {ρ:Operand->Value} {t u elem:TypeId} {inf:TypeInfo} {x y:Operand} {dst a b id:Nat} {dx dy:D} {ob:Ob} (ho:o.op= .call { callee:= .builtin .copy,args:= #[x,y],argTypes:= #[t,u] }) (hu:P.underlying t=some (.slice elem))
  (hin:P.info? elem=some inf) (hm:Mod cx s φ h tmps w) (hx:RV φ h (ρ x) dx) (hy:RV φ h (ρ y) dy) (hst:stO (.cp dst inf.size) dx dy (lk s.ob)=some (a,b,id,ob)) (hab:a<b) :
  ∃ v w',(execOp ρ o).run P w= .ok (.value v) w'/\Mod cx { s with ob:=(id,ob)::s.ob } φ h tmps w':=by
 unfold stO at hst
 split at hst
 ·cases hst
 ·cases hst
 ·cases hst
 ·rename_i id'
  simp only at hst
  split at hst
  ·rename_i sz2 e es hl
   split at hst
   ·rename_i ys hys
    split at hst
    ·rename_i hc
     subst hc
     cases hst
     exact Z5f ho hu hin rfl hm hx (.inl ⟨rfl,rfl⟩) hy hys hl (Z5k.1 hab)
    ·cases hst
   ·cases hst
  ·cases hst
 ·rename_i id' i sz'
  simp only at hst
  split at hst
  ·rename_i sz2 e es hl
   split at hst
   ·rename_i ys hys
    split at hst
    ·rename_i hc
     obtain⟨rfl,hc2⟩:=hc
     subst hc2
     cases hst
     exact Z5f ho hu hin rfl hm hx (.inr rfl) hy hys hl (Z5k.1 hab)
    ·cases hst
   ·cases hst
  ·cases hst
 ·cases hst
end
end Go.Sx
namespace Go.Sx
open Go.RowKit
variable [Globs] [Codes]
section
variable {P:Program} {w:World}
theorem Z2m (t ty e:TypeId) (i:TypeInfo) (z:Value) (size bytes:Nat) (ht:P.underlying t=some (.slice e)) (hi:P.info? e=some i) (hz:i.zero=some z)
  (hsize:i.size=size) (hby:i.bytes=bytes) (hzs:z.cells.size=size) (hsz:0<size)
  (v:Value) (n:Nat) (xs:List Value) (hown:w.ownsRow 0 e size v n xs)
  (y:Value) (m:Nat) (news:List Value) (hy:(y= .slice none 0 0/\m=0)\/ ∃ a c,y= .slice (some a) m c/\ ∀ j u,news[j]? = some u->w.cell? (a.add j)=some u)
  (hl:news.length=m*size) (h1: ∀ u∈news,u.oneCell'=true)
  (h63:n+m<=maxLen) (hbytes:(n+m)*bytes<=140737488355328) :
  ∃ v' w',(Builtin.append_ #[t,t] ty #[v,y]).run P w= .ok v' w'/\w'.ownsRow 0 e size v' (n+m) (xs++news)/\v'.oneCell'=true ∧
   (
    (blk v'=blk v/\w'.os=w.os/\w'.tape=w.tape/\w'.output=w.output/\w'.heap.size=w.heap.size/\ ∀ k,blk v≠some k->w'.heap[k]? = w.heap[k]?) ∨
    (blk v'=some w.heap.size/\Below w.heap.size w w')):=by
 subst hsize
 subst hby
 rcases hy with ⟨rfl,rfl⟩ | ⟨a,c,rfl,hnews⟩
 ·have hn:news=[]:=List.eq_nil_of_length_eq_zero (by simpa using hl)
  subst hn
  refine⟨v,w,run_append_owned_none w 0 t ty e i i.size ht hi v n xs hown,by simpa using hown, ?_,.inl ⟨rfl,rfl,rfl,rfl,rfl,fun _ _=>rfl⟩⟩
  rcases hown.2 with ⟨rfl,_⟩ | ⟨g,cap,cur,rfl,_⟩ <;> rfl
 have hsmall:n+m<=9223372036854775807:=by simp only[maxLen] at h63; omega
 have hlen:(xs++news).length=(n+m)*i.size:=by rw[List.length_append,hown.1,hl,Nat.add_mul]
 have grown: ∀ (old:Nat),old<n+m →
   (w.drew.alloc (.cells (xs.toArray++news.toArray++Builtin.zeroCells z.cells (grownCap w (n+m) old e-(n+m))) e)).ownsRow 0 e i.size
    (.slice (some ⟨w.heap.size,0,none⟩) (n+m) (grownCap w (n+m) old e)) (n+m) (xs++news):=by
  intro old ho
  have hge:=grownCap_ge w (n+m) old e
  have hcm:grownCap w (n+m) old e<=maxLen:=grownCap_le_maxLen w (n+m) old e h63
  refine⟨hlen,.inr ⟨w.heap.size,_,_,rfl,Nat.zero_le _,heap_alloc_new w.drew _,hge,hcm, ?_, ?_⟩⟩
  ·simp only[Array.size_append,List.size_toArray,size_zeroCells,hzs,hown.1,hl,<- Nat.add_mul]
   congr 1
   omega
  ·simp only[Array.toList_append,List.append_assoc]
   rw[<- List.append_assoc,<- hlen]
   exact List.take_left
 have hbel: ∀ ob,Below w.heap.size w (w.drew.alloc ob):=fun ob=>((Below.refl _ w).drew).alloc (Nat.le_refl _) _
 rcases hown.2 with ⟨rfl,rfl⟩ | ⟨g,cap,cur,rfl,hbg,hg,hnc,hcm,hcs,htake⟩
 ·have hx:xs=[]:=List.eq_nil_of_length_eq_zero (by simpa using hown.1)
  subst hx
  by_cases hm:m=0
  ·subst hm
   have hn:news=[]:=List.eq_nil_of_length_eq_zero (by simpa using hl)
   subst hn
   refine⟨.slice none 0 0,w, ?_,World.ownsRow_nil w 0 e i.size,rfl,.inl ⟨rfl,rfl,rfl,rfl,rfl,fun _ _=>rfl⟩⟩
   simp[Builtin.append_,run_underlying ht,sizeOf,typeInfo,hi,Builtin.lenOf,Builtin.firstCells,loadCells,loadCellsFrom]
  ·have hr:=run_append_nil (P:=P) w t ty e i z ht hi hz a m c news hl hnews (by omega) (by omega) (by have hb:=hbytes; simp only[Nat.zero_add] at hb; omega)
   have hgr:=grown 0 (by omega)
   simp only[Nat.zero_add,List.nil_append,Array.empty_append] at hgr ⊢
   exact⟨_,_,hr,hgr,rfl,.inr ⟨rfl,hbel _⟩⟩
 ·by_cases hroom:n+m<=cap
  ·have hfit:n*i.size+news.length<=cur.size:=by rw[hl,hcs,<- Nat.add_mul]; exact Nat.mul_le_mul_right _ hroom
   have hr:=run_append_room (P:=P) w t ty e i ht hi g n cap cur hg a m c news hl hnews h1 hroom hfit
   refine⟨_,_,hr,⟨hlen,.inr ⟨g,cap,_,rfl,hbg,setRow_heap w g cur _ e _ hg,hroom,hcm, ?_, ?_⟩⟩,rfl,.inl ⟨rfl,rfl,rfl,rfl,by simp,fun k hk=>setRow_other w g k _ (fun e=>hk (by simp[blk,e]))⟩⟩
   ·simp only[List.size_toArray,List.length_append,List.length_take,List.length_drop,Array.length_toList]
    omega
   ·rw[htake,<- hlen]
    exact List.take_left
  ·have holds: ∀ j u,xs[j]? = some u->w.cell? ((⟨g,0,none⟩:Addr).add j)=some u:=hown.cells (g:=g) rfl
   have hr:=run_append_grow (P:=P) w t ty e i z ht hi hz ⟨g,0,none⟩ n cap xs hown.1 holds a m c news hl hnews (by omega) (by omega) (growslice_fits (by omega) hbytes)
   exact⟨_,_,hr,grown cap (by omega),rfl,.inr ⟨rfl,hbel _⟩⟩
end
def Za {α:Type} (id:Nat):List (Nat × α)->List (Nat × α)
 | []=>[]
 | (j,a)::l=>if j=id then Za id l else (j,a)::Za id l
theorem Z7f {α β:Type} (f:α->β): ∀ (l:List (Nat × α)) (i:Nat),lk (l.map fun p=>(p.1,f p.2)) i=(lk l i).map f
 | [],_=>rfl
 | (j,a)::l,i=>by
  simp only[List.map_cons,lk]
  split
  ·rfl
  ·exact Z7f f l i
theorem ZE {α:Type} (id:Nat): ∀ (l:List (Nat × α)) (i:Nat),lk (Za id l) i=if i=id then none else lk l i
 | [],_=>by simp[Za,lk]
 | (j,a)::l,i=>by
  simp only[Za]
  split
  ·rename_i hj
   rw[ZE id l i]
   split
   ·rfl
   ·rename_i hi
    simp only[lk]
    rw[if_neg (by omega)]
  ·rename_i hj
   simp only[lk]
   by_cases hi:i=j
   ·subst hi
    simp[hj]
   ·rw[if_neg hi,if_neg hi,ZE id l i]
section
variable {cx:Cx} {s:St} {φ φ':Mem} {h:Nat->Value} {tmps:Array Value} {w w':World}
theorem Mod.world (hm:Mod cx s φ h tmps w) {g:Nat} (hg:cx.own g) (hfree: ∀ i,(lk s.ob i).isSome->blk (h i)≠some g) (hnk: ¬ (cx.kp g).isSome) (hos:w'.os=w.os) (htape:w'.tape=w.tape) (hout:w'.output=w.output)
  (hsize:w'.heap.size=w.heap.size) (hk: ∀ k,k≠g->w'.heap[k]? = w.heap[k]?) (hsub:Sub φ w'):Mod cx s φ h tmps w':=by
 refine⟨hm.size,hm.tm,hsub,hm.ext,hm.new,fun i o ho=> ?_,hm.sep,hos.trans hm.os,htape.trans hm.tape,hout.trans hm.output,by rw[hsize]; exact hm.grow,hm.one,fun b hb hz=> ?_,hm.hfix,fun b o hb=>⟨by rw[hk b (fun e=>hnk (e ▸ by rw[hb]; rfl))]; exact (hm.kept b o hb).1,(hm.kept b o hb).2⟩⟩
 ·refine (hm.ob i o ho).keep (fun _ hb=>hb) (fun b hb=>hk b ?_) (fun _ _ _ h=>h) (fun _ _ _=>rfl) (fun _ _ _ r=>r)
  intro e
  subst e
  exact hfree i (by simp[ho]) hb
 ·rw[hk b (fun e=>by subst e; exact hg.elim (fun h=>by omega) hz)]
  exact hm.frame b hb hz
theorem Mod.arr (hm:Mod cx s φ h tmps w) {dst id:Nat} {fz:Bool} {sz:Nat} {e:TypeId} {es:List (List D)} {hv:Value} (hd:dst<cx.N) (hid:cx.bs<=id) (hcl:s.clean id=true) (hone:hv.oneCell'=true)
  (hob:ObR cx.own φ' h w hv (.arr fz sz e es)) (hmono: ∀ b o u,φ b o=some u->φ' b o=some u) (hsub:Sub φ' w) (hnew: ∀ b o u,φ' b o=some u->φ b o=none->blk hv=some b)
  (hfree: ∀ i b,(lk s.ob i).isSome->blk (h i)=some b->blk hv≠some b) (hnk: ∀ b,blk hv=some b-> ¬ (cx.kp b).isSome) :
  Mod cx (s.add dst id (.vec id) (some (.arr fz sz e es))) φ' (updH h id hv) (tmps.setIfInBounds dst hv) w:=by
 have hown: ∀ b,blk hv=some b->cx.own b:=fun b hb=>(hob.2.2.choose_spec.2.2 b hb).1
 refine⟨by simp[hm.size], ?_,hsub,fun b o v hb=>hmono b o v (hm.ext b o v hb), ?_, ?_, ?_,hm.os,hm.tape,hm.output,hm.grow, ?_,hm.frame,fun i hi=>by rw[<- hm.hfix i hi]; exact Zj _ _ (by omega), ?_⟩
 ·intro t d hl
  simp only[St.add,lk] at hl
  split at hl
  ·rename_i ht
   cases hl
   have:(tmps.setIfInBounds dst hv).getD t Go.undef=hv:=by
    subst ht
    have:t<tmps.size:=by rw[hm.size]; exact hd
    simp[Array.getD,this]
   rw[this]
   have r:=RV.vec (φ:=φ') (h:=updH h id hv) id (by rw[Zw]; obtain⟨a,c,hv'⟩:=Z1e hob; rw[hv']; rfl)
   rw[Zw] at r
   exact r
  ·rename_i ht
   have:(tmps.setIfInBounds dst hv).getD t Go.undef=tmps.getD t Go.undef:=by
    simp[Array.getD_eq_getD_getElem?,Ne.symm ht]
   rw[this]
   exact ((hm.tm t d hl).mono hmono).upd id hv (St.clean_tm hcl hl)
 ·intro b o u hu h0
  cases hq:φ b o with
  | some u'=>exact hm.new b o u' hq h0
  | none=>exact hown b (hnew b o u hu hq)
 ·intro i o ho
  simp only[St.add,lk] at ho
  split at ho
  ·rename_i hi
   cases ho
   subst hi
   have e1:updH h i hv i=hv:=Zw _ _ _
   rw[e1]
   exact hob.keep (fun _ hb=>hb) (fun _ _=>rfl) (fun _ _ _ h=>h) (fun _ _ _=>rfl) (fun _ _ he=>by cases he)
  ·rename_i hi
   have e1:updH h id hv i=h i:=Zj _ _ hi
   rw[e1]
   refine (hm.ob i o ho).keep (fun _ hb=>hb) (fun _ _=>rfl) hmono (fun b hb off=> ?_) (fun v d hdm r=> ?_)
   ·cases hq:φ b off with
    | some u=>exact hmono b off u hq
    | none =>
     cases hq':φ' b off with
     | none=>rfl
     | some u=>exact absurd (hnew b off u hq' hq) (hfree i b (by simp[ho]) hb)
   ·have hmen:=St.clean_ob hcl ho
    obtain⟨j,hj⟩:=List.mem_iff_getElem?.1 hdm
    exact (r.mono hmono).upd id hv (Qv hmen j d hj)
 ·intro i j b hi hj hbi hbj
  have hlk: ∀ i,i≠id->(lk (s.add dst id (.vec id) (some (.arr fz sz e es))).ob i).isSome->(lk s.ob i).isSome:=fun i hne hi=>by
   simpa only[St.add,lk,if_neg hne] using hi
  by_cases h1:i=id <;> by_cases h2:j=id
  ·rw[h1,h2]
  ·subst h1
   simp only[Zw] at hbi
   simp only[Zj h hv h2] at hbj
   exact absurd hbi (hfree j b (hlk j h2 hj) hbj)
  ·subst h2
   simp only[Zw] at hbj
   simp only[Zj h hv h1] at hbi
   exact absurd hbj (hfree i b (hlk i h1 hi) hbi)
  ·simp only[Zj h hv h1] at hbi
   simp only[Zj h hv h2] at hbj
   exact hm.sep i j b (hlk i h1 hi) (hlk j h2 hj) hbi hbj
 ·intro i
  simp only[updH]
  split
  ·exact hone
  ·exact hm.one i
 ·intro b o hb
  obtain⟨h1,h2,h3⟩:=hm.kept b o hb
  have hne:blk hv≠some b:=fun he=>hnk b he (by rw[hb]; rfl)
  refine⟨h1,fun off=> ?_,fun i hi=> ?_⟩
  ·cases hq:φ' b off with
   | none=>rfl
   | some u=>exact absurd (hnew b off u hq (h2 off)) hne
  ·by_cases hi':i=id
   ·subst hi'; simp only[Zw]; exact hne
   ·simp only[Zj h hv hi']
    simp only[St.add,lk,if_neg hi'] at hi
    exact h3 i hi
end
end Go.Sx
namespace Go.Sx
open Go.RowKit
variable [Globs] [Codes]
section
variable {P:Program} {cx:Cx} {s:St} {φ:Mem} {h:Nat->Value} {tmps:Array Value} {w:World}
theorem Z3A {v:Value} {ys ext:List (List D)} (hsub:Sub φ w) (hy:Rep φ v (.slice ys ext)) {sz:Nat} (hsz:0<sz) (hlen: ∀ q∈ys,q.length=sz) :
  ∃ news:List Value,((v= .slice none 0 0/\ys.length=0)\/ ∃ a c,v= .slice (some a) ys.length c/\ ∀ j u,news[j]? = some u->w.cell? (a.add j)=some u)/\news.length=ys.length*sz ∧
   (∀ u∈news,u.oneCell'=true)/\ ∀ i x j d,ys[i]? = some x->x[j]? = some d->Rep φ (news.getD (i*sz+j) Go.undef) d:=by
 rcases hy.slice_inv with ⟨⟨a,c,rfl,hac⟩,rfl,rfl⟩ | ⟨b,off,cap,sz',vals,rfl,hcap,hsz',hmem,hrep⟩
 ·cases a with
  | none=>obtain rfl:=hac rfl; exact⟨[],.inl ⟨rfl,rfl⟩,by simp,by simp,by simp⟩
  | some a=>exact⟨[],.inr ⟨a,c,rfl,by simp⟩,by simp,by simp,by simp⟩
 ·by_cases hn:ys=[]
  ·subst hn
   exact⟨[],.inr ⟨_,cap,rfl,by simp⟩,by simp,by simp,by simp⟩
  ·have e1:sz'=sz:=by
    obtain⟨q,hq⟩:=List.exists_mem_of_ne_nil _ hn
    rw[<- hsz' q (List.mem_append_left _ hq),hlen q hq]
   subst e1
   have hget: ∀ q,q<ys.length*sz'-> ∃ x d,(ys++ext)[q / sz']? = some x/\x[q % sz']? = some d:=fun q hq=>by
    have h1:q / sz'<ys.length:=(Nat.div_lt_iff_lt_mul hsz).2 hq
    have h2:(ys++ext)[q / sz']? = some ys[q / sz']:=by rw[List.getElem?_append_left h1,List.getElem?_eq_getElem h1]
    have h3:ys[q / sz'].length=sz':=hlen _ (List.getElem_mem h1)
    have h4:q % sz'<ys[q / sz'].length:=by rw[h3]; exact Nat.mod_lt _ hsz
    exact⟨_,_,h2,List.getElem?_eq_getElem h4⟩
   refine⟨(List.range (ys.length*sz')).map fun q=>vals (q / sz') (q % sz'),.inr ⟨_,cap,rfl, ?_⟩,by simp, ?_, ?_⟩
   ·intro j u hu
    rw[List.getElem?_map] at hu
    by_cases hj:j<ys.length*sz'
    ·simp[hj] at hu
     subst hu
     obtain⟨x,d,hx,hd⟩:=hget j hj
     have:=hmem _ _ _ _ hx hd
     rw[Addr.add_lit]
     have e2:off+j / sz'*sz'+j % sz'=off+j:=by
      have:=Nat.div_add_mod j sz'
      rw[Nat.mul_comm] at this; omega
     rw[e2] at this
     exact hsub _ _ _ this
    ·rw[List.getElem?_eq_none (by simp; omega)] at hu; cases hu
   ·intro u hu
    simp only[List.mem_map,List.mem_range] at hu
    obtain⟨q,hq,rfl⟩:=hu
    obtain⟨x,d,hx,hd⟩:=hget q hq
    exact (hrep _ _ _ _ hx hd).one
   ·intro i x j d hi hj
    have h1:i<ys.length:=(List.getElem?_eq_some_iff.1 hi).1
    have h2:j<sz':=by
     have:=(List.getElem?_eq_some_iff.1 hj).1
     rwa [hlen x (List.mem_of_getElem? hi)] at this
    have h3:i*sz'+j<ys.length*sz':=by
     have:(i+1)*sz'<=ys.length*sz':=Nat.mul_le_mul_right _ h1
     rw[Nat.add_mul,Nat.one_mul] at this; omega
    have e3:(i*sz'+j) / sz'=i:=by
     rw[Nat.add_comm,Nat.add_mul_div_right _ _ hsz,Nat.div_eq_of_lt h2,Nat.zero_add]
    have e4:(i*sz'+j) % sz'=j:=by
     rw[Nat.add_comm,Nat.add_mul_mod_self_right,Nat.mod_eq_of_lt h2]
    have e5:((List.range (ys.length*sz')).map fun q=>vals (q / sz') (q % sz')).getD (i*sz'+j) Go.undef=vals i j:=by
     simp[List.getD,h3,e3,e4]
    rw[e5]
    exact hrep _ _ _ _ (by rw[List.getElem?_append_left h1]; exact hi) hj
def Z3D (φ:Mem) (g:Option Nat) (xs:List Value):Mem:=fun b o=>if g=some b then xs[o]? else φ b o
theorem Z89 {φ:Mem} {es ys:List (List D)} {xs news:List Value} {sz:Nat} (hx:xs.length=es.length*sz) (hlen: ∀ q∈es,q.length=sz) (h1: ∀ i x j d,es[i]? = some x->x[j]? = some d->Rep φ (xs.getD (i*sz+j) Go.undef) d)
  (h2: ∀ i x j d,ys[i]? = some x->x[j]? = some d->Rep φ (news.getD (i*sz+j) Go.undef) d) :
  ∀ i x j d,(es++ys)[i]? = some x->x[j]? = some d->Rep φ ((xs++news).getD (i*sz+j) Go.undef) d:=by
 intro i x j d hi hj
 by_cases hlt:i<es.length
 ·rw[List.getElem?_append_left hlt] at hi
  have hq:j<sz:=by
   have:=(List.getElem?_eq_some_iff.1 hj).1
   rwa [hlen x (List.mem_of_getElem? hi)] at this
  have h3:i*sz+j<xs.length:=by
   rw[hx]
   have:(i+1)*sz<=es.length*sz:=Nat.mul_le_mul_right _ hlt
   rw[Nat.add_mul,Nat.one_mul] at this; omega
  have e:(xs++news).getD (i*sz+j) Go.undef=xs.getD (i*sz+j) Go.undef:=by
   simp only[List.getD]; rw[List.getElem?_append_left h3]
  rw[e]; exact h1 i x j d hi hj
 ·rw[List.getElem?_append_right (by omega)] at hi
  have e:(xs++news).getD (i*sz+j) Go.undef=news.getD ((i-es.length)*sz+j) Go.undef:=by
   simp only[List.getD]
   have h4:es.length*sz<=i*sz:=Nat.mul_le_mul_right _ (by omega)
   rw[List.getElem?_append_right (by rw[hx]; omega),hx,Nat.sub_mul]
   congr 2
   omega
  rw[e]; exact h2 _ x j d hi hj
theorem ZcR {own:Nat->Prop} {hv:Value} {fz:Bool} {sz sz':Nat} {e:TypeId} {es:List (List D)} (hob:ObR own φ h w hv (.arr fz sz' e es)) (hsz:0<sz) (hlen: ∀ q∈es,q.length=sz) :
  ∃ news:List Value,((hv= .slice none 0 0/\es.length=0)\/ ∃ a c,hv= .slice (some a) es.length c/\ ∀ j u,news[j]? = some u->w.cell? (a.add j)=some u)/\news.length=es.length*sz ∧
   (∀ u∈news,u.oneCell'=true)/\ ∀ i x j d,es[i]? = some x->x[j]? = some d->Rep φ (news.getD (i*sz+j) Go.undef) d:=by
 obtain⟨h0,hl,xs,hown,hrep,hblk⟩:=hob
 by_cases hn:es=[]
 ·subst hn
  rcases hown.2 with ⟨rfl,_⟩ | ⟨g,cap,cur,rfl,_⟩
  ·exact⟨[],.inl ⟨rfl,rfl⟩,by simp,by simp,by simp⟩
  ·exact⟨[],.inr ⟨_,cap,rfl,by simp⟩,by simp,by simp,by simp⟩
 ·have e1:sz'=sz:=by
   obtain⟨q,hq⟩:=List.exists_mem_of_ne_nil _ hn
   rw[<- hl q hq,hlen q hq]
  subst e1
  rcases hown.2 with ⟨_,h0'⟩ | ⟨g,cap,cur,rfl,hg,hh,hcap,hmax,hcs,htake⟩
  ·exact absurd (List.length_eq_zero_iff.1 h0') hn
  ·have hxl:xs.length=es.length*sz':=hown.1
   refine⟨xs,.inr ⟨_,cap,rfl,fun j u hu=> ?_⟩,hxl,fun u hu=> ?_,hrep⟩
   ·have hj:j<es.length*sz':=by rw[<- hxl]; exact (List.getElem?_eq_some_iff.1 hu).1
    rw[<- htake,List.getElem?_take_of_lt hj,Array.getElem?_toList] at hu
    rw[Addr.add_lit,Nat.zero_add]
    simp only[World.cell?,hh,hu]
    rfl
   ·obtain⟨p,hp⟩:=List.getElem?_of_mem hu
    have hpl:p<es.length*sz':=by rw[<- hxl]; exact (List.getElem?_eq_some_iff.1 hp).1
    have h1:p / sz'<es.length:=(Nat.div_lt_iff_lt_mul hsz).2 hpl
    have h3:es[p / sz'].length=sz':=hlen _ (List.getElem_mem h1)
    have h4:p % sz'<es[p / sz'].length:=by rw[h3]; exact Nat.mod_lt _ hsz
    have:=hrep (p / sz') _ (p % sz') _ (List.getElem?_eq_getElem h1) (List.getElem?_eq_getElem h4)
    have e2:p / sz'*sz'+p % sz'=p:=by
     have:=Nat.div_add_mod p sz'
     rw[Nat.mul_comm] at this; omega
    rw[e2,List.getD_eq_getElem?_getD,hp] at this
    exact this.one
theorem Z6m {t ty e:TypeId} {i:TypeInfo} {z:Value} {sz bytes dst id:Nat} (ht:P.underlying t=some (.slice e)) (hi:P.info? e=some i) (hz:i.zero=some z) (hsize:i.size=sz) (hby:i.bytes=bytes)
  (hzs:z.cells.size=sz) (hsz:0<sz) {s1:St} (hm:Mod cx s1 φ h tmps w) (hd:dst<cx.N) (hid:cx.bs<=id) (hcl:s1.clean id=true) {fz:Bool} {v:Value} {es ys:List (List D)} (hob:ObR cx.own φ h w v (.arr fz sz e es))
  (hfree: ∀ i b,(lk s1.ob i).isSome->blk (h i)=some b->blk v≠some b) (hnk: ∀ b,blk v=some b-> ¬ (cx.kp b).isSome)
  {y:Value} (hy: ∃ news:List Value,((y= .slice none 0 0/\ys.length=0)\/ ∃ a c,y= .slice (some a) ys.length c/\ ∀ j u,news[j]? = some u->w.cell? (a.add j)=some u)/\news.length=ys.length*sz ∧
   (∀ u∈news,u.oneCell'=true)/\ ∀ i x j d,ys[i]? = some x->x[j]? = some d->Rep φ (news.getD (i*sz+j) Go.undef) d) (hylen: ∀ q∈ys,q.length=sz) (h63:es.length+ys.length<=maxLen) (hbytes:(es.length+ys.length)*bytes<=140737488355328) :
  ∃ v' w' φ',(Builtin.append_ #[t,t] ty #[v,y]).run P w= .ok v' w'/\Mod cx (s1.add dst id (.vec id) (some (.arr fz sz e (es++ys)))) φ' (updH h id v') (tmps.setIfInBounds dst v') w':=by
 obtain⟨_,hlen,xs,hown,hrep,hblk⟩:=hob
 obtain⟨news,hya,hnl,hone,hnrep⟩:=hy
 obtain⟨v',w',hrun,hown',hone',hcase⟩:=Z2m (P:=P) t ty e i z sz bytes ht hi hz hsize hby hzs hsz v es.length xs hown y ys.length news hya hnl hone h63 hbytes
 have hlen': ∀ q∈es++ys,q.length=sz:=fun q hq=>(List.mem_append.1 hq).elim (hlen q) (hylen q)
 have hown2:w'.ownsRow 0 e sz v' (es++ys).length (xs++news):=by rw[List.length_append]; exact hown'
 have hxl:xs.length=es.length*sz:=hown.1
 have hcells: ∀ g,blk v'=some g-> ∀ j u,(xs++news)[j]? = some u->w'.cell? ⟨g,j,none⟩=some u:=fun g hg j u hu=>by
  have hg':v'.ownBlock=some g:=by
   rcases hown'.2 with ⟨rfl,_⟩ | ⟨g2,c2,cur2,rfl,_⟩
   ·cases hg
   ·cases hg; rfl
  have:=hown'.cells hg' j u hu
  rwa [Addr.add_lit,Nat.zero_add] at this
 have hrep':=Z89 (es:=es) (ys:=ys) (xs:=xs) (news:=news) hxl hlen hrep hnrep
 rcases hcase with ⟨hb,hos,htape,hout,hhs,hk⟩ | ⟨hb,hbel⟩
 ·-- in place
  have hsub':Sub φ w':=fun b o u hu=>by
   by_cases hbv:blk v=some b
   ·have:=(hblk b hbv).2 o
    rw[hu] at this
    split at this
    ·rename_i hc
     refine hcells b (by rw[hb]; exact hbv) o u ?_
     rw[List.getElem?_append_left (by rw[hxl]; exact hc.2)]; exact this.symm
    ·cases this
   ·rw[World.cell?_of_block (w:=w) (a:=⟨b,o,none⟩) (hk b hbv)]
    exact hm.mem b o u hu
  have hm':Mod cx s1 φ h tmps w':=by
   cases hv:blk v with
   | none =>
    refine⟨hm.size,hm.tm,hsub',hm.ext,hm.new,fun i o ho=> ?_,hm.sep,hos.trans hm.os,htape.trans hm.tape,hout.trans hm.output,by rw[hhs]; exact hm.grow,hm.one,fun b h1 h2=> ?_,hm.hfix,fun b o hb=>⟨by rw[hk b (by rw[hv]; simp)]; exact (hm.kept b o hb).1,(hm.kept b o hb).2⟩⟩
    ·exact (hm.ob i o ho).keep (fun _ hb=>hb) (fun b _=>hk b (by rw[hv]; simp)) (fun _ _ _ h=>h) (fun _ _ _=>rfl) (fun _ _ _ r=>r)
    ·rw[hk b (by rw[hv]; simp)]; exact hm.frame b h1 h2
   | some g=>exact hm.world (hblk g hv).1 (fun i hi e'=>hfree i g hi e' hv) (hnk g hv) hos htape hout hhs (fun k hkg=>hk k (by rw[hv]; simp; omega)) hsub'
  have hmono: ∀ b o u,φ b o=some u->(if fz then Z3D φ (blk v') (xs++news) else φ) b o=some u:=by
   intro b o u hu
   cases fz
   ·exact hu
   ·simp only[if_true,Z3D]
    split
    ·rename_i hg
     have:=(hblk b (by rw[<- hb]; exact hg)).2 o
     rw[hu] at this
     split at this
     ·rename_i hc
      rw[List.getElem?_append_left (by rw[hxl]; exact hc.2)]; exact this.symm
     ·cases this
    ·exact hu
  refine⟨v',w',if fz then Z3D φ (blk v') (xs++news) else φ,hrun,hm'.arr hd hid hcl hone' ?_ hmono ?_ ?_ (fun i b h1 h2=>by rw[hb]; exact hfree i b h1 h2) (fun b hbv=>hnk b (by rw[<- hb]; exact hbv))⟩
  ·refine⟨hsz,hlen',xs++news,hown2,fun i x j d h1 h2=>(hrep' i x j d h1 h2).mono hmono,fun b hbv=>⟨(hblk b (by rw[<- hb]; exact hbv)).1,fun o=> ?_⟩⟩
   cases fz
   ·simp only[Bool.false_eq_true,false_and,if_false]
    have:=(hblk b (by rw[<- hb]; exact hbv)).2 o
    simpa using this
   ·simp only[if_true,hbv,Z3D,true_and]
    split
    ·rfl
    ·rename_i hnlt
     exact List.getElem?_eq_none (by rw[hown2.1]; omega)
  ·intro b o u hu
   cases fz
   ·exact hsub' b o u hu
   ·simp only[if_true,Z3D] at hu
    split at hu
    ·rename_i hg
     exact hcells b hg o u hu
    ·exact hsub' b o u hu
  ·intro b o u hu hn
   cases fz
   ·simp only[Bool.false_eq_true,if_false] at hu; rw[hn] at hu; cases hu
   ·simp only[if_true,Z3D] at hu
    split at hu
    ·rename_i hg; exact hg
    ·rw[hn] at hu; cases hu
 ·-- a new block
  rcases hown'.2 with ⟨rfl,_⟩ | ⟨g,cap,cur,rfl,_⟩
  ·cases hb
  ·simp only[blk,Option.some.injEq] at hb
   have hst:=AStep.arr (h:=h) (dst:=id) hm.mem (w':=w') hbel (fz:=fz) (sz:=sz) (e:=e) (es:=es++ys) (g:=g) (cap:=cap) (xs:=xs++news) (by omega) hsz hlen' (by rw[List.length_append]; exact hown') hrep'
   have:=hm.astep hst hd hid (fun _ _ _ h=>St.clean_tm hcl h) (fun _ _ _ h=>St.clean_ob hcl h) (fun _=>rfl)
   rw[List.length_append] at this
   exact⟨_,w',_,hrun,this⟩
end
end Go.Sx
