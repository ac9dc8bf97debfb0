/- Own work: a layer over the kit: plain data,a walk over it,its soundness. -/
import Derived.MapKept
import Derived.Maps.RangeRun
import Derived.Test.YtecgehidegnmnaaGreatDoorSx1
set_option linter.all false
namespace Go.Sx
open Go.RowKit
variable [Globs] [Codes]
section
variable {P:Program} {o:Oper} {ρ:Operand->Value} {w:World} {φ:Mem} {h:Nat->Value} {dst:Nat} {K:D->Option Ob->Prop} {obs:Nat->Option Ob}
theorem RV.func_inv {f:Fn} {a c:List D} {v:Value} (r:RV φ h v (.func f a c)): ∃ va vc:Array Value,v=.func f va vc:=by
 cases r with
 |pure r=>cases r
 |func _ vf vc _ _ hf hc h1 h2=>exact⟨vf,vc,rfl⟩
theorem RV.yld_inv {i:Nat} {v:Value} (r:RV φ h v (.yld i)): ∃ b,v=.func (.yield b) #[] #[]:=by
 cases r with
 |pure r=>cases r
 |yld _ b _=>exact⟨b,rfl⟩
theorem RV.nilf_inv {v:Value} (r:RV φ h v .nilf):v=.nilFunc:=by cases r with|pure r=>cases r;rfl
theorem RV.nilp_inv {v:Value} (r:RV φ h v .nilp):v=.pointer none:=by cases r with|pure r=>cases r;rfl
theorem RV.ifc_inv {v:Value} (r:RV φ h v .ifc): ∃ t x,v=.iface t x:=by cases r with|pure r=>cases r with|ifc t x=>exact⟨t,x,rfl⟩
theorem RV.raw_inv {u v:Value} (r:RV φ h v (.raw u)):v=u:=by cases r with|pure r=>cases r;rfl
theorem ZeF {x:Operand} (k:o.op=.nilCheck x) (l:Sub φ w) {ds:List D} (hr:RVL φ h [ρ x] ds) (g:evl P dst .nilck ds obs K):OpOut P o ρ w (APost φ h w dst K):=by
 match ds,hr,g with
 |[d],hr,g =>
  obtain⟨m,n⟩:=g;refine OpOut.same l (v:=ρ x) ?_ n hr.1;have e:=hr.1;cases d with
  |ptr i off=>obtain⟨b,_,hv⟩:=e.ptr_inv;simp[execOp,k,hv]
  |fptr cs=>obtain⟨b,off,_,hv,_⟩:=e.fptr_inv;simp[execOp,k,hv]
  |vptr i a j sz=>obtain⟨b,_,_,_,_,hv⟩:=e.vptr_inv;simp[execOp,k,hv]
  |yld i=>obtain⟨b,hv⟩:=e.yld_inv;simp[execOp,k,hv]
  |func f a c =>
   cases f with
   |func f=>obtain⟨va,vc,hv⟩:=e.func_inv;simp[execOp,k,hv]
   |_=>simp[D.nn] at m
  |_=>simp[D.nn] at m
def Z2W (P:Program):List Field->Nat->Option (List Nat)
 |[],_=>some []
 |f :: r,i =>if f.name ≠ "_" /\ f.offset = i then (match P.underlying f.type,Z2W P r (i + 1) with
  |some .bool,some ks=>some (0::ks)
  |some (.int _),some ks=>some (2::ks)
  |some .string,some ks=>some (1::ks)
  |_,_=>none) else none
theorem Z6F {t:TypeId} {cs:Array Value} {off:Nat} {v:Value} (ha:aggB P t=some false) (hv:cs[off]? = some v):(part t cs off).run P w=.ok v w:=by
 unfold part;simp only[Sem.run_bind,Z0X ha,Result.andThen_ok,Bool.false_eq_true,if_false,hv];rfl
theorem Z9Y {ks:List Nat} {cs ds:List D} {r:Bool} (h:ZF (0::ks) cs ds=some r): ∃ a b cs' e x,cs=.bool a::cs'/\ds=.bool b::e/\ZF ks cs' e=some x/\r=((a == b) && x):=by
 cases cs with
 |nil=>cases ds<;>simp[ZF] at h
 |cons c cs =>
  cases ds with
  |nil=>cases c<;>simp[ZF] at h
  |cons d ds =>
   cases c<;>cases d<;>simp only[ZF,reduceCtorEq] at h;rename_i a b;cases hx:ZF ks cs ds with
   |none=>rw[hx] at h;cases h
   |some x=>rw[hx] at h;exact⟨a,b,cs,ds,x,rfl,rfl,hx,(Option.some.inj h).symm⟩
theorem Z9X {ks:List Nat} {cs ds:List D} {r:Bool} (h:ZF (1::ks) cs ds=some r): ∃ a b cs' e x,cs=.str a::cs'/\ds=.str b::e/\ZF ks cs' e=some x/\r=(decide (a=b) && x):=by
 cases cs with
 |nil=>cases ds<;>simp[ZF] at h
 |cons c cs =>
  cases ds with
  |nil=>cases c<;>simp[ZF] at h
  |cons d ds =>
   cases c<;>cases d<;>simp only[ZF,reduceCtorEq] at h;rename_i a b;cases hx:ZF ks cs ds with
   |none=>rw[hx] at h;cases h
   |some x=>rw[hx] at h;exact⟨a,b,cs,ds,x,rfl,rfl,hx,(Option.some.inj h).symm⟩
theorem Z9W {ks:List Nat} {cs ds:List D} {r:Bool} (h:ZF (2::ks) cs ds=some r): ∃ k a b cs' e x,cs=.int k a::cs'/\ds=.int k b::e/\ZF ks cs' e=some x/\r=(decide (a=b) && x):=by
 cases cs with
 |nil=>cases ds<;>simp[ZF] at h
 |cons c cs =>
  cases ds with
  |nil=>cases c<;>simp[ZF] at h
  |cons d ds =>
   cases c<;>cases d<;>simp only[ZF,reduceCtorEq] at h;rename_i k a g b;by_cases f:k=g
   ·subst f;rw[if_pos rfl] at h;cases hx:ZF ks cs ds with
    |none=>rw[hx] at h;cases h
    |some x=>rw[hx] at h;exact⟨k,a,b,cs,ds,x,rfl,rfl,hx,(Option.some.inj h).symm⟩
   ·rw[if_neg f] at h;cases h
theorem Z2n {φ:Mem} {h:Nat->Value} (n:Nat) {xs ys:Array Value}: ∀ (fs:List Field) (i:Nat) (ks:List Nat) (cs ds:List D) (r:Bool),Z2W P fs i=some ks->ZF ks cs ds=some r →
  (∀ j d,cs[j]? = some d-> ∃ v,xs[i+j]? = some v/\RV φ h v d)->(∀ j d,ds[j]? = some d-> ∃ v,ys[i+j]? = some v/\RV φ h v d)->(Op.eqFields (n+1) xs ys fs).run P w=.ok r w
 |[],i,ks,cs,ds,r,hf,z,_,_=>by
  simp only[Z2W,Option.some.injEq] at hf;subst hf;cases cs<;>cases ds<;>simp[ZF] at z;subst z;rfl
 |f::fs,i,ks,cs,ds,r,hf,z,hx,E=>by
  simp only[Z2W] at hf;split at hf
  ·rename_i G;obtain⟨h1,h2⟩:=G;have key: ∀ (c d:D) (cs' e:List D) (m:List Nat) (v u:Value) (q F:Bool),cs=c::cs'->ds=d::e->xs[i]? = some v->ys[i]? = some u->aggB P f.type=some false->Z2W P fs (i+1)=some m->(Op.equalIn (n+1) f.type v u).run P w=.ok q w->ZF m cs' e=some F->r=(q && F)->(Op.eqFields (n+1) xs ys (f::fs)).run P w=.ok r w:=by
    intro c d cs' e m v u q F hc C hv y ha x O I H;subst hc C;have g: ∀ j d,cs'[j]? = some d-> ∃ v,xs[i+1+j]? = some v/\RV φ h v d:=λj d C=>by
     have:=hx (j+1) d (by simpa using C);rwa [show i+(j+1)=i+1+j by omega] at this
    have J: ∀ j d,e[j]? = some d-> ∃ v,ys[i+1+j]? = some v/\RV φ h v d:=λj d C=>by
     have:=E (j+1) d (by simpa using C);rwa [show i+(j+1)=i+1+j by omega] at this
    simp only[Op.eqFields,h1,ne_eq,not_false_eq_true,if_true,Sem.run_bind,h2,Z6F ha hv,Z6F ha y,Result.andThen_ok,O];rw[H];cases q with
    |false=>rfl
    |true =>
     simp only[Bool.not_true,Bool.false_eq_true,if_false,Bool.true_and];exact Z2n n fs (i+1) m cs' e F x I g J
   have first: ∀ {l:List D} {zs:Array Value} (L: ∀ j d,l[j]? = some d-> ∃ v,zs[i+j]? = some v/\RV φ h v d) {c:D} {M:List D},l=c::M-> ∃ v,zs[i]? = some v/\RV φ h v c:=λ{l zs} L {c M} hl=>by
    subst hl;exact L 0 c rfl
   split at hf
   ·rename_i m hh x;cases hf;obtain⟨a,b,cs',e,N,rfl,rfl,g,rfl⟩:=Z9Y z;obtain⟨v,hv,t⟩:=first hx rfl
    obtain⟨u,y,p⟩:=first E rfl
    have A:=t.bool_inv;have B:=p.bool_inv;subst A;subst B;exact key _ _ _ _ _ _ _ _ _ rfl rfl hv y (by unfold aggB;rw[hh]) x (run_equalIn_bool' w n f.type _ _ hh) g rfl
   ·rename_i Q m hh x;cases hf;obtain⟨k,a,b,cs',e,N,rfl,rfl,g,rfl⟩:=Z9W z;obtain⟨v,hv,t⟩:=first hx rfl
    obtain⟨u,y,p⟩:=first E rfl
    have A:=t.int_inv;have B:=p.int_inv;subst A;subst B;refine key _ _ _ _ _ _ _ _ _ rfl rfl hv y (by unfold aggB;rw[hh]) x (run_equalIn_int w n f.type _ _ _ _ hh) g ?_;rw[Z2y]
   ·rename_i m hh x;cases hf;obtain⟨a,b,cs',e,N,rfl,rfl,g,rfl⟩:=Z9X z;obtain⟨v,hv,t⟩:=first hx rfl
    obtain⟨u,y,p⟩:=first E rfl
    have A:=t.str_inv;have B:=p.str_inv;subst A;subst B;refine key _ _ _ _ _ _ _ _ _ rfl rfl hv y (by unfold aggB;rw[hh]) x (run_equalIn_string w n f.type _ _ hh) g ?_;rw[Z3c,ByteArray.toList_eq,ByteArray.toList_eq]
   ·cases hf
  ·cases hf
theorem ZhR {neg:Bool} {t I:TypeId} {x y:Operand} {fs:Array Field} {ks:List Nat} (B:o.op=.binOp (if neg then .neq else .eql) t x y I) (C:P.underlying t=some (.struct fs)) (G:Z2W P fs.toList 0=some ks)
  (hs:P.stoodInHeld t=false) (A:P.eqGuardType P.depth t=false) (i:Sub φ w) {ds:List D} (hr:RVL φ h [ρ x,ρ y] ds) (c:evl P dst (.eqs neg ks) ds obs K):OpOut P o ρ w (APost φ h w dst K):=by
 match ds,hr,c with
 |[.agg a,.agg b],hr,c =>
  simp only[evl] at c;split at c
  ·rename_i r E;obtain⟨xs,hx,p,n⟩:=hr.1.agg_inv;obtain⟨ys,k,u,q⟩:=hr.2.1.agg_inv;have get: ∀ {zs:Array Value} {l:List D},zs.size=l.length->(∀ j d,l[j]? = some d->RV φ h (zs.getD j Go.undef) d)-> ∀ j d,l[j]? = some d-> ∃ v,zs[0+j]? = some v/\RV φ h v d:=λ{zs l} H hl j d z=>by
    have F:j<zs.size:=by rw[H];exact (List.getElem?_eq_some_iff.1 z).1
    refine⟨zs.getD j Go.undef,?_,hl j d z⟩;rw[Nat.zero_add];simp[Array.getD,F]
   have g:P.fieldsOf t=fs:=by unfold Program.fieldsOf;rw[C]
   have e:(Op.equalIn 10000 t (.agg xs) (.agg ys)).run P w=.ok r w:=by
    rw[run_equalIn_struct w 9999 t xs ys (by rw[g];exact C) hs,g];exact Z2n (φ:=φ) (h:=h) 9998 fs.toList 0 ks a b r G E (get p n) (get u q)
   cases neg with
   |false =>
    refine OpOut.same i (v:=.bool r) ?_ c (Qu _);have m:(binOp .eql t (ρ x) (ρ y)).run P w=.ok (.bool r) w:=by rw[hx,k,run_eql_struct,e];rfl
    have f:(eqGuard .eql t x y (ρ x) (ρ y)).run P w=.ok () w:=by rw[hx,k];exact run_eqGuard_agg w .eql t x y xs ys A
    simp[execOp,B,f,m]
   |true =>
    refine OpOut.same i (v:=.bool (!r)) ?_ c (Qu _);have m:(binOp .neq t (ρ x) (ρ y)).run P w=.ok (.bool (!r)) w:=by rw[hx,k,run_neq_struct,e];rfl
    have f:(eqGuard .neq t x y (ρ x) (ρ y)).run P w=.ok () w:=by rw[hx,k];exact run_eqGuard_agg w .neq t x y xs ys A
    simp[execOp,B,f,m]
  ·exact c.elim
theorem Zdh {fz:Bool} {sz:Nat} {e:TypeId} {x:Operand} (c:o.op=.move x\/o.op=.assign x) (f:Sub φ w) {ds:List D} (hr:RVL φ h [ρ x] ds) (a:evl P dst (.nilv fz sz e) ds obs K):OpOut P o ρ w (APost φ h w dst K):=by
 match ds,hr,a with
 |[.nils],hr,a =>
  obtain⟨l,k⟩:=a;have hv:=hr.1.nils_inv;refine .inl ⟨.slice none 0 0,w,?_,_,_,φ,.slice none 0 0,k,?_⟩
  ·rcases c with c|c<;>simp[execOp,c,hv]
  ·refine⟨Below.refl _ _,λ_ _ _ hx=>hx,f,λb o u h1 h2=>by rw[h2] at h1;(cases h1),?_,λo c=>?_⟩
   ·have:updH h dst (.slice none 0 0) dst=.slice none 0 0:=Zw ..;show RV φ (updH h dst (.slice none 0 0)) (.slice none 0 0) (.vec dst);have r:=RV.vec (φ:=φ) (h:=updH h dst (.slice none 0 0)) dst (by rw[this];rfl);rw[this] at r;exact r
   ·cases c;exact⟨l,λx hx=>(by cases hx),[],⟨by simp,.inl ⟨rfl,rfl⟩⟩,λi x j d hx=>(by simp at hx),λb g=>by simp[blk] at g⟩
theorem ZhO {f:Fn} {first caps:Array Operand} (l:o.op=.makeFunc f first caps) (e:Sub φ w) {ds:List D} (hr:RVL φ h ((first.toList++caps.toList).map ρ) ds) (c:evl P dst (.mkfn f first.size) ds obs K):OpOut P o ρ w (APost φ h w dst K):=by
 have b:=hr.length;simp only[List.length_map,List.length_append,Array.length_toList] at b;obtain⟨k,i⟩:first.size<=ds.length/\K (.func f (ds.take first.size) (ds.drop first.size)) none:=c;refine OpOut.same e (v:=.func f (first.map ρ) (caps.map ρ)) (by simp[execOp,l,Instr.makeFunc]) i (.func _ _ _ _ _ (by simp;omega) (by simp;omega) (λj d a=>?_) (λj d a=>?_))
 ·rw[List.getElem?_take] at a;split at a
  ·rename_i g
   have:=hr.get j d a;simp only[List.getD,List.map_append] at this;rw[List.getElem?_append_left (by simpa using g)] at this;simpa [Array.getD_eq_getD_getElem?] using this
  ·cases a
 ·rw[List.getElem?_drop] at a
  have:=hr.get _ d a;simp only[List.getD,List.map_append] at this;rw[List.getElem?_append_right (by simp)] at this;simpa [Array.getD_eq_getD_getElem?] using this
def kdOf (P:Program) (t:TypeId):Option Nat:=match P.underlying t with
 |some (.interface _)=>some 0
 |some (.func ..)=>some 1
 |some (.pointer _)=>some 2
 |some (.slice _)=>some 3
 |_=>none
theorem Z9D {t:TypeId} (h:kdOf P t=some 0): ∃ a,P.underlying t=some (.interface a):=by
 unfold kdOf at h;split at h<;>simp_all
theorem Z9C {t:TypeId} (h:kdOf P t=some 1): ∃ p q r,P.underlying t=some (.func p q r):=by
 unfold kdOf at h;split at h<;>simp_all
theorem Z9B {t:TypeId} (h:kdOf P t=some 2): ∃ e,P.underlying t=some (.pointer e):=by
 unfold kdOf at h;split at h<;>simp_all
theorem Z9A {t:TypeId} (h:kdOf P t=some 3): ∃ e,P.underlying t=some (.slice e):=by
 unfold kdOf at h;split at h<;>simp_all
theorem Z51 {t:TypeId} {kd:Nat} (f:kdOf P t=some kd) {a b:D} {r:Bool} (d:eqD kd a b=some r) {x y:Value} (hx:RV φ h x a) (g:RV φ h y b):(Op.equal t x y).run P w=.ok r w:=by
 have k: ∀ n:Nat,(Op.equalIn (n+1) t x y).run P w=.ok r w:=λn=>by
  unfold eqD at d;split at d<;>simp only[Option.some.injEq,reduceCtorEq] at d
  ·obtain⟨i,c⟩:=Z9D f;subst d;obtain⟨tt,l,rfl⟩:=hx.ifc_inv;rw[g.raw_inv];simp[Op.equalIn,run_underlying c]
  ·obtain⟨i,c⟩:=Z9D f;subst d;obtain⟨tt,l,rfl⟩:=g.ifc_inv;rw[hx.raw_inv];simp[Op.equalIn,run_underlying c]
  ·obtain⟨i,c⟩:=Z9D f;subst d;rw[hx.raw_inv,g.raw_inv];simp[Op.equalIn,run_underlying c]
  ·obtain⟨p,q,j,c⟩:=Z9C f;subst d;obtain⟨va,vc,rfl⟩:=hx.func_inv;rw[g.nilf_inv];simp[Op.equalIn,run_underlying c]
  ·obtain⟨p,q,j,c⟩:=Z9C f;subst d;obtain⟨va,rfl⟩:=hx.yld_inv;rw[g.nilf_inv];simp[Op.equalIn,run_underlying c]
  ·obtain⟨p,q,j,c⟩:=Z9C f;subst d;rw[hx.nilf_inv,g.nilf_inv];simp[Op.equalIn,run_underlying c]
  ·obtain⟨e,c⟩:=Z9B f;subst d;obtain⟨b,_,rfl⟩:=hx.ptr_inv;rw[g.nilp_inv];simp[Op.equalIn,run_underlying c]
  ·obtain⟨e,c⟩:=Z9B f;subst d;obtain⟨b,off,_,rfl,_⟩:=hx.fptr_inv;rw[g.nilp_inv];simp[Op.equalIn,run_underlying c]
  ·obtain⟨e,c⟩:=Z9B f;subst d;rw[hx.nilp_inv,g.nilp_inv];simp[Op.equalIn,run_underlying c]
  ·obtain⟨e,c⟩:=Z9A f;subst d;rcases hx.slice_inv.slice_inv with⟨_,h0,_⟩|⟨b,off,cap,sz,vals,rfl,_⟩
   ·cases h0
   ·rw[g.nils_inv];simp[Op.equalIn,run_underlying c]
  ·obtain⟨e,c⟩:=Z9A f;subst d;rw[hx.nils_inv,g.nils_inv];simp[Op.equalIn,run_underlying c]
 exact k 9999
def cst:Operand->Bool
 |.const _=>true
 |_=>false
theorem Z2Z {op:BinOp} {t:TypeId} {x y:Operand} {a b:Value} (hc:cst x ||cst y) (c: ∀ vs,a≠ .agg vs):(eqGuard op t x y a b).run P w=.ok () w:=by
 cases op;all_goals first
  |rfl
  |(
   unfold eqGuard;simp only[Bool.not_true,Bool.false_eq_true,if_false];split
   ·cases x<;>cases y<;>first|rfl|exact absurd hc (by simp only[cst,Bool.or_self,Bool.false_eq_true,not_false_eq_true])
   ·exact absurd rfl (c _)
   ·rfl)
theorem ZkI {op:BinOp} {t u:TypeId} {kd:Nat} {x y:Operand} (m:o.op=.binOp op t x y u) (q:kdOf P t=some kd) (hc:cst x ||cst y) (g:Sub φ w) {ds:List D} (hr:RVL φ h [ρ x,ρ y] ds)
  (d:evl P dst (.eqn op kd) ds obs K):OpOut P o ρ w (APost φ h w dst K):=by
 match ds,hr,d with
 |[a,b],hr,d =>
  simp only[evl] at d;split at d
  ·rename_i r i;have heq:=Z51 (P:=P) (w:=w) q i hr.1 hr.2.1;have hx:=hr.1;have e:(∃ j v,ρ x=.iface j v)\/ρ x=.nilIface\/(∃ f a c,ρ x=.func f a c)\/ρ x=.nilFunc\/(∃ p,ρ x=.pointer p)\/(∃ a n c,ρ x=.slice a n c):=by
    unfold eqD at i;split at i
    ·exact .inl (by obtain⟨tt,v,h⟩:=hx.ifc_inv;exact⟨tt,v,h⟩)
    ·exact .inr (.inl hx.raw_inv)
    ·exact .inr (.inl hx.raw_inv)
    ·exact .inr (.inr (.inl (by obtain⟨va,vc,h⟩:=hx.func_inv;exact⟨_,va,vc,h⟩)))
    ·exact .inr (.inr (.inl (by obtain⟨b,h⟩:=hx.yld_inv;exact⟨_,_,_,h⟩)))
    ·exact .inr (.inr (.inr (.inl hx.nilf_inv)))
    ·exact .inr (.inr (.inr (.inr (.inl (by obtain⟨b,_,h⟩:=hx.ptr_inv;exact⟨_,h⟩)))))
    ·exact .inr (.inr (.inr (.inr (.inl (by obtain⟨b,off,_,h,_⟩:=hx.fptr_inv;exact⟨_,h⟩)))))
    ·exact .inr (.inr (.inr (.inr (.inl ⟨_,hx.nilp_inv⟩))))
    ·exact .inr (.inr (.inr (.inr (.inr (by
      rcases hx.slice_inv.slice_inv with⟨⟨a,c,h,_⟩,_⟩|⟨b,off,cap,sz,vals,h,_⟩
      ·exact⟨_,_,_,h⟩
      ·exact⟨_,_,_,h⟩)))))
    ·exact .inr (.inr (.inr (.inr (.inr ⟨_,_,_,hx.nils_inv⟩))))
    ·cases i
   have l:(eqGuard op t x y (ρ x) (ρ y)).run P w=.ok () w:=Z2Z hc (by rcases e with⟨j,v,h⟩|h|⟨f,a,c,h⟩|h|⟨p,h⟩|⟨a,n,c,h⟩<;>rw[h]<;>simp);by_cases h1:op=.eql
   ·subst h1;simp only[if_true] at d;refine OpOut.same g (v:=.bool r) ?_ d (Qu _);have k:(binOp .eql t (ρ x) (ρ y)).run P w=.ok (.bool r) w:=by
     rcases e with⟨j,v,h⟩|h|⟨f,a,c,h⟩|h|⟨p,h⟩|⟨a,n,c,h⟩<;>rw[h] at heq ⊢<;>simp[binOp,heq]
    simp[execOp,m,l,k]
   ·by_cases h2:op=.neq
    ·subst h2;simp only[if_neg h1,if_true] at d;refine OpOut.same g (v:=.bool (!r)) ?_ d (Qu _);have k:(binOp .neq t (ρ x) (ρ y)).run P w=.ok (.bool (!r)) w:=by
      rcases e with⟨j,v,h⟩|h|⟨f,a,c,h⟩|h|⟨p,h⟩|⟨a,n,c,h⟩<;>rw[h] at heq ⊢<;>simp[binOp,heq]
     simp[execOp,m,l,k]
    ·rw[if_neg h1,if_neg h2] at d;exact d.elim
  ·exact d.elim
theorem Z2Y {t e:TypeId} {x y:Operand} {b off len sz:Nat} {k:IntKind} {i:Int} (a:o.op=.indexAddr t x y) (c:P.underlying t=some (.array len e)) (hs:szT P e=some sz)
  (hx:ρ x=.pointer (some ⟨b,off,none⟩)) (d:ρ y=.int k i) (h0:0<=i) (h1:i<len):(execOp ρ o).run P w=.ok (.value (.pointer (some ⟨b,off+i.toNat*sz,none⟩))) w:=by
 simp[execOp,a,hx,d,Instr.indexAt,run_underlying c,asIntOf,Instr.sureAddr,h0,h1,ZX hs,Addr.add_lit]
theorem Zbt {t e:TypeId} {x y:Operand} {len sz:Nat} (l:o.op=.indexAddr t x y) (m:P.underlying t=some (.array len e)) (hs:szT P e=some sz) (f:Sub φ w) {ds:List D} (hr:RVL φ h [ρ x,ρ y] ds)
  (a:evl P dst (.iaddrA len sz) ds obs K):OpOut P o ρ w (APost φ h w dst K):=by
 match ds,hr,a with
 |[.fptr cs,.int k i],hr,a =>
  obtain⟨h0,h1,g⟩:=a;obtain⟨b,off,vals,hx,hm,hrep⟩:=hr.1.fptr_inv;refine OpOut.same f (Z2Y l m hs hx hr.2.1.int_inv h0 h1) g (.fptr b (off+i.toNat*sz) (cs.drop (i.toNat*sz)) (λj=>vals (i.toNat*sz+j)) ?_ ?_)
  ·intro j d c;rw[List.getElem?_drop] at c
   have:=hm _ _ c;rwa [<- Nat.add_assoc] at this
  ·intro j d c;rw[List.getElem?_drop] at c;exact hrep _ _ c
 |[.ptr id off,.int k i],hr,a =>
  obtain⟨h0,h1,g⟩:=a;obtain⟨b,hh,hx⟩:=hr.1.ptr_inv;exact OpOut.same f (Z2Y l m hs hx hr.2.1.int_inv h0 h1) g (.ptr id (off+i.toNat*sz) b hh)
theorem Z9q {big:Bool} {k:IntKind}: ∀ (vs:List Value) (ds:List D) (a r:Int),RVL φ h vs ds->mmI big k a ds=some r->(vs.foldlM (if big then Builtin.max2 else Builtin.min2) (.int k a)).run P w=.ok (.int k r) w
 |[],[],a,r,_,c=>by simp[mmI] at c;subst c;rfl
 |v::vs,.int d b::ds,a,r,hr,c=>by
  simp only[mmI] at c;split at c
  ·rename_i e;subst e;rw[hr.1.int_inv,List.foldlM_cons,Sem.run_bind];cases big
   ·simp only[Bool.false_eq_true,if_false] at c ⊢;have:(Builtin.min2 (.int d a) (.int d b)).run P w=.ok (.int d (if b<a then b else a)) w:=rfl;rw[this,Result.andThen_ok];exact Z9q (big:=false) vs ds _ r hr.2 c
   ·simp only[if_true] at c ⊢;have:(Builtin.max2 (.int d a) (.int d b)).run P w=.ok (.int d (if b > a then b else a)) w:=rfl;rw[this,Result.andThen_ok];exact Z9q (big:=true) vs ds _ r hr.2 c
  ·cases c
 |[],_::_,_,_,hr,_=>hr.elim
 |_::_,[],_,_,hr,_=>hr.elim
theorem s_mm {big:Bool} {args:Array Operand} {ts:Array TypeId} (g:o.op=.call {callee:=.builtin (if big then .max else .min),args,argTypes:=ts}) (f:Sub φ w) {ds:List D} (hr:RVL φ h (args.toList.map ρ) ds)
  (d:evl P dst (.mm big) ds obs K):OpOut P o ρ w (APost φ h w dst K):=by
 match ds,d with
 |.int k a::ds,d =>
  simp only[evl] at d;split at d
  ·rename_i r hm;cases hl:args.toList with
   |nil=>rw[hl] at hr;exact hr.elim
   |cons x xs =>
    rw[hl] at hr;have h1:=hr.1.int_inv;refine OpOut.same f (v:=.int k r) (QB (b:=if big then .max else .min) (args:=args) (ts:=ts) g ?_) d (Z06 _ _);have c:=Z9q (P:=P) (w:=w) (xs.map ρ) ds a r hr.2 hm;have e:(args.map ρ).toList=.int k a::xs.map ρ:=by rw[Array.toList_map,hl,List.map_cons,h1]
    cases big
    ·simp only[Bool.false_eq_true,if_false] at c ⊢;simp only[builtin,Builtin.min_,e,Sem.run_bind,c,Result.andThen_ok];rfl
    ·simp only[if_true] at c ⊢;simp only[builtin,Builtin.max_,e,Sem.run_bind,c,Result.andThen_ok];rfl
  ·exact d.elim
theorem Z3d {w w':World} (h:w.grownBy w' none):Below w.heap.size w w':=⟨h.os,h.tape,h.output,h.size,λk a=>h.block k a (by simp)⟩
theorem ZkG {t c:TypeId} {l:Operand} {fz:Bool} {sz:Nat} {z:List D} {i:TypeInfo} (Q:o.op=.makeSlice t l l) (R:P.underlying t=some (.slice c)) (S:Z0p P c=some z) (hi:P.info? c=some i) (hs:i.size=sz) (hsz:0<sz) (H:Sub φ w)
  {ds:List D} (hr:RVL φ h [ρ l] ds) (f:evl P dst (.mks fz sz c (z.map unnil) i.bytes) ds obs K):OpOut P o ρ w (APost φ h w dst K):=by
 match ds,hr,f with
 |[.int k n],hr,f =>
  obtain⟨u,h0,L,T,O⟩:=f;obtain⟨U,b,A,G,F,rfl⟩:=QK S;obtain rfl:=Option.some.inj (hi.symm.trans A);have hv:=hr.1.int_inv;have a:b.cells.size=sz:=by rw[F,hs]
  have y:i.bytes*n.toNat<=281474976710656:=by
   have:((i.bytes*n.toNat:Nat):Int)<=281474976710656:=by
    rw[Int.natCast_mul,Int.toNat_of_nonneg h0,Int.mul_comm];exact L
   omega
  obtain⟨w',e,r,N⟩:=run_make_full (P:=P) w 0 t c i b sz R hi G hs k k n.toNat y (by unfold maxLen;omega) (Nat.zero_le _);rw[Int.toNat_of_nonneg h0] at e;have m: ∀ x∈List.replicate n.toNat ((b.cells.toList.map Qo).map Sx.unnil),x.length=sz:=λx hx=>by
   rw[List.eq_of_mem_replicate hx];simp[a]
  have hc:CR φ h b.cells ((b.cells.toList.map Qo).map Sx.unnil):=(CR.const _).unnil;refine .inl ⟨.slice (some ⟨w.heap.size,0,none⟩) n.toNat n.toNat,w',?_,_,_,if fz then Z0Y φ w.heap.size (madeCells b.cells (n.toNat*sz)).toList else φ,.slice (some ⟨w.heap.size,0,none⟩) n.toNat n.toNat,O,?_⟩
  ·simp[execOp,Q,hv,e]
  ·have:=AStep.arr (dst:=dst) (fz:=fz) (h:=h) (es:=List.replicate n.toNat ((b.cells.toList.map Qo).map Sx.unnil)) H (Z3d N) (Nat.le_refl _) hsz m (by rw[List.length_replicate];exact r) (λq x j d hx B=>by
    obtain⟨I,v⟩:=List.getElem?_eq_some_iff.1 hx;rw[List.getElem_replicate] at v;rw[List.length_replicate] at I;subst v;have C:=(List.getElem?_eq_some_iff.1 B).1;have g:j<sz:=by simpa [a] using C
    have E:q*sz+j<n.toNat*sz:=by
     have:(q+1)*sz<=n.toNat*sz:=Nat.mul_le_mul_right _ I;rw[Nat.add_mul,Nat.one_mul] at this;omega
    have p:(q*sz+j) % sz=j:=by rw[Nat.mul_comm,Nat.mul_add_mod,Nat.mod_eq_of_lt g]
    have J:(madeCells b.cells (n.toNat*sz)).toList.getD (q*sz+j) Go.undef=b.cells.getD j Go.undef:=by
     unfold madeCells;simp only[List.getD,Array.getElem?_toList,Array.getElem?_map,Array.getElem?_range,E,if_true,Option.map_some,Option.getD_some];rw[a,p];simp[Array.getD,a,g]
    rw[J];have M:=List.all_eq_true.1 u d (List.mem_of_getElem? B);exact (hc.2 j d B).pur_rep M)
   rw[List.length_replicate] at this;exact this
theorem ZkH {t c:TypeId} {l:Operand} {f:IntKind} {fz:Bool} {sz:Nat} {z:List D} {i:TypeInfo} (B:o.op=.makeSlice t (.const (.int f 0)) l) (r:ρ (.const (.int f 0))=.int f 0) (E:P.underlying t=some (.slice c)) (F:Z0p P c=some z) (hi:P.info? c=some i) (hs:i.size=sz) (hsz:0<sz) (u:Sub φ w)
  {ds:List D} (hr:RVL φ h [ρ l] ds) (b:evl P dst (.mke fz sz c i.bytes) ds obs K):OpOut P o ρ w (APost φ h w dst K):=by
 match ds,hr,b with
 |[.int k n],hr,b =>
  obtain⟨h0,v,I,A⟩:=b;obtain⟨J,G,m,p,C,rfl⟩:=QK F;obtain rfl:=Option.some.inj (hi.symm.trans m);have hv:=hr.1.int_inv;have g:i.bytes*n.toNat<=281474976710656:=by
   have:((i.bytes*n.toNat:Nat):Int)<=281474976710656:=by
    rw[Int.natCast_mul,Int.toNat_of_nonneg h0,Int.mul_comm];exact v
   omega
  obtain⟨w',a,e,y⟩:=run_make_own (P:=P) w 0 t c i G sz E hi p hs f k n.toNat g (by unfold maxLen;omega) (Nat.zero_le _);rw[Int.toNat_of_nonneg h0] at a;refine .inl ⟨.slice (some ⟨w.heap.size,0,none⟩) 0 n.toNat,w',?_,_,_,if fz then Z0Y φ w.heap.size [] else φ,.slice (some ⟨w.heap.size,0,none⟩) 0 n.toNat,A,?_⟩
  ·simp[execOp,B,hv,r,a]
  ·exact AStep.arr (dst:=dst) (fz:=fz) (h:=h) (es:=[]) u (Z3d y) (Nat.le_refl _) hsz (λx hx=>by cases hx) e (λq x j d hx H=>by simp at hx)
theorem ZkK {s d e:TypeId} {x:Operand} (L:o.op=.convert s d x) (hs:P.underlying s=some (.slice e)) (J:P.underlying e=some (.int .u8)) (I:P.underlying d=some .string) (A:Sub φ w)
  (y: ∀ i ob,obs i=some ob->live (h i)=true-> ∃ own,ObR own φ h w (h i) ob) {ds:List D} (hr:RVL φ h [ρ x] ds) (l:evl P dst .b2s ds obs K):OpOut P o ρ w (APost φ h w dst K):=by
 match ds,hr,l with
 |[dd],hr,l =>
  simp only[evl] at l;split at l
  ·rename_i es f;obtain⟨F,V⟩:=l;have key: ∀ (a:Option Addr) (c:Nat),ρ x=.slice a es.length c->(a=none->es=[])->(∀ b,a=some b-> ∀ j (p:j<(QC es).length),w.cell? (b.add j)=some (.int .u8 ((QC es)[j].toNat:Int))) →
     (execOp ρ o).run P w=.ok (.value (.string ⟨(QC es).toArray⟩)) w:=by
    intro a c hx W hc;have m:es.length=(QC es).length:=by simp[QC]
    cases a with
    |none =>
     have h0:=W rfl;subst h0;have:(convert s d (.slice none 0 c)).run P w=.ok (.string ⟨(QC []).toArray⟩) w:=by
      rw[run_convert_bytes_string w s d e none 0 c hs J I];rfl
     simp only[List.length_nil] at hx;simp[execOp,L,hx,this]
    |some b =>
     rw[m] at hx
     have:=run_convert_bytes_back (P:=P) w s d e b c (QC es) hs J I (hc b rfl);simp[execOp,L,hx,this]
   have k: ∀ (j:Nat) (p:j<(QC es).length),es[j]? = some [.int .u8 ((QC es)[j].toNat:Int)]:=λj p=>by
    have h1:(byC (QC es))[j]? = some [.int .u8 ((QC es)[j].toNat:Int)]:=by
     unfold byC;rw[List.getElem?_map,List.getElem?_eq_getElem p];rfl
    rw[<- F] at h1;exact h1
   refine OpOut.same A ?_ V (Z4J _);cases dd with
   |slice q ext =>
    simp only[Z1Z,Option.some.injEq] at f;subst f;rcases hr.1.slice_inv.slice_inv with⟨⟨a,c,hx,T⟩,h0,_⟩|⟨b,off,cap,sz,vals,hx,hcap,hsz,hmem,hrep⟩
    ·refine key a c (by rw[h0];exact hx) (λ_=>h0) (λb _ j p=>?_);subst h0;simp[QC] at p
    ·refine key _ cap hx (λh=>by cases h) (λN r j p=>?_);cases r;have hc:=k j p;have h1:(q++ext)[j]? = some [.int .u8 ((QC q)[j].toNat:Int)]:=by
      rw[List.getElem?_append_left (List.getElem?_eq_some_iff.1 hc).1];exact hc
     have n:sz=1:=by have:=hsz _ (List.mem_of_getElem? h1);simpa using this.symm
     subst n;have h2:=hmem j _ 0 _ h1 rfl;have B:=RV.int_inv (RV.pure (h:=h) (hrep j _ 0 _ h1 rfl));rw[B] at h2;have Q:=A _ _ _ h2;rw[Addr.add_lit];simpa using Q
   |nils =>
    simp only[Z1Z,Option.some.injEq] at f;subst f;exact key none 0 hr.1.nils_inv (λ_=>rfl) (λb E=>by cases E)
   |vec id =>
    simp only[Z1Z] at f;split at f
    ·rename_i fz sz O q G;cases f;obtain⟨own,v⟩:=y id _ G hr.1.vec_live;obtain⟨M,m,xs,⟨X,z⟩,hrep,_⟩:=v;have hx:=hr.1.vec_inv;rcases z with⟨hv,h0⟩|⟨g,cap,u,hv,_,t,_,_,_,H⟩
     ·have C:es=[]:=List.eq_nil_of_length_eq_zero h0;refine key none 0 (by rw[hx,hv,h0]) (λ_=>C) (λb E=>by cases E)
     ·refine key _ cap (hx.trans hv) (λh=>by cases h) (λN r j p=>?_);cases r;have hc:=k j p;have U:=(List.getElem?_eq_some_iff.1 hc).1;have n:sz=1:=by have:=m _ (List.mem_of_getElem? hc);simpa using this.symm
      subst n;have h1:=hrep j _ 0 _ hc rfl;have B:=RV.int_inv (RV.pure (h:=h) h1);rw[Addr.add_lit,Nat.zero_add,cell_of_row w g j u O _ t];have R:xs[j]? = u[j]? :=by
       rw[<- H,List.getElem?_take,if_pos (by omega)];simp
      rw[<- R];have S:xs[j]? = some (xs.getD j Go.undef):=by
       simp[List.getD,show j<xs.length by omega]
      rw[S];simp only[Nat.mul_one,Nat.add_zero] at B;rw[B]
    ·cases f
   |_=>simp[Z1Z] at f
  ·exact l.elim
theorem RV.map_inv {i:Nat} {v:Value} (r:RV φ h v (.map i)):v=h i/\live (h i)=true:=by
 cases r with
 |pure r=>cases r
 |map _ hl=>exact⟨rfl,hl⟩
def kdT:Option IntKind->TypeDesc
 |some k=>.int k
 |none=>.string
theorem Z4g {kd:Option IntKind} {key:D} {b:Value} (a:isKD kd key=true) (hr:RV φ h b key):MapKept.IsKey (kdT kd) b:=by
 unfold isKD at a;split at a
 ·rw[hr.int_inv];have c:=of_decide_eq_true a;exact c
 ·rw[hr.str_inv];exact trivial
 ·cases a
theorem Z6B {kd:Option IntKind} {key k:D} {e:Value} {r:Bool} (d:isKD kd key=true) (hr:RV φ h e key) (c:keqD key k=some r):Instr.sameNow (kdT kd) e (keyV k)=some r:=by
 unfold isKD at d;split at d
 ·rw[hr.int_inv];unfold keqD at c;split at c
  ·rename_i h1;cases h1;simp only[keyV,kdT,Instr.sameNow];split at c
   ·rename_i f;rw[if_pos f,Z2y];exact c
   ·cases c
  ·rename_i h1;cases h1
  ·cases c
 ·rw[hr.str_inv];unfold keqD at c;split at c
  ·rename_i h1;cases h1
  ·rename_i a b h1;cases h1;simp only[keyV,kdT,Instr.sameNow];rw[<- c];congr 1;exact Bool.eq_iff_iff.2 (by rw[MapKept.bytes_beq];simp[ByteArray.mk.injEq])
  ·cases c
 ·cases d
theorem Z4j {kd:Option IntKind} {key:D} {l:Value} (m:isKD kd key=true) (hr:RV φ h l key): ∀ (es:List MapEntry) (ks ds:List D) (i:Nat) (r:Option D),es.map MapEntry.key=ks.map keyV->RVL φ h (es.map MapEntry.val) ds->Z2r key ks ds=some r →
  (r=none/\Instr.findNow (kdT kd) l es i=some none)\/ ∃ d j v,r=some d/\Instr.findNow (kdT kd) l es i=some (some (j,v))/\RV φ h v d
 |[],[],[],i,r,_,_,hf=>.inl ⟨by cases hf;rfl,rfl⟩
 |[],[],_::_,i,r,_,a,_=>a.elim
 |[],_::_,_,i,r,h1,_,_=>by cases h1
 |_::_,[],_,i,r,h1,_,_=>by cases h1
 |_::_,_::_,[],i,r,_,a,_=>a.elim
 |e::es,k::ks,d::ds,i,r,h1,a,hf=>by
  simp only[List.map_cons,List.cons.injEq] at h1;simp only[Z2r] at hf;cases g:keqD key k with
  |none=>rw[g] at hf;cases hf
  |some b =>
   rw[g] at hf;have hs:=Z6B (k:=k) m hr g;rw[<- h1.1] at hs;cases b with
   |true =>
    simp only[Option.some.injEq] at hf;exact .inr ⟨d,i,e.val,hf.symm,by simp only[Instr.findNow,hs],a.1⟩
   |false =>
    rcases Z4j m hr es ks ds (i+1) r h1.2 a.2 hf with⟨c,f⟩|⟨n,j,v,c,f,p⟩
    ·exact .inl ⟨c,by simp only[Instr.findNow,hs];exact f⟩
    ·exact .inr ⟨n,j,v,c,by simp only[Instr.findNow,hs];exact f,p⟩
theorem Z8K {t:TypeId} (f:o.op=.makeMap t none) (a:Sub φ w) (b:evl P dst .mkmap [] obs K):OpOut P o ρ w (APost φ h w dst K):=by
 refine .inl ⟨.map (some w.heap.size),w.alloc (.map #[] 0),?_,_,_,φ,.map (some w.heap.size),b,(Below.refl _ w).alloc (Nat.le_refl _) _,λ_ _ _ h=>h,a.alloc _,λ_ _ _ h h'=>(by rw[h] at h';cases h'),?_,λob e=>?_⟩
 ·simp[execOp,f,run_makeMap]
 ·have:=Zw h dst (.map (some w.heap.size));simp only[hx];have c:RV φ (updH h dst (.map (some w.heap.size))) (updH h dst (.map (some w.heap.size)) dst) (.map dst):=.map dst (by rw[this];rfl);rw[this] at c;exact c
 ·cases e;refine⟨w.heap.size,[],.map #[] 0,rfl,Nat.le_refl _,heap_alloc_new w _,⟨⟨_,rfl⟩,#[],0,rfl,rfl,rfl,by simp,by simp⟩,rfl,by simp,λoff=>?_⟩;cases d:φ w.heap.size off with
  |none=>rfl
  |some v=>exact absurd (a.lt d) (by omega)
def ZdH:Value->D
 |.agg ⟨[]⟩=>.agg []
 |v=>Qo v
theorem Z8M (φ:Mem) (h:Nat->Value) (v:Value):RV φ h v (ZdH v):=by
 unfold ZdH;split
 ·exact .agg _ _ rfl λj d a=>by simp at a
 ·exact Z1F φ h v
def Z7l (P:Program) (t:TypeId):Option D:=match P.info? t with
 |some i=>match i.zero with
  |some z=>some (ZdH z)
  |none=>none
 |none=>none
def keyK (P:Program) (t:TypeId):Option (Option IntKind):=match P.underlying t with
 |some (.int k)=>some (some k)
 |some .string=>some none
 |_=>none
theorem Z5L {t:TypeId} {kd:Option IntKind} (a:keyK P t=some kd):P.underlying t=some (kdT kd):=by
 unfold keyK at a;split at a
 ·rename_i b;cases a;exact b
 ·rename_i b;cases a;exact b
 ·cases a
theorem Zbs {t:TypeId} (f:o.op=.makeMap t none) (a:Sub φ w) (b:evl P dst .mkmapC [] obs K):OpOut P o ρ w (APost φ h w dst K):=by
 refine .inl ⟨.map (some w.heap.size),w.alloc (.map #[] 0),?_,_,_,φ,.map (some w.heap.size),b,(Below.refl _ w).alloc (Nat.le_refl _) _,λ_ _ _ h=>h,a.alloc _,λ_ _ _ h h'=>(by rw[h] at h';cases h'),?_,λob e=>?_⟩
 ·simp[execOp,f,run_makeMap]
 ·have:=Zw h dst (.map (some w.heap.size));simp only[hx];have c:RV φ (updH h dst (.map (some w.heap.size))) (updH h dst (.map (some w.heap.size)) dst) (.map dst):=.map dst (by rw[this];rfl);rw[this] at c;exact c
 ·cases e;refine⟨w.heap.size,[],.map #[] 0,rfl,Nat.le_refl _,heap_alloc_new w _,⟨rfl,rfl,⟨_,rfl⟩,#[],0,rfl,rfl,rfl,by simp,by simp⟩,rfl,by simp,λoff=>?_⟩;cases d:φ w.heap.size off with
  |none=>rfl
  |some v=>exact absurd (a.lt d) (by omega)
theorem Zd4 {d:D} (a:Z1l d=true):RV φ h (valV d) d:=by
 unfold Z1l at a;split at a
 ·exact Z06 _ _
 ·exact Z4J _
 ·exact Qu _
 ·exact .agg _ _ rfl (λj d b=>by simp at b)
 ·cases a
theorem Z8N {d:D} {v:Value} (a:Z1l d=true) (hr:RV φ h v d):v=valV d:=by
 unfold Z1l at a;split at a
 ·exact hr.int_inv
 ·exact hr.str_inv
 ·exact hr.bool_inv
 ·obtain⟨vs,rfl,hs,_⟩:=hr.agg_inv;have:vs=#[]:=Array.eq_empty_of_size_eq_zero (by simpa using hs);subst this;rfl
 ·cases a
theorem Z8s {own:Nat->Prop} {hv:Value} {ks cs:List D} (i:ObR own φ h w hv (.gen (.mapC ks cs) [])):ObR own φ h w hv (.gen (.map ks) cs):=by
 obtain⟨b,vals,r,f,g,a,⟨rfl,e,p,es,clock,rfl,h1,h2,m,n⟩,l,q,c⟩:=i;refine⟨b,cs.map valV,_,f,g,a,⟨p,es,clock,rfl,h1,h2,m,n⟩,by simp,λj d k=>?_,c⟩;have:(cs.map valV).getD j Go.undef=valV d:=by simp[List.getD,k]
 rw[this];exact Zd4 (List.all_eq_true.1 e d (List.mem_of_getElem? k))
theorem Zl0 {own:Nat->Prop} {hv:Value} {ks cs:List D} (a:cs.all Z1l=true) (k:ObR own φ h w hv (.gen (.map ks) cs)):ObR own φ h w hv (.gen (.mapC ks cs) []):=by
 obtain⟨b,vals,u,f,g,c,⟨q,es,clock,rfl,h1,h2,n,p⟩,m,l,e⟩:=k;refine⟨b,[],_,f,g,c,⟨rfl,a,q,es,clock,rfl,h1,?_,n,p⟩,rfl,λj d r=>by simp at r,e⟩;rw[h2];refine List.ext_getElem? λj=>?_;rw[List.getElem?_map];cases i:cs[j]? with
 |none =>
  have:=List.getElem?_eq_none_iff.1 i;rw[List.getElem?_eq_none (by omega)];rfl
 |some d =>
  have t:=(List.getElem?_eq_some_iff.1 i).1;have hr:=l j d i;rw[List.getD_eq_getElem?_getD,List.getElem?_eq_getElem (by omega)] at hr;rw[List.getElem?_eq_getElem (by omega)];exact congrArg some (Z8N (List.all_eq_true.1 a d (List.mem_of_getElem? i)) hr)
theorem Z3Z (a: ∀ i ob,obs i=some ob->live (h i)=true-> ∃ own,ObR own φ h w (h i) ob) {id:Nat} {ob:Ob} (b:unpk (obs id)=some ob) (hl:live (h id)=true): ∃ own,ObR own φ h w (h id) ob:=by
 unfold unpk at b;split at b
 ·rename_i ks cs d;cases b;obtain⟨own,c⟩:=a id _ d hl;exact⟨own,Z8s c⟩
 ·exact a id _ b hl
theorem ZeG {t kt L:TypeId} {m k:Operand} {kd:Option IntKind} {z:D} (M:o.op=.lookup t m k false) (N:P.underlying t=some (.map kt L)) (B:keyK P kt=some kd) (p:Z7l P L=some z) (y:Sub φ w)
  (x: ∀ i ob,obs i=some ob->live (h i)=true-> ∃ own,ObR own φ h w (h i) ob) {ds:List D} (hr:RVL φ h [ρ m,ρ k] ds) (a:evl P dst (.mlook kd z) ds obs K):OpOut P o ρ w (APost φ h w dst K):=by
 match ds,hr,a with
 |[.map id,key],hr,a =>
  simp only[evl] at a;obtain⟨hv,hl⟩:=hr.1.map_inv;cases E:obs id with
  |none=>rw[E] at a;exact a.elim
  |some ob =>
  rw[E] at a;cases ob with
  |cells=>exact a.elim
  |arr=>exact a.elim
  |gen g l =>
  cases g with
  |loop=>exact a.elim
  |mapC=>exact a.elim
  |mapB=>exact a.elim
  |mapS=>exact a.elim
  |iter=>exact a.elim
  |map ks =>
  obtain⟨q,a⟩:=a;obtain⟨own,C⟩:=x id _ E hl;obtain⟨b,vals,S,f,_,c,⟨⟨R,n⟩,es,clock,rfl,h1,h2,_,_⟩,u,G,_⟩:=C;rw[n] at f;cases f;cases hm:Z2r key ks l with
  |none=>rw[hm] at a;exact a.elim
  |some r =>
  rw[hm] at a;have F:RVL φ h (es.toList.map MapEntry.val) l:=ZB _ _ (by rw[h2,u]) (λj d Q=>by rw[h2];exact G j d Q);have H:=Z5L B;have A:=Z4g q hr.2.1;have hc:=λe=>MapKept.run_checkKey (w:=w) H A e 9999;rcases Z4j q hr.2.1 es.toList ks l 0 r h1 F hm with⟨rfl,hf⟩|⟨d,j,v,rfl,hf,I⟩
  ·unfold Z7l at p;split at p
   ·rename_i i hi;split at p
    ·rename_i O J;cases p;refine OpOut.same y (v:=O) ?_ a (Z8M φ h O);simp[execOp,M,hv,n,Instr.lookup,run_underlying N,MapKept.run_getObj_map c,hc,MapKept.run_findKey H hf,zeroValue,typeInfo,hi,J,Result.andThen]
    ·cases p
   ·cases p
  ·refine OpOut.same y (v:=v) ?_ a I;simp[execOp,M,hv,n,Instr.lookup,run_underlying N,MapKept.run_getObj_map c,hc,MapKept.run_findKey H hf,Result.andThen]
theorem Z4I {k:Ext} {ds:List D} (e:Sub φ w) (f: ∀ d,extD k ds obs=some d-> ∃ v,(execOp ρ o).run P w=.ok (.value v) w/\RV φ h v d) (b:evl P dst (.ext k) ds obs K):OpOut P o ρ w (APost φ h w dst K):=by
 have a:match extD k ds obs with
  |some d=>K d none
  |none=>False:=by
  unfold evl at b;exact b
 cases c:extD k ds obs with
 |none=>rw[c] at a;exact a.elim
 |some d =>
  rw[c] at a;obtain⟨v,h1,h2⟩:=f d c;exact OpOut.same e h1 a h2
theorem Zc3 {t kt u:TypeId} {x:Operand} (p:o.op=.call {callee:=.builtin .len,args:=#[x],argTypes:=#[t]}) (q:P.underlying t=some (.map kt u))
  (f: ∀ i ob,obs i=some ob->live (h i)=true-> ∃ own,ObR own φ h w (h i) ob) {ds:List D} (hr:RVL φ h [ρ x] ds) {d:D} (g:extD .lenm ds obs=some d): ∃ v,(execOp ρ o).run P w=.ok (.value v) w/\RV φ h v d:=by
 match ds,hr,g with
 |[.map id],hr,g =>
  obtain⟨hv,hl⟩:=hr.1.map_inv;simp only[extD] at g;split at g
  ·rename_i ks k m;cases g;obtain⟨own,b,vals,A,a,_,c,⟨⟨r,e⟩,es,clock,rfl,h1,h2,_,_⟩,j,n,_⟩:=Z3Z f m hl;rw[e] at a;cases a;have l:es.size=ks.length:=by
    have:=congrArg List.length h1;simpa using this
   refine⟨.int .i64 es.size,QB p ?_,by rw[l];exact Z06 _ _⟩;simp[builtin,hv,e,Builtin.len_,run_underlying q,MapKept.run_getObj_map c,Result.andThen,goInt]
  ·rename_i ks z k m;cases g;obtain⟨own,b,vals,A,a,_,c,⟨y,hp,_,_,⟨r,e⟩,es,clock,rfl,h1,h2,_,_⟩,j,n,_⟩:=Z3Z f m hl;rw[e] at a;cases a;have l:es.size=ks.length:=by
    have:=congrArg List.length h1;rw[<- hp.length_eq];simpa using this
   refine⟨.int .i64 es.size,QB p ?_,by rw[l];exact Z06 _ _⟩;simp[builtin,hv,e,Builtin.len_,run_underlying q,MapKept.run_getObj_map c,Result.andThen,goInt]
  ·cases g
theorem ZhW {k:D} (a:kOK k=true):RV φ h (keyV k) k:=by
 cases k<;>first|(exact Z06 _ _)|(exact Z4J _)|cases a
theorem Z9S {x:Operand} (ho:o.op=.entry x)
  (q: ∀ i ob,obs i=some ob->live (h i)=true-> ∃ own,ObR own φ h w (h i) ob) {ds:List D} (hr:RVL φ h [ρ x] ds) {d:D} (c:extD .entry ds obs=some d): ∃ v,(execOp ρ o).run P w=.ok (.value v) w/\RV φ h v d:=by
 match ds,hr,c with
 |[.ptr id 0],hr,c =>
  simp only[extD] at c;split at c
  ·rename_i bs ix cl H hq;split at c
   ·rename_i ks gds g z O;split at c
    ·rename_i hc;obtain⟨rfl,rfl⟩:=hc;split at c
     ·rename_i i hi;split at c
      ·rename_i k dd U B;split at c
       ·rename_i I;cases c;obtain⟨Y,hh,hx⟩:=hr.1.ptr_inv;obtain⟨own,b,vals,oo,p,_,f,⟨⟨b',hb'⟩,S,rfl,rfl,hix⟩,V,Q,_⟩:=q id _ hq (by rw[hh];rfl);rw[hh] at p;cases p;obtain⟨M,L⟩:=(Q 0 _ rfl).map_inv;have F:h H=.map (some S):=by simpa using M.symm
        obtain⟨X,b2,R,oo2,e,_,m,⟨rfl,r,_,es,rfl,h1,h2,T,N,hlt⟩,J,W,_⟩:=q H _ O L;rw[F] at e;cases e;have hlk:es.size=ks.length:=by
         have:=congrArg List.length h1;simpa using this
        have u:i<es.size:=by
         have:=(List.getElem?_eq_some_iff.1 U).1;omega
        have E:keyV k=es[i].key:=by
         have:=congrArg (λl=>l[i]?) h1;simp only[List.getElem?_map,U,Option.map_some] at this;have A:es.toList[i]? = some es[i]:=by simp[u]
         rw[A] at this;simpa using this.symm
        have G:valV dd=es[i].val:=by
         have:=congrArg (λl=>l[i]?) h2;simp only[List.getElem?_map,B,Option.map_some] at this;have A:es.toList[i]? = some es[i]:=by simp[u]
         rw[A] at this;simpa using this.symm
        have t:g.getD i 0=es[i].born:=by
         rw[<- T];have A:es.toList[i]? = some es[i]:=by simp[u]
         simp[List.getD,A]
        obtain⟨n,rfl⟩: ∃ n,ix=n++[i]:=by
         rcases List.eq_nil_or_concat ix with h0|⟨l,a,h0⟩
         ·subst h0;cases hi
         ·rw[List.concat_eq_append] at h0;subst h0;simp at hi;exact⟨l,by rw[hi]⟩
        have y:((n++[i]).map λi=>g.getD i 0).toArray=((n.map λi=>g.getD i 0).toArray).push es[i].born:=by
         rw[List.map_append,<- t];simp
        rw[y] at f;refine⟨.tuple #[es[i].key,es[i].val],?_,.tuple _ _ rfl λj d' C=>?_⟩
        ·have:=run_entry_at (P:=P) w Y S z _ es z es[i] f m (by simp) (by rw[show (es.toList.map λx=>x.born)=g from T];exact N);simp[execOp,ho,hx,this]
        ·match j,C with
         |0,C=>cases C;rw[<- E];exact ZhW I
         |1,C=>cases C;rw[<- G];exact Zd4 (List.all_eq_true.1 r _ (List.mem_of_getElem? B))
       ·cases c
      ·cases c
     ·cases c
    ·cases c
   ·cases c
  ·cases c
theorem Z9R {t kt H:TypeId} {m k:Operand} {kd:Option IntKind} {z:D} (I:o.op=.lookup t m k true) (J:P.underlying t=some (.map kt H)) (A:keyK P kt=some kd) (n:Z7l P H=some z)
  (x: ∀ i ob,obs i=some ob->live (h i)=true-> ∃ own,ObR own φ h w (h i) ob) {ds:List D} (hr:RVL φ h [ρ m,ρ k] ds) {d:D} (f:extD (.look2 kd z) ds obs=some d): ∃ v,(execOp ρ o).run P w=.ok (.value v) w/\RV φ h v d:=by
 match ds,hr,f with
 |[.map id,key],hr,f =>
  obtain⟨hv,hl⟩:=hr.1.map_inv;simp only[extD] at f;split at f
  ·rename_i ks p O;split at f
   ·rename_i q;split at f
    ·rename_i r hm;cases f;obtain⟨own,b,vals,R,g,_,a,⟨⟨Q,l⟩,es,clock,rfl,h1,h2,_,_⟩,u,C,_⟩:=Z3Z x O hl;rw[l] at g;cases g;have B:RVL φ h (es.toList.map MapEntry.val) p:=ZB _ _ (by rw[h2,u]) (λj d N=>by rw[h2];exact C j d N);have E:=Z5L A;have y:=Z4g q hr.2.1;have hc:=λe=>MapKept.run_checkKey (w:=w) E y e 9999;rcases Z4j q hr.2.1 es.toList ks p 0 r h1 B hm with⟨rfl,hf⟩|⟨d,j,v,rfl,hf,F⟩
     ·unfold Z7l at n;split at n
      ·rename_i i hi;split at n
       ·rename_i L G;cases n;refine⟨.tuple #[L,.bool false],?_,.tuple _ _ rfl λj M c=>?_⟩
        ·simp[execOp,I,hv,l,Instr.lookup,run_underlying J,MapKept.run_getObj_map a,hc,MapKept.run_findKey E hf,zeroValue,typeInfo,hi,G,Result.andThen]
        ·match j,c with
         |0,c=>cases c;exact Z8M φ h L
         |1,c=>cases c;exact Qu _
       ·cases n
      ·cases n
     ·refine⟨.tuple #[v,.bool true],?_,.tuple _ _ rfl λj M c=>?_⟩
      ·simp[execOp,I,hv,l,Instr.lookup,run_underlying J,MapKept.run_getObj_map a,hc,MapKept.run_findKey E hf,Result.andThen]
      ·match j,c with
       |0,c=>cases c;exact F
       |1,c=>cases c;exact Qu _
    ·cases f
   ·cases f
  ·cases f
theorem Zbd {hh:Nat->Value} {d:D} {v u:Value} (h:valA d=some v) (hr:RV φ hh u d):u=v:=by
 unfold valA at h;split at h
 ·rename_i cs;split at h
  ·rename_i a;cases h;obtain⟨vs,rfl,hs,hc⟩:=hr.agg_inv;congr 1;refine Array.ext (by simpa using hs) λi h1 h2=>?_;have hi:i<cs.length:=by simpa using h2
   have b:cs[i]? = some cs[i]:=List.getElem?_eq_getElem hi;have hv:=Z8N (List.all_eq_true.1 a _ (List.getElem_mem hi)) (hc i _ b);rw[Array.getD_eq_getD_getElem?,Array.getElem?_eq_getElem h1,Option.getD_some] at hv;rw[hv];simp
  ·cases h
 ·split at h
  ·rename_i c;cases h;exact Z8N c hr
  ·cases h
theorem Z8O {hh:Nat->Value} (v:Value):RV φ hh v (datC v):=by
 unfold datC;split
 ·exact Qu _
 ·exact Z06 _ _
 ·exact Z4J _
 ·exact .undef _
theorem Z8P {hh:Nat->Value} (v:Value):RV φ hh v (datA v):=by
 unfold datA;split
 ·rename_i vs;refine .agg _ _ (by simp) λj d a=>?_;rw[List.getElem?_map] at a;cases b:vs.toList[j]? with
  |none=>rw[b] at a;cases a
  |some u =>
   rw[b] at a;cases a;have:vs.getD j Go.undef=u:=by
    rw[Array.getD_eq_getD_getElem?];rw[Array.getElem?_toList] at b;rw[b];rfl
   rw[this];exact Z8O u
 ·exact Z8O v
theorem Zc2 {t:TypeId} {x:Operand} (b:o.op=.makeInterface t x) (c: ∃ u,P.underlying t=some u/\ ∀ e,u≠ .interface e) {ds:List D} (hr:RVL φ h [ρ x] ds) {d:D} (a:extD (.mkif t) ds obs=some d): ∃ v,(execOp ρ o).run P w=.ok (.value v) w/\RV φ h v d:=by
 match ds,hr,a with
 |[f],hr,a =>
  simp only[extD] at a;split at a
  ·rename_i v hv;cases a;obtain⟨u,h1,h2⟩:=c;have hx:=Zbd hv hr.1;refine⟨.iface t v,?_,.pure (.raw _ rfl)⟩;simp only[execOp,b,Instr.makeInterface,hx,Sem.run_bind,run_underlying h1,Result.andThen_ok];cases u<;>first|exact absurd rfl (h2 _)|rfl
  ·cases a
theorem Zg3 {t:TypeId} {x:Operand} {sz:Nat} (r:o.op=.load t x) (ha:aggB P t=some true) (hs:szT P t=some sz) {own:Nat->Prop}
  (m: ∀ i ob,obs i=some ob->live (h i)=true->ObR own φ h w (h i) ob) {ds:List D} (hr:RVL φ h [ρ x] ds) {d:D} (a:extD (.ldn sz) ds obs=some d): ∃ v,(execOp ρ o).run P w=.ok (.value v) w/\RV φ h v d:=by
 match ds,hr,a with
 |[.ptr id off],hr,a =>
  obtain⟨b,hh,hx⟩:=hr.1.ptr_inv;simp only[extD] at a;split at a
  ·rename_i cs n;obtain⟨y,vals,e,k,_,f,g,p,_⟩:=m id _ n (by rw[hh];rfl);rw[hh] at k;cases k;have c: ∀ j,j<cs.length->w.cell? ⟨b,j,none⟩=some (vals.getD j Go.undef):=λj q=>by
    rw[cell_of_row w b j vals e _ f];simp[Array.getD_eq_getD_getElem?,g,q]
   split at a
   ·rename_i u;cases a;simp only[Bool.and_eq_true,decide_eq_true_eq] at u;refine⟨_,Z00 r hx ha hs (λj=>vals.getD (off+j) Go.undef) (λj q=>c _ (by omega)),Z4K (by simp;omega) ?_⟩;intro j d l;rw[List.getElem?_take] at l;split at l
    ·rw[List.getElem?_drop] at l;exact p _ _ l
    ·cases l
   ·cases a
  ·cases a
def ZdG (P:Program) (t:TypeId):Option D:=match P.info? t with
 |some i=>match i.zero with
  |some z=>some (datA z)
  |none=>none
 |none=>none
theorem Zg2 {t xt:TypeId} {x:Operand} {z:D} (l:o.op=.typeAssert x xt t true) (q: ∃ u,P.underlying t=some u/\ ∀ r,u≠ .interface r) (g:ZdG P t=some z) {ds:List D} (hr:RVL φ h [ρ x] ds) {d:D} (b:extD (.tas t z) ds obs=some d): ∃ v,(execOp ρ o).run P w=.ok (.value v) w/\RV φ h v d:=by
 match ds,hr,b with
 |[.raw v],hr,b =>
  simp only[extD] at b;obtain⟨u,h1,h2⟩:=q;have hx:ρ x=v:=hr.1.raw_inv;have f: ∃ c,(zeroValue t).run P w=.ok c w/\z=datA c:=by
   unfold ZdG at g;split at g
   ·rename_i i hi;split at g
    ·rename_i c m;cases g;exact⟨c,by simp[zeroValue,typeInfo,hi,m,Result.andThen],rfl⟩
    ·cases g
   ·cases g
  obtain⟨c,k,rfl⟩:=f;have hf:RV φ h (.tuple #[c,.bool false]) (.tuple [datA c,.bool false]):=.tuple _ _ rfl λj p a=>by
   match j,a with
   |0,a=>cases a;exact Z8P c
   |1,a=>cases a;exact Qu _
  split at b
  ·cases b;refine⟨_,?_,hf⟩;simp only[execOp,l,Instr.typeAssert,hx,Sem.run_bind,run_underlying h1,Result.andThen_ok];cases u<;>first|exact absurd rfl (h2 _)|simp[k,Result.andThen]
  ·rename_i y n;split at b
   ·rename_i e;cases b;refine⟨.tuple #[n,.bool true],?_,.tuple _ _ rfl λj p a=>?_⟩
    ·simp only[execOp,l,Instr.typeAssert,hx,Sem.run_bind,run_underlying h1,Result.andThen_ok];cases u<;>first|exact absurd rfl (h2 _)|simp[e,Result.andThen]
    ·match j,a with
     |0,a=>cases a;exact Z8P n
     |1,a=>cases a;exact Qu _
   ·rename_i e;cases b;refine⟨_,?_,hf⟩;simp only[execOp,l,Instr.typeAssert,hx,Sem.run_bind,run_underlying h1,Result.andThen_ok];cases u<;>first|exact absurd rfl (h2 _)|simp[e,k,Result.andThen]
  ·cases b
theorem Z9V {t:TypeId} (f:kdOf P t=some 3) {a:Addr} {n c:Nat} {y:Value} (i:y=.slice none 0 0):(Op.equal t (.slice (some a) n c) y).run P w=.ok false w:=by
 have d: ∀ b:Nat,(Op.equalIn (b+1) t (.slice (some a) n c) y).run P w=.ok false w:=λb=>by
  obtain⟨e,g⟩:=Z9A f;rw[i];simp[Op.equalIn,run_underlying g]
 exact d 9999
theorem Z6Z {op:BinOp} {neg:Bool} (j:op=(if neg=true then .neq else .eql)) {t G:TypeId} {x y:Operand} (A:o.op=.binOp op t x y G) (B:kdOf P t=some 3) (hc:cst x ||cst y)
  (l: ∀ i ob,obs i=some ob->live (h i)=true-> ∃ own,ObR own φ h w (h i) ob) {ds:List D} (hr:RVL φ h [ρ x,ρ y] ds) {d:D} (k:extD (.eqs3 neg) ds obs=some d): ∃ v,(execOp ρ o).run P w=.ok (.value v) w/\RV φ h v d:=by
 match ds,hr,k with
 |[a,b],hr,k =>
  simp only[extD] at k;have key: ∀ r:Bool,(∃ q n c,ρ x=.slice q n c)->(Op.equal t (ρ x) (ρ y)).run P w=.ok r w->d=.bool (ngB neg r)-> ∃ v,(execOp ρ o).run P w=.ok (.value v) w/\RV φ h v d:=λr ⟨q,n,c,hx⟩ heq E=>by
   rw[E];have z:(eqGuard op t x y (ρ x) (ρ y)).run P w=.ok () w:=Z2Z hc (by rw[hx];simp);refine⟨_,?_,Qu _⟩;cases neg with
   |true =>
    simp only[if_true] at j;subst j;have p:(binOp .neq t (ρ x) (ρ y)).run P w=.ok (.bool (!r)) w:=by rw[hx] at heq ⊢;simp[binOp,heq]
    simp[execOp,A,z,p,ngB]
   |false =>
    simp only[Bool.false_eq_true,if_false] at j;subst j;have p:(binOp .eql t (ρ x) (ρ y)).run P w=.ok (.bool r) w:=by rw[hx] at heq ⊢;simp[binOp,heq]
    simp[execOp,A,z,p,ngB]
  split at k
  ·rename_i r f;cases k;split at f
   ·rename_i id;split at f
    ·rename_i fz sz e q es F;split at f
     ·cases f;have hv:=hr.1.vec_inv;have hl:live (h id)=true:=by
       have h0:=hr.1;generalize ρ x=I at h0;cases h0 with
       |pure r=>cases r
       |vec _ hl=>exact hl
      obtain⟨own,_,_,xs,m,_⟩:=l id _ F hl;rcases m.2 with⟨_,h0⟩|⟨g,cap,C,u,_⟩
      ·cases h0
      ·have hx:ρ x=.slice (some ⟨g,0,none⟩) (q::es).length cap:=hv.trans u;exact key false ⟨_,_,_,hx⟩ (by rw[hx];exact Z9V B hr.2.1.nils_inv) rfl
     ·cases f
    ·cases f
   ·rename_i H _;have heq:=Z51 (P:=P) (w:=w) B f hr.1 hr.2.1;refine key r ?_ heq rfl;unfold eqD at f;split at f<;>try (simp at *;done)
    ·rcases hr.1.slice_inv.slice_inv with⟨⟨a,c,h,_⟩,_⟩|⟨b,off,cap,sz,vals,h,_⟩
     ·exact⟨_,_,_,h⟩
     ·exact⟨_,_,_,h⟩
    ·exact⟨_,_,_,hr.1.nils_inv⟩
  ·cases k
end
end Go.Sx
namespace Go.Sx
open Go.RowKit
variable [Globs] [Codes]
def St.clean (i:Nat) (s:St):Bool:=s.tm.all (λp=>!(D.men i p.2)) && s.ob.all λp=>!(Ob.men i p.2)
theorem St.clean_tm {i:Nat} {s:St} (h:s.clean i=true) {t:Nat} {d:D} (hl:lk s.tm t=some d):D.men i d=false:=by
 simp only[St.clean,Bool.and_eq_true] at h;have h1:=h.1;clear h;generalize s.tm=l at *
 induction l with
 |nil=>simp[lk] at hl
 |cons p l b =>
  obtain⟨j,a⟩:=p;simp only[List.all_cons,Bool.and_eq_true,Bool.not_eq_true'] at h1;simp only[lk] at hl;split at hl
  ·cases hl;exact h1.1
  ·exact b hl h1.2
theorem St.clean_ob {i:Nat} {s:St} (h:s.clean i=true) {t:Nat} {d:Ob} (hl:lk s.ob t=some d):Ob.men i d=false:=by
 simp only[St.clean,Bool.and_eq_true] at h;have h1:=h.2;clear h;generalize s.ob=l at *
 induction l with
 |nil=>simp[lk] at hl
 |cons p l b =>
  obtain⟨j,a⟩:=p;simp only[List.all_cons,Bool.and_eq_true,Bool.not_eq_true'] at h1;simp only[lk] at hl;split at hl
  ·cases hl;exact h1.1
  ·exact b hl h1.2
section
variable {cx:Cx} {s:St} {φ φ':Mem} {h:Nat->Value} {tmps:Array Value} {w w':World}
theorem ObR.blk_lt {own:Nat->Prop} {hv:Value} {o:Ob} (a:ObR own φ h w hv o) {b:Nat} (c:blk hv=some b):b<w.heap.size/\own b:=by
 cases o with
 |cells cs =>
  obtain⟨k,vals,e,rfl,j,hh,_⟩:=a;cases c;exact⟨(Array.getElem?_eq_some_iff.1 hh).1,j⟩
 |gen g ds =>
  obtain⟨k,vals,o,d,j,hh,_⟩:=a;rw[c] at d;cases d;exact⟨(Array.getElem?_eq_some_iff.1 hh).1,j⟩
 |arr fz sz e es =>
  obtain⟨_,_,xs,i,_,f⟩:=a;refine⟨?_,(f b c).1⟩;rcases i.2 with⟨rfl,_⟩|⟨g,cap,l,rfl,_,m,_⟩
  ·cases c
  ·cases c;exact (Array.getElem?_eq_some_iff.1 m).1
theorem ObR.keep {own f:Nat->Prop} (a: ∀ b,own b->f b) {h h':Nat->Value} {hv:Value} {o:Ob} (m:ObR own φ h w hv o) (B: ∀ b,blk hv=some b->w'.heap[b]? = w.heap[b]?)
  (l: ∀ b off u,φ b off=some u->φ' b off=some u) (p: ∀ b,blk hv=some b-> ∀ off,φ' b off=φ b off) (r: ∀ v d,d∈o.parts->RV φ h v d->RV φ' h' v d):ObR f φ' h' w' hv o:=by
 cases o with
 |cells cs =>
  obtain⟨b,vals,e,rfl,A,hh,hs,hc,z⟩:=m;exact⟨b,vals,e,rfl,a b A,by rw[B b rfl];exact hh,hs,λj d q=>r _ _ (List.mem_of_getElem? q) (hc j d q),λoff=>by rw[p b rfl];exact z off⟩
 |gen g ds =>
  obtain⟨b,vals,o,k,A,hh,C,hs,hc,z⟩:=m;exact⟨b,vals,o,k,a b A,by rw[B b k];exact hh,C,hs,λj d q=>r _ _ (List.mem_of_getElem? q) (hc j d q),λoff=>by rw[p b k];exact z off⟩
 |arr fz sz e es =>
  obtain⟨h1,h2,xs,⟨hx,n⟩,hrep,c⟩:=m;refine⟨h1,h2,xs,⟨hx,?_⟩,λi x j d hi E=>(hrep i x j d hi E).mono l,λb y=>⟨a b (c b y).1,λoff=>by rw[p b y];exact (c b y).2 off⟩⟩;rcases n with n|⟨g,cap,t,rfl,r1,r2,r3⟩
  ·exact .inl n
  ·exact .inr ⟨g,cap,t,rfl,r1,by rw[B g rfl];exact r2,r3⟩
def hxx (h:Nat->Value) (dst:Nat) (hv:Value) (nb:Option Ob):Nat->Value:=hx h dst hv nb
def St.add (s:St) (dst id:Nat) (d:D) (nb:Option Ob):St :=
 {tm:=(dst,d)::s.tm,ob:=match nb with|none=>s.ob|some o=>(id,o)::s.ob}
theorem Z4b {φ':Mem} (a: ∀ b o u,φ b o=some u->φ' b o=some u) (c: ∀ b o u,φ' b o=some u->φ b o=none->w.heap.size<=b) {b:Nat} (f:b<w.heap.size) (off:Nat):φ' b off=φ b off:=by
 cases e:φ b off with
 |some u=>exact a b off u e
 |none =>
  cases d:φ' b off with
  |none=>rfl
  |some u=>exact absurd (c b off u d e) (by omega)
theorem Mod.astep (hm:Mod cx s φ h tmps w) {dst id:Nat} {d:D} {nb:Option Ob} {v hv:Value} (hs:AStep φ h w id d nb v φ' hv w') (N:dst<cx.N) (hid:cx.bs<=id) (G:nb≠none-> ∀ t d,lk s.tm t=some d->D.men id d=false) (F:nb≠none-> ∀ t o,lk s.ob t=some o->Ob.men id o=false) (E:nb≠none->hv.oneCell'=true) :
  Mod cx (s.add dst id d nb) φ' (hx h id hv nb) (tmps.setIfInBounds dst v) w':=by
 have l:=λ{b} a off=>Z4b (b:=b) hs.mono hs.new a off;have C: ∀ t e,lk s.tm t=some e->RV φ' (hx h id hv nb) (tmps.getD t Go.undef) e:=λt e m=>by
  have:=(hm.tm t e m).mono hs.mono;cases nb with
  |none=>exact this
  |some o=>exact this.upd id hv (G (by simp) _ _ m)
 refine⟨by simp[hm.size],?_,hs.mem,λb o v a=>hs.mono b o v (hm.ext b o v a),?_,?_,?_,hs.below.os.trans hm.os,hs.below.tape.trans hm.tape,hs.below.output.trans hm.output,Nat.le_trans hm.grow hs.below.size,?_,?_,?_,?_⟩
 ·intro t e m;simp only[St.add,lk] at m;split at m
  ·rename_i I;cases m;have:(tmps.setIfInBounds dst v).getD t Go.undef=v:=by
    subst I;have:t<tmps.size:=by rw[hm.size];exact N
    simp[Array.getD,this]
   rw[this];exact hs.rv
  ·rename_i I;have:(tmps.setIfInBounds dst v).getD t Go.undef=tmps.getD t Go.undef:=by
    simp[Array.getD_eq_getD_getElem?,Ne.symm I]
   rw[this];exact C t e m
 ·intro b o u O h0;cases M:φ b o with
  |some R=>exact hm.new b o R M h0
  |none=>exact .inl (Nat.le_trans hm.grow (hs.new b o u O M))
 ·intro i o x;have L: ∀ o',lk s.ob i=some o'->(nb≠none->i≠id)->ObR cx.own φ' (hx h id hv nb) w' (hx h id hv nb i) o':=λo' B p=>by
   have y:=hm.ob i o' B;have hi:hx h id hv nb i=h i:=by
    cases nb with
    |none=>rfl
    |some _=>exact Zi _ _ (p (by simp))
   rw[hi];refine y.keep (λ_ a=>a) (λb a=>hs.below.block b (y.blk_lt a).1) hs.mono (λb a off=>l (y.blk_lt a).1 off) (λv d H r=>?_)
   have:=r.mono hs.mono;cases nb with
   |none=>exact this
   |some _ =>
    have A:=F (by simp) _ _ B;obtain⟨j,z⟩:=List.mem_iff_getElem?.1 H;exact this.upd id hv (Qs A j d z)
  cases nb with
  |none=>exact L o x (λh=>absurd rfl h)
  |some ob =>
   simp only[St.add,lk] at x;split at x
   ·rename_i hi;cases x;subst hi
    have:=hs.ob _ rfl;have e: ∀ q,hx h i hv (some q) i=hv:=λ_=>Zw _ _ _;rw[e];exact this.keep (λb a=>Or.inl (Nat.le_trans hm.grow a)) (λ_ _=>rfl) (λ_ _ _ h=>h) (λ_ _ _=>rfl) (λ_ _ _ r=>r)
   ·rename_i hi;exact L o x (λ_=>hi)
 ·intro i j b hi z c f;cases nb with
  |none=>exact hm.sep i j b hi z c f
  |some ob =>
   have n: ∀ b,blk hv=some b->w.heap.size<=b:=λb a=>((hs.ob ob rfl).blk_lt a).2;have k: ∀ i b,i≠id->(lk (s.add dst id d (some ob)).ob i).isSome->blk (h i)=some b->b<w.heap.size:=λi b p hi a=>by
    simp only[St.add,lk,if_neg p] at hi;obtain⟨o,x⟩:=Option.isSome_iff_exists.1 hi;exact ((hm.ob i o x).blk_lt a).1
   by_cases h1:i=id<;>by_cases h2:j=id
   ·rw[h1,h2]
   ·subst h1;simp only[hx,Zw] at c;simp only[hx,Zi h hv h2] at f;exact absurd (k j b h2 z f) (by have:=n b c;omega)
   ·subst h2;simp only[hx,Zw] at f;simp only[hx,Zi h hv h1] at c;exact absurd (k i b h1 hi c) (by have:=n b f;omega)
   ·simp only[hx,Zi h hv h1] at c;simp only[hx,Zi h hv h2] at f;simp only[St.add,lk,if_neg h1] at hi;simp only[St.add,lk,if_neg h2] at z;exact hm.sep i j b hi z c f
 ·intro i;cases nb with
  |none=>exact hm.one i
  |some _ =>
   simp only[hx,updH];split
   ·exact E (by simp)
   ·exact hm.one i
 ·intro b a Q;rw[hs.below.block b (Nat.lt_of_lt_of_le a hm.grow)];exact hm.frame b a Q
 ·intro i hi;rw[<- hm.hfix i hi];cases nb with
  |none=>rfl
  |some _=>exact Zi _ _ (by omega)
 ·intro b o a;obtain⟨h1,h2,J⟩:=hm.kept b o a;have k:=(Array.getElem?_eq_some_iff.1 h1).1;refine⟨by rw[hs.below.block b k];exact h1,λoff=>by rw[l k off];exact h2 off,λi hi=>?_⟩;cases nb with
  |none=>exact J i hi
  |some ob =>
   by_cases g:i=id
   ·subst g;simp only[hx,Zw];intro m
    have:=((hs.ob ob rfl).blk_lt m).2;omega
   ·simp only[hx,Zi h hv g];simp only[St.add,lk,if_neg g] at hi;exact J i hi
end
end Go.Sx
namespace Go.Sx
open Go.RowKit
variable [Globs] [Codes]
theorem Z1D: ∀ (ds:List D) (off:Nat) (cs:List D) (j:Nat) (d:D),(setAt cs off ds)[j]? = some d->(off<=j/\j<off+ds.length/\ds[j-off]? = some d)\/(¬ (off<=j/\j<off+ds.length)/\cs[j]? = some d)
 |[],off,cs,j,d,h=>.inr ⟨by simp only[List.length_nil];omega,h⟩
 |x::ds,off,cs,j,d,h=>by
  simp only[setAt] at h;rcases Z1D ds (off+1) (cs.set off x) j d h with⟨h1,h2,a⟩|⟨h1,h2⟩
  ·refine .inl ⟨by omega,by simp;omega,?_⟩;rw[show j-off=(j-(off+1))+1 by omega];simpa using a
  ·rw[List.getElem?_set] at h2;split at h2
   ·rename_i b;subst b;split at h2
    ·cases h2;exact .inl ⟨Nat.le_refl _,by simp,by simp⟩
    ·cases h2
   ·exact .inr ⟨by simp only[List.length_cons];omega,h2⟩
section
variable {cx:Cx} {s:St} {φ φ':Mem} {h:Nat->Value} {tmps:Array Value} {w w':World}
theorem Mod.setRow (hm:Mod cx s φ h tmps w) {id b:Nat} {cs cs':List D} {vals d:Array Value} {e:TypeId} (hl:lk s.ob id=some (.cells cs)) (p:h id=.pointer (some ⟨b,0,none⟩))
  (G:w.heap[b]? = some (.cells vals e (0,0))) (hc:CR φ h d cs'):Mod cx {s with ob:=(id,.cells cs')::s.ob} φ h tmps (w.setRow b d):=by
 have y:=hm.ob id _ hl;obtain⟨H,z,I,q,m,hh,hs,F,f⟩:=y;rw[p] at q;cases q;have c: ∀ k,k≠b->(w.setRow b d).heap[k]? = w.heap[k]? :=λk n=>setRow_other w b k _ n;refine⟨hm.size,hm.tm,?_,hm.ext,hm.new,?_,?_,hm.os,hm.tape,hm.output,by simpa using hm.grow,hm.one,?_,hm.hfix,?_⟩
 ·intro g o v hv;have C:g≠b:=λe=>by rw[e,f] at hv;cases hv
  rw[World.cell?_of_block (w:=w) (a:=⟨g,o,none⟩) (c g C)];exact hm.mem g o v hv
 ·intro i o t;simp only[lk] at t;split at t
  ·rename_i hi;cases t;subst hi;exact⟨b,d,e,p,m,setRow_heap w b vals d e _ G,hc.1,hc.2,f⟩
  ·rename_i hi;refine (hm.ob i o t).keep (λ_ p=>p) (λk n=>c k ?_) (λ_ _ _ h=>h) (λ_ _ _=>rfl) (λ_ _ _ r=>r);intro l;subst l;exact hi (hm.sep i id k (by simp[t]) (by simp[hl]) n (by rw[p];rfl))
 ·intro i j k hi E u x;have hh: ∀ i,(lk ((id,Ob.cells cs')::s.ob) i).isSome->(lk s.ob i).isSome:=λi hi=>by
   simp only[lk] at hi;split at hi
   ·rename_i l;rw[l,hl];rfl
   ·exact hi
  exact hm.sep i j k (hh i hi) (hh j E) u x
 ·intro k n B;have:k≠b:=λl=>by
   subst l;rcases m with h1|h1
   ·omega
   ·exact B h1
  rw[c k this];exact hm.frame k n B
 ·intro k o n;obtain⟨h1,h2,A⟩:=hm.kept k o n;have:k≠b:=λl=>A id (by simp[hl]) (by rw[p,l];rfl);refine⟨by rw[c k this];exact h1,h2,λi hi=>A i ?_⟩;simp only[lk] at hi;split at hi
  ·rename_i l;rw[l,hl];rfl
  ·exact hi
theorem CR.setAt {vals:Array Value} {cs ds:List D} {vs:List Value} (off:Nat) (hc:CR φ h vals cs) (hv:RVL φ h vs ds) (g:off+ds.length<=cs.length) :
  CR φ h (vals.toList.take off++vs++vals.toList.drop (off+vs.length)).toArray (setAt cs off ds):=by
 have hl:=hv.length;have hs:=hc.1;refine⟨by simp[QA];omega,λj d f=>?_⟩;have b:(vals.toList.take off++vs++vals.toList.drop (off+vs.length)).toArray.getD j Go.undef=(vals.toList.take off++(vs++vals.toList.drop (off+vs.length))).getD j Go.undef:=by
  simp[Array.getD_eq_getD_getElem?,List.getD]
 rw[b];rcases Z1D ds off cs j d f with⟨h1,h2,e⟩|⟨h1,h2⟩
 ·have:=hv.get (j-off) d e;have a:(vals.toList.take off++(vs++vals.toList.drop (off+vs.length))).getD j Go.undef=vs.getD (j-off) Go.undef:=by
   simp only[List.getD];rw[List.getElem?_append_right (by simp;omega),List.getElem?_append_left (by simp;omega)];congr 2;simp;omega
  rw[a];exact this
 ·have:=hc.2 j d h2;have i:j<cs.length:=(List.getElem?_eq_some_iff.1 h2).1;have a:(vals.toList.take off++(vs++vals.toList.drop (off+vs.length))).getD j Go.undef=vals.getD j Go.undef:=by
   simp only[List.getD,Array.getD_eq_getD_getElem?];by_cases c:j<off
   ·rw[List.getElem?_append_left (by simp;omega),List.getElem?_take,if_pos c];simp
   ·rw[List.getElem?_append_right (by simp;omega),List.getElem?_append_right (by simp;omega),List.getElem?_drop];simp only[List.length_take,Array.length_toList,Array.getElem?_toList];congr 2;omega
  rw[a];exact this
theorem Z3F {P:Program} {o:Oper} {ρ:Operand->Value} {t:TypeId} {x y:Operand} {b off sz:Nat} {vals:Array Value} {e:TypeId} (d:o.op=.store t x y) (hs:szT P t=some sz) (hx:ρ x=.pointer (some ⟨b,off,none⟩))
  (f:w.heap[b]? = some (.cells vals e (0,0))) (hsz:(ρ y).cells.size=sz) (c:off+sz<=vals.size) (h1: ∀ v∈(ρ y).cells.toList,v.oneCell'=true) :
  (execOp ρ o).run P w=.ok .skip (w.setRow b (vals.toList.take off++(ρ y).cells.toList++vals.toList.drop (off+(ρ y).cells.toList.length)).toArray):=by
 have a:=run_storeCells_at P b off e (ρ y).cells.toList 0 vals w f (by simp;omega) h1;simp only[Nat.add_zero] at a;simp only[execOp,d,hx,Instr.storeAt,Instr.sureAddr,storeVar,Sem.run_bind,Sem.run_pure,Result.andThen_ok,ZX hs,hsz,ne_eq,not_true_eq_false,if_false,a]
def D.flat:D->Bool
 |.agg cs=>cs.all D.one
 |d=>D.one d
theorem Z3M {v:Value} {d:D} (hh:HOne h) (r:RV φ h v d) (hf:D.flat d=true): ∀ u∈v.cells.toList,u.oneCell'=true:=by
 by_cases ha: ∃ cs,d=.agg cs
 ·obtain⟨cs,rfl⟩:=ha;obtain⟨vs,rfl,hs,hc⟩:=r.agg_inv;intro u c;obtain⟨j,e⟩:=List.mem_iff_getElem?.1 c;have b:j<cs.length:=by
   have:=(List.getElem?_eq_some_iff.1 e).1;rw[<- hs];simpa [Value.cells] using this
  have a:=hc j _ (List.getElem?_eq_getElem b);have:vs.getD j Go.undef=u:=by
   simp only[Value.cells,Array.getElem?_toList] at e;simp[Array.getD_eq_getD_getElem?,e]
  rw[this] at a;exact a.one hh (List.all_eq_true.1 hf _ (List.getElem_mem b))
 ·have h1:D.one d=true:=by
   cases d<;>first|exact hf|exact absurd ⟨_,rfl⟩ ha
  have h2:=r.one hh h1;rw[Z55 h2];intro u c;simp at c;subst c;exact h2
theorem Z6W {d:D} (hf:D.flat d=true):D.okc d=true:=by
 cases d<;>first|exact hf|rfl
theorem Z5t {P:Program} {o:Oper} {ρ:Operand->Value} {t:TypeId} {x y:Operand} {sz id off:Nat} {cs:List D} {d:D} (z:o.op=.store t x y) (hs:szT P t=some sz) (hm:Mod cx s φ h tmps w)
  (hx:RV φ h (ρ x) (.ptr id off)) (q:RV φ h (ρ y) d) (hl:lk s.ob id=some (.cells cs)) (hf:D.flat d=true) (u:d.cells.length=sz) (v:off+sz<=cs.length) :
  ∃ w',(execOp ρ o).run P w=.ok .skip w'/\Mod cx {s with ob:=(id,.cells (Sx.setAt cs off d.cells))::s.ob} φ h tmps w':=by
 obtain⟨b,n,m⟩:=hx.ptr_inv;have k:=hm.ob id _ hl;obtain⟨A,vals,e,c,p,hh,hsz,l,i⟩:=k;rw[n] at c;cases c;have a:=q.cells hm.one (Z6W hf);have f:(ρ y).cells.size=sz:=by rw[a.1,u]
 refine⟨_,Z3F z hs m hh f (by omega) (Z3M hm.one q hf),hm.setRow hl n hh ?_⟩;refine CR.setAt off ⟨hsz,l⟩ (ZB _ _ (by simpa using a.1) λj r g=>?_) (by omega)
 have:=a.2 j r g;simpa [Array.getD_eq_getD_getElem?,List.getD] using this
end
theorem QL {α:Type} (A vs:List α) (off p:Nat) (h:off+vs.length<=A.length):(A.take off++vs++A.drop (off+vs.length))[p]? = if off<=p/\p<off+vs.length then vs[p-off]? else A[p]? :=by
 by_cases h1:p<off
 ·rw[if_neg (by omega),List.append_assoc,List.getElem?_append_left (by rw[List.length_take];omega),List.getElem?_take,if_pos h1]
 ·by_cases h2:p<off+vs.length
  ·rw[if_pos ⟨by omega,h2⟩,List.append_assoc,List.getElem?_append_right (by rw[List.length_take];omega),List.getElem?_append_left (by rw[List.length_take];omega)];rw[List.length_take];congr 1;omega
  ·rw[if_neg (by omega),List.getElem?_append_right (by rw[List.length_append,List.length_take];omega),List.getElem?_drop];rw[List.length_append,List.length_take];congr 1;omega
section
variable {cx:Cx} {s:St} {φ φ':Mem} {h:Nat->Value} {tmps:Array Value} {w w':World}
theorem Mod.turn (hm:Mod cx s φ h tmps w) {id b:Nat} {o0 o':Ob} (c: ∀ k,k≠b->w'.heap[k]? = w.heap[k]?) (A:w'.os=w.os) (m:w'.tape=w.tape) (u:w'.output=w.output) (f:w.heap.size<=w'.heap.size) (hl:lk s.ob id=some o0) (n:blk (h id)=some b) (l: ∀ off,φ b off=none)
  (t:ObR cx.own φ h w' (h id) o'):Mod cx {s with ob:=(id,o')::s.ob} φ h tmps w':=by
 have x:=((hm.ob id _ hl).blk_lt n).2;refine⟨hm.size,hm.tm,?_,hm.ext,hm.new,?_,?_,A.trans hm.os,m.trans hm.tape,u.trans hm.output,Nat.le_trans hm.grow f,hm.one,?_,hm.hfix,?_⟩
 ·intro g o v hv;have E:g≠b:=λe=>by rw[e,l] at hv;cases hv
  rw[World.cell?_of_block (w:=w) (a:=⟨g,o,none⟩) (c g E)];exact hm.mem g o v hv
 ·intro i o q;simp only[lk] at q;split at q
  ·rename_i hi;cases q;subst hi;exact t
  ·rename_i hi;refine (hm.ob i o q).keep (λ_ n=>n) (λk p=>c k ?_) (λ_ _ _ h=>h) (λ_ _ _=>rfl) (λ_ _ _ r=>r);intro d;subst d;exact hi (hm.sep i id k (by simp[q]) (by simp[hl]) p n)
 ·intro i j k hi F y z;have hh: ∀ i,(lk ((id,o')::s.ob) i).isSome->(lk s.ob i).isSome:=λi hi=>by
   simp only[lk] at hi;split at hi
   ·rename_i d;rw[d,hl];rfl
   ·exact hi
  exact hm.sep i j k (hh i hi) (hh j F) y z
 ·intro k p C;have:k≠b:=λd=>by
   subst d;rcases x with h1|h1
   ·omega
   ·exact C h1
  rw[c k this];exact hm.frame k p C
 ·intro k o p;obtain⟨h1,h2,B⟩:=hm.kept k o p;have:k≠b:=λd=>B id (by simp[hl]) (by rw[n,d]);refine⟨by rw[c k this];exact h1,h2,λi hi=>B i ?_⟩;simp only[lk] at hi;split at hi
  ·rename_i d;rw[d,hl];rfl
  ·exact hi
theorem Mod.setBlk (hm:Mod cx s φ h tmps w) {id b:Nat} {o0 o':Ob} {a:Array Value} (hl:lk s.ob id=some o0) (e:blk (h id)=some b) (c: ∀ off,φ b off=none)
  (d:ObR cx.own φ h (w.setRow b a) (h id) o'):Mod cx {s with ob:=(id,o')::s.ob} φ h tmps (w.setRow b a) :=
 hm.turn (λk f=>setRow_other w b k _ f) rfl rfl rfl (by simp) hl e c d
theorem Z4w {P:Program} {o:Oper} {ρ:Operand->Value} {t:TypeId} {x y:Operand} {sz id i j a:Nat} {e:TypeId} {es:List (List D)} {cs:List D} {d:D} (ho:o.op=.store t x y) (hs:szT P t=some sz) (hm:Mod cx s φ h tmps w)
  (hx:RV φ h (ρ x) (.vptr id i j a)) (hy:RV φ h (ρ y) d) (hl:lk s.ob id=some (.arr false a e es)) (hi:es[i]? = some cs) (hf:D.flat d=true) (hp:d.cells.all D.pur=true) (W:d.cells.length=sz) (hle:j+sz<=a) :
  ∃ w',(execOp ρ o).run P w=.ok .skip w'/\Mod cx {s with ob:=(id,.arr false a e (es.set i (Sx.setAt cs j d.cells)))::s.ob} φ h tmps w':=by
 obtain⟨b,len,cap,hsz0,hh,hxv⟩:=hx.vptr_inv;have X:=hm.ob id _ hl;obtain⟨h0,l,xs,⟨hxl,R⟩,hrep,f⟩:=X;rw[hh] at R f;rcases R with⟨h1,_⟩|⟨g,cap',z,hv,_,hg,Q,V,M,G⟩
 ·cases h1
 cases hv;have L:=hy.cells hm.one (Z6W hf);have O:(ρ y).cells.size=sz:=by rw[L.1,W]
 have m:(ρ y).cells.toList.length=sz:=by simpa using O
 have N:i<es.length:=(List.getElem?_eq_some_iff.1 hi).1;have U:cs.length=a:=l _ (List.mem_of_getElem? hi);have hrow:i*a+a<=es.length*a:=by
  have:(i+1)*a<=es.length*a:=Nat.mul_le_mul_right _ N;rwa [Nat.add_mul,Nat.one_mul] at this
 have hcap:es.length*a<=z.size:=by rw[M];exact Nat.mul_le_mul_right _ Q
 have E: ∀ off,φ b off=none:=λoff=>by
  have:=(f b rfl).2 off;simpa using this
 refine⟨_,Z3F ho hs hxv hg O (by omega) (Z3M hm.one hy hf),hm.setBlk hl (by rw[hh];rfl) E ?_⟩;have hvl: ∀ k r,d.cells[k]? = some r->Rep φ ((ρ y).cells.toList.getD k Go.undef) r:=λk r hk=>by
  have h2:=L.2 k r hk;have Y:D.pur r=true:=List.all_eq_true.1 hp _ (List.mem_of_getElem? hk)
  have:=RV.pur_rep Y h2;simpa [Array.getD_eq_getD_getElem?,List.getD] using this
 have n:(Sx.setAt cs j d.cells).length=a:=by rw[QA];exact U
 rw[hh];have v:(i*a+j)+(ρ y).cells.toList.length<=xs.length:=by rw[hxl,m];omega
 have u:(i*a+j)+(ρ y).cells.toList.length<=z.toList.length:=by rw[m,Array.length_toList];omega
 refine⟨h0,?_,xs.take (i*a+j)++(ρ y).cells.toList++xs.drop (i*a+j+(ρ y).cells.toList.length),⟨?_,.inr ⟨b,cap,_,by rw[List.length_set],by assumption,setRow_heap w b z _ e _ hg,by rw[List.length_set];exact Q,V,?_,?_⟩⟩,?_,?_⟩
 ·intro q hq;rcases List.mem_or_eq_of_mem_set hq with h|h
  ·exact l q h
  ·rw[h];exact n
 ·rw[List.length_set];simp only[List.length_append,List.length_take,List.length_drop];omega
 ·simp only[List.size_toArray,List.length_append,List.length_take,List.length_drop,Array.length_toList];rw[<- M];rw[Array.length_toList] at u;omega
 ·rw[List.length_set];refine List.ext_getElem? λp=>?_;rw[List.getElem?_take,QL _ _ _ _ v];simp only[];rw[QL _ _ _ _ u];by_cases F:p<es.length*a
  ·rw[if_pos F];split
   ·rfl
   ·rw[<- G,List.getElem?_take,if_pos F]
  ·rw[if_neg F,if_neg (by omega)];rw[List.getElem?_eq_none (by omega)]
 ·intro I q H r c B;have hq:q.length=a:=by
   rw[List.getElem?_set] at c;split at c
   ·cases c;exact n
   ·exact l _ (List.mem_of_getElem? c)
  have hj2:H<a:=by rw[<- hq];exact (List.getElem?_eq_some_iff.1 B).1
  rw[List.getD_eq_getElem?_getD,QL _ _ _ _ v,m];by_cases A:i=I
  ·subst A;rw[List.getElem?_set_self N] at c;cases c;rcases Z1D _ _ _ _ _ B with⟨g1,T,g3⟩|⟨g1,T⟩
   ·rw[W] at T;rw[if_pos (by omega),show i*a+H-(i*a+j)=H-j by omega,<- List.getD_eq_getElem?_getD];exact hvl _ _ g3
   ·rw[W] at g1;rw[if_neg (by omega),<- List.getD_eq_getElem?_getD];exact hrep i cs H r hi T
  ·rw[List.getElem?_set_ne A] at c;have S: ¬ (i*a+j<=I*a+H/\I*a+H<i*a+j+sz):=by
    rcases Nat.lt_or_gt_of_ne A with C|C
    ·have:(i+1)*a<=I*a:=Nat.mul_le_mul_right _ C;rw[Nat.add_mul,Nat.one_mul] at this;omega
    ·have:(I+1)*a<=i*a:=Nat.mul_le_mul_right _ C;rw[Nat.add_mul,Nat.one_mul] at this;omega
   rw[if_neg S,<- List.getD_eq_getElem?_getD];exact hrep I q H r c B
 ·intro b' J;refine⟨(f b' J).1,λoff=>?_⟩;rw[(f b' J).2 off];simp
end
def cpyL (es:List (List D)) (i:Nat) (ys:List (List D)):List (List D):=es.take i++ys.take (es.length-i)++es.drop (i+(ys.take (es.length-i)).length)
def srcP:D->Option (List (List D))
 |.slice ys _=>some ys
 |.nils=>some []
 |_=>none
def badN (sz:Nat) (ys:List (List D)):Nat:=(ys.filter λq=>decide (q.length≠sz)).length
theorem Z58 {sz:Nat} {ys:List (List D)}:badN sz ys<1 ↔ ∀ q∈ys,q.length=sz:=by
 unfold badN;rw[Nat.lt_one_iff,List.length_eq_zero_iff,List.filter_eq_nil_iff];simp
def stO (d:SK) (x y:D) (obs:Nat->Option Ob):Option (Nat × Nat × Nat × Ob):=match x with
 |.ptr id off=>match d with
  |.c sz=>match obs id with
   |some (.cells cs)=>if D.flat y=true/\y.cells.length=sz/\off+sz<=cs.length then some (0,1,id,.cells (setAt cs off y.cells)) else none
   |_=>none
  |_=>none
 |.vptr id i j b=>match d with
  |.c sz=>match obs id with
   |some (.arr false a e es)=>if a=b/\D.flat y=true/\y.cells.all D.pur=true/\y.cells.length=sz/\j+sz<=b then some (i,es.length,id,.arr false b e (es.set i (if j=0/\sz=b then y.cells else setAt (es.getD i []) j y.cells))) else none
   |_=>none
  |_=>none
 |.map id=>match d with
  |.m key=>match obs id with
   |some (.gen (.map ks) ds)=>match mput key y ks ds with
    |some (c,f)=>some (0,1,id,.gen (.map c) f)
    |none=>none
   |some (.gen (.mapC ks cs) [])=>if Z1l y=true then (match mput key y ks cs with
    |some (c,cs')=>some (0,1,id,.gen (.mapC c cs') [])
    |none=>none) else none
   |_=>none
  |_=>none
 |.vec id=>match d with
  |.cp _ sz=>match obs id with
   |some (.arr false a e es)=>match srcP y with
    |some ys=>if a=sz then some (badN a ys,1,id,.arr false a e (cpyL es 0 ys)) else none
    |none=>none
   |_=>none
  |_=>none
 |.vwin id i b=>match d with
  |.cp _ sz=>match obs id with
   |some (.arr false a e es)=>match srcP y with
    |some ys=>if a=sz/\a=b then some (badN a ys,1,id,.arr false a e (cpyL es i ys)) else none
    |none=>none
   |_=>none
  |_=>none
 |_=>none
def mapK (P:Program) (t:TypeId) (k:Operand):Option D:=match k,P.underlying t with
 |.const v,some (.map kt _)=>match keyK P kt with
  |some kd=>if isKD kd (Qo v)=true then some (Qo v) else none
  |none=>none
 |_,_=>none
def Z7O (P:Program) (t:TypeId):Option (Option IntKind):=match P.underlying t with
 |some (.map kt _)=>keyK P kt
 |_=>none
def StOp (P:Program) (o:Oper) (ρ:Operand->Value) (φ:Mem) (h:Nat->Value) (a:SK) (x y:Operand):Prop :=
 (∃ t sz,a=.c sz/\o.op=.store t x y/\szT P t=some sz)\/ ∃ t k kd key,a=.m key/\(o.op=.insert t x k y\/o.op=.mapUpdate t x k y)/\Z7O P t=some kd/\isKD kd key=true/\RV φ h (ρ k) key
theorem ZfB {P:Program} {t:TypeId} {k:Operand} {key:D} (a:mapK P t k=some key): ∃ v kd,k=.const v/\key=Qo v/\Z7O P t=some kd/\isKD kd key=true:=by
 unfold mapK at a;split at a
 ·rename_i v kt e d;split at a
  ·rename_i kd c;split at a
   ·rename_i b;cases a;exact⟨v,kd,rfl,rfl,by simp only[Z7O,d];exact c,b⟩
   ·cases a
  ·cases a
 ·cases a
theorem Z7u: ∀ (ds cs:List D),cs.length=ds.length->setAt cs 0 ds=ds:=λds cs h=>by
 refine List.ext_getElem? λk=>?_;by_cases b:k<ds.length
 ·have h1:k<(setAt cs 0 ds).length:=by rw[QA];omega
  rcases Z1D ds 0 cs k _ (List.getElem?_eq_getElem h1) with⟨_,_,a⟩|⟨a,_⟩
  ·rw[List.getElem?_eq_getElem h1];exact a.symm
  ·omega
 ·rw[List.getElem?_eq_none (by rw[QA];omega),List.getElem?_eq_none (by omega)]
section
variable {cx:Cx} {s:St} {φ φ':Mem} {h:Nat->Value} {tmps:Array Value} {w w':World}
theorem ZfL {kd:Option IntKind} {key k:D} {c:Value} (d:isKD kd key=true) (hr:RV φ h c key) (a:keqD key k=some true):keyV k=c:=by
 unfold keqD at a;split at a
 ·split at a
  ·rename_i b;subst b;simp only[Option.some.injEq,decide_eq_true_eq] at a;subst a;rw[hr.int_inv];rfl
  ·cases a
 ·simp only[Option.some.injEq,decide_eq_true_eq] at a;subst a;rw[hr.str_inv];rfl
 ·cases a
theorem Z6Y {kd:Option IntKind} {key y:D} {m:Value} (q:isKD kd key=true) (hr:RV φ h m key): ∀ (es:List MapEntry) (ks ds:List D) (i:Nat) (f c:List D),es.map MapEntry.key=ks.map keyV->es.length=ds.length->mput key y ks ds=some (f,c) →
  (Instr.findNow (kdT kd) m es i=some none/\f=ks++[key]/\c=ds++[y])\/ ∃ j v e,Instr.findNow (kdT kd) m es i=some (some (i+j,v))/\es[j]? = some e/\e.key=m/\f=ks/\c=ds.set j y
 |[],[],[],i,f,c,_,_,hf=>by cases hf;exact .inl ⟨rfl,rfl,rfl⟩
 |[],[],_::_,i,f,c,_,g,_=>by cases g
 |[],_::_,_,i,f,c,h1,_,_=>by cases h1
 |_::_,[],_,i,f,c,h1,_,_=>by cases h1
 |_::_,_::_,[],i,f,c,_,g,_=>by cases g
 |e::es,k::ks,d::ds,i,f,c,h1,g,hf=>by
  simp only[List.map_cons,List.cons.injEq] at h1;simp only[mput] at hf;cases l:keqD key k with
  |none=>rw[l] at hf;cases hf
  |some b =>
   rw[l] at hf;have hs:=Z6B (k:=k) q hr l;rw[<- h1.1] at hs;cases b with
   |true =>
    simp only[Option.some.injEq,Prod.mk.injEq] at hf;exact .inr ⟨0,e.val,e,by simp only[Instr.findNow,hs,Nat.add_zero],rfl,by rw[h1.1];exact ZfL q hr l,hf.1.symm,hf.2.symm⟩
   |false =>
    simp only at hf;split at hf
    ·rename_i a b p;simp only[Option.some.injEq,Prod.mk.injEq] at hf;obtain⟨rfl,rfl⟩:=hf;rcases Z6Y q hr es ks ds (i+1) a b h1.2 (by simpa using g) p with⟨n,rfl,rfl⟩|⟨j,v,r,n,t,u,rfl,rfl⟩
     ·exact .inl ⟨by simp only[Instr.findNow,hs];exact n,rfl,rfl⟩
     ·exact .inr ⟨j+1,v,r,by simp only[Instr.findNow,hs];rw[n];congr 3;omega,by simpa using t,u,rfl,rfl⟩
    ·cases hf
theorem Mod.weaken {s':St} (hm:Mod cx s φ h tmps w) (h1: ∀ t d,lk s'.tm t=some d->lk s.tm t=some d) (h2: ∀ i o,lk s'.ob i=some o->lk s.ob i=some o):Mod cx s' φ h tmps w:=by
 have a: ∀ i,(lk s'.ob i).isSome->(lk s.ob i).isSome:=λi hi=>by
  obtain⟨o,e⟩:=Option.isSome_iff_exists.1 hi;rw[h2 i o e];rfl
 exact⟨hm.size,λt d f=>hm.tm t d (h1 t d f),hm.mem,hm.ext,hm.new,λi o e=>hm.ob i o (h2 i o e),λi j b hi g=>hm.sep i j b (a i hi) (a j g),hm.os,hm.tape,hm.output,hm.grow,hm.one,hm.frame,hm.hfix,λb o c=>⟨(hm.kept b o c).1,(hm.kept b o c).2.1,λi hi=>(hm.kept b o c).2.2 i (a i hi)⟩⟩
theorem Z6L {key y:D} (g:Z1l y=true): ∀ {ks ds e c:List D},mput key y ks ds=some (e,c)->ds.all Z1l=true->c.all Z1l=true
 |[],[],_,_,h,_=>by cases h;simp[g]
 |[],_::_,_,_,h,_=>by cases h
 |_::_,[],_,_,h,_=>by cases h
 |k::ks,d::ds,e,c,h,ha=>by
  simp only[List.all_cons,Bool.and_eq_true] at ha;simp only[mput] at h;split at h
  ·cases h;simp[g,ha.2]
  ·split at h
   ·rename_i a b f;cases h;simp[ha.1,Z6L g f ha.2]
   ·cases h
  ·cases h
theorem Z2l {P:Program} {o:Oper} {ρ:Operand->Value} {t:TypeId} {x k y:Operand} {key d:D} {id:Nat} {ks ds L F:List D} {kd:Option IntKind} (C:o.op=.insert t x k y\/o.op=.mapUpdate t x k y) (u:Z7O P t=some kd) (I:isKD kd key=true) (m:RV φ h (ρ k) key) (hm:Mod cx s φ h tmps w)
  (hx:RV φ h (ρ x) (.map id)) (hy:RV φ h (ρ y) d) (hl:lk s.ob id=some (.gen (.map ks) ds)) (hf:mput key d ks ds=some (L,F)) :
  ∃ w',(execOp ρ o).run P w=.ok .skip w'/\Mod cx {s with ob:=(id,.gen (.map L) F)::s.ob} φ h tmps w':=by
 unfold Z7O at u;split at u
 ·rename_i kt et hu;obtain⟨b,vals,oo,z,E,c,⟨⟨b',g⟩,es,clock,rfl,h1,h2,h3,R⟩,p,Q,l⟩:=hm.ob id _ hl;rw[g] at z;cases z;have N:es.toList.length=ds.length:=by rw[<- p,<- h2];simp
  have J:=Z5L u;have B:=Z4g I m;have hc:=λe=>MapKept.run_checkKey (w:=w) J B e 9999;rcases Z6Y I m es.toList ks ds 0 L F h1 N hf with⟨r,rfl,rfl⟩|⟨j,v,e,r,G,M,rfl,rfl⟩
  ·have q:(execOp ρ o).run P w=.ok .skip {w with heap:=w.heap.setIfInBounds b (.map (es.push {key:=ρ k,val:=ρ y,born:=clock}) (clock+1))}:=by
    rcases C with C|C <;>
     simp[execOp,C,hx.map_inv.1,g,Instr.mapUpdate,run_underlying hu,MapKept.run_getObj_map c,hc,MapKept.run_findKey J r,MapKept.run_setObj_map _ c,Result.andThen]
   refine⟨_,q,hm.turn (λk W=>(MapKept.heap_set c).2 k W) rfl rfl rfl (by simp) hl (by rw[g];rfl) l ?_⟩;refine⟨b,vals++[ρ y],_,by rw[g];rfl,E,(MapKept.heap_set c).1,⟨⟨b,g⟩,_,_,rfl,?_,?_,?_,?_⟩,by simp[p],?_,l⟩
   ·have X:keyV key=ρ k:=by
     match key,kd,I,m with
     |.int _ _,_,_,m=>rw[m.int_inv];rfl
     |.str _,_,_,m=>rw[m.str_inv];rfl
    simp[h1,X]
   ·simp[h2]
   ·simp only[Array.toList_push,List.map_append,List.map_cons,List.map_nil];rw[List.nodup_append];refine⟨h3,by simp,λa ha a' T e=>?_⟩;simp only[List.mem_singleton] at T;obtain⟨x,hx,rfl⟩:=List.mem_map.1 ha
    have:=R x (by simpa using hx);omega
   ·intro x hx;rw[Array.mem_push] at hx;rcases hx with hx|rfl
    ·have:=R x hx;omega
    ·simp
   ·intro j S f;rw[List.getElem?_append] at f;split at f
    ·rename_i hj;rw[List.getD_eq_getElem?_getD,List.getElem?_append_left (by omega),<- List.getD_eq_getElem?_getD];exact Q j S f
    ·rename_i hj;have U:j=ds.length:=by
      have:=(List.getElem?_eq_some_iff.1 f).1;simp at this;omega
     subst U;simp only[Nat.sub_self,List.getElem?_cons_zero,Option.some.injEq] at f;subst f;rw[List.getD_eq_getElem?_getD,List.getElem?_append_right (by omega)];simpa [p] using hy
  ·rw[Nat.zero_add] at r;have A:es[j]? = some e:=by simpa using G
   have V:j<es.size:=(Array.getElem?_eq_some_iff.1 A).1;have hst:(Instr.keyThatStays (((es[j]?).map MapEntry.key).getD (ρ k)) (ρ k)).run P w=.ok (ρ k) w:=by
    rw[A];simp only[Option.map_some,Option.getD_some,M];exact MapKept.run_keyThatStays B
   have q:(execOp ρ o).run P w=.ok .skip {w with heap:=w.heap.setIfInBounds b (.map (es.modify j λe=>{e with key:=ρ k,val:=ρ y}) clock)}:=by
    rcases C with C|C <;>
     simp[execOp,C,hx.map_inv.1,g,Instr.mapUpdate,run_underlying hu,MapKept.run_getObj_map c,hc,MapKept.run_findKey J r,MapKept.run_setObj_map _ c,Result.andThen,hst]
   refine⟨_,q,hm.turn (λk W=>(MapKept.heap_set c).2 k W) rfl rfl rfl (by simp) hl (by rw[g];rfl) l ?_⟩;have n: ∀ i,(es.modify j λe=>{e with key:=ρ k,val:=ρ y}).toList[i]? = if i=j then (es.toList[i]?).map (λe=>{e with key:=ρ k,val:=ρ y}) else es.toList[i]? :=by
    intro i;simp only[Array.toList_modify,List.getElem?_modify];by_cases h:j=i
    ·subst h;simp
    ·have h': ¬ i=j:=λe=>h e.symm;simp[h,h']
   refine⟨b,vals.set j (ρ y),_,by rw[g];rfl,E,(MapKept.heap_set c).1,⟨⟨b,g⟩,_,_,rfl,?_,?_,?_,?_⟩,by simp[p],?_,l⟩
   ·rw[<- h1];refine List.ext_getElem? λi=>?_;simp only[List.getElem?_map,n];by_cases hi:i=j
    ·subst hi;rw[if_pos rfl,G];simp[M]
    ·rw[if_neg hi]
   ·rw[<- h2];refine List.ext_getElem? λi=>?_;simp only[List.getElem?_map,n,List.getElem?_set,List.length_map];by_cases hi:i=j
    ·subst hi;have O:i<es.toList.length:=by simpa using V
     rw[if_pos rfl,if_pos rfl,if_pos O,G];rfl
    ·rw[if_neg hi,if_neg (λe=>hi e.symm)]
   ·have:(es.modify j λe=>{e with key:=ρ k,val:=ρ y}).toList.map MapEntry.born=es.toList.map MapEntry.born:=by
     refine List.ext_getElem? λi=>?_;simp only[List.getElem?_map,n];by_cases hi:i=j
     ·subst hi;rw[if_pos rfl];cases es.toList[i]?<;>rfl
     ·rw[if_neg hi]
    rw[this];exact h3
   ·intro x hx;have hx':x∈(es.modify j λe=>{e with key:=ρ k,val:=ρ y}).toList:=Array.mem_toList_iff.2 hx;obtain⟨i,hi⟩:=List.getElem?_of_mem hx';rw[n] at hi;split at hi
    ·cases Y:es.toList[i]? with
     |none=>rw[Y] at hi;cases hi
     |some e' =>
      rw[Y] at hi;simp only[Option.map_some,Option.some.injEq] at hi;subst hi;exact R e' (by have:=List.mem_of_getElem? Y;simpa using this)
    ·exact R x (by have:=List.mem_of_getElem? hi;simpa using this)
   ·intro i S f;rw[List.getElem?_set] at f;split at f
    ·rename_i H;subst H;split at f
     ·cases f;have:j<vals.length:=by omega
      simp[List.getD,this];exact hy
     ·cases f
    ·rename_i H
     have:=Q i S f;simpa [List.getD,List.getElem?_set,H] using this
 ·cases u
theorem Z2E {P:Program} {o:Oper} {ρ:Operand->Value} {x y:Operand} {Q:SK} {a b id:Nat} {M d:D} {ob:Ob} (q:StOp P o ρ φ h Q x y) (hm:Mod cx s φ h tmps w)
  (hx:RV φ h (ρ x) M) (F:RV φ h (ρ y) d) (c:stO Q M d (lk s.ob)=some (a,b,id,ob)) (G:a<b) :
  ∃ w',(execOp ρ o).run P w=.ok .skip w'/\Mod cx {s with ob:=(id,ob)::s.ob} φ h tmps w':=by
 unfold stO at c;rcases q with⟨t,sz,rfl,q,hs⟩|⟨t,k,kd,key,rfl,q,N,u,v⟩
 ·split at c
  ·rename_i B off;simp only at c;split at c
   ·rename_i cs hl;split at c
    ·rename_i hc;cases c;exact Z5t q hs hm hx F hl hc.1 hc.2.1 hc.2.2
    ·cases c
   ·cases c
  ·rename_i B i j W;simp only at c;split at c
   ·rename_i E e es hl;split at c
    ·rename_i hc;obtain⟨rfl,h1,h2,R,S⟩:=hc;cases c;have hi:es[a]? = some (es.getD a []):=by rw[List.getD_eq_getElem?_getD,List.getElem?_eq_getElem G];rfl
     have T:(es.getD a []).length=E:=(hm.ob _ _ hl).2.1 _ (List.mem_of_getElem? hi)
     have:=Z4w q hs hm hx F hl hi h1 h2 R S;by_cases hf:j=0/\sz=E
     ·rw[if_pos hf];obtain⟨rfl,rfl⟩:=hf;rw[Z7u _ _ (by omega)] at this;exact this
     ·rw[if_neg hf];exact this
    ·cases c
   ·cases c
  ·cases c
  ·cases c
  ·cases c
  ·cases c
 ·split at c
  ·cases c
  ·cases c
  ·rename_i B;simp only at c;split at c
   ·rename_i ks ds hl;split at c
    ·rename_i hf;cases c;exact Z2l q N u v hm hx F hl hf
    ·cases c
   ·rename_i ks cs hl;split at c
    ·rename_i J;split at c
     ·rename_i C cs' hf;cases c;have r:=hm.ob id _ hl;have f:cs.all Z1l=true:=by obtain⟨b,vals,U,l,O,H,⟨rfl,f,_⟩,_⟩:=r;exact f
      obtain⟨b,vals,U,l,_,_,_,_,_,p⟩:=(λx=>x) r;have I:=hm.turn (w':=w) (λ_ _=>rfl) rfl rfl rfl (Nat.le_refl _) hl l p (Z8s r);obtain⟨w',A,z⟩:=Z2l q N u v I hx F (id:=id) (ks:=ks) (ds:=cs) (by simp[lk]) hf;refine⟨w',A,?_⟩;have m:=z.ob id (.gen (.map C) cs') (by simp[lk]);obtain⟨X,L,V,n,_,_,_,_,_,g⟩:=(λx=>x) m;refine (z.turn (w':=w') (λ_ _=>rfl) rfl rfl rfl (Nat.le_refl _) (id:=id) (o0:=.gen (.map C) cs') (by simp[lk]) n g (Zl0 (Z6L J hf f) m)).weaken (λ_ _ h=>h) (λi o hi=>?_);simp only[lk] at hi ⊢;split
      ·rename_i e;rw[if_pos e] at hi;exact hi
      ·rename_i e;rw[if_neg e] at hi;simpa only[if_neg e] using hi
     ·cases c
    ·cases c
   ·cases c
  ·cases c
  ·cases c
  ·cases c
def Z0w (sz n:Nat) (vals:Nat->Nat->Value):List Value:=(List.range (n*sz)).map λp=>vals (p / sz) (p % sz)
theorem Z3N (sz n:Nat) (vals:Nat->Nat->Value):(Z0w sz n vals).length=n*sz:=by simp[Z0w]
theorem Z83 {sz n:Nat} {vals:Nat->Nat->Value} {i j:Nat} (hi:i<n) (b:j<sz):(Z0w sz n vals)[i*sz+j]? = some (vals i j):=by
 have a:i*sz+j<n*sz:=by
  have:(i+1)*sz<=n*sz:=Nat.mul_le_mul_right _ hi;rw[Nat.add_mul,Nat.one_mul] at this;omega
 have h1:(i*sz+j) / sz=i:=by rw[Nat.mul_comm,Nat.mul_add_div (by omega),Nat.div_eq_of_lt b];rfl
 have h2:(i*sz+j) % sz=j:=by rw[Nat.mul_comm,Nat.mul_add_mod];exact Nat.mod_eq_of_lt b
 simp[Z0w,List.getElem?_map,List.getElem?_range a,h1,h2]
theorem Z56 {sz n:Nat} {vals:Nat->Nat->Value} {p:Nat} {v:Value} (h:(Z0w sz n vals)[p]? = some v):p<n*sz/\p / sz<n/\p % sz<sz/\v=vals (p / sz) (p % sz)/\p=p / sz*sz+p % sz:=by
 have hp:=(List.getElem?_eq_some_iff.1 h).1;rw[Z3N] at hp;have hs:0<sz:=by
  rcases Nat.eq_zero_or_pos sz with e|e
  ·rw[e] at hp;simp at hp
  ·exact e
 refine⟨hp,Nat.div_lt_of_lt_mul (by rw[Nat.mul_comm];exact hp),Nat.mod_lt _ hs,?_,?_⟩
 ·simp only[Z0w,List.getElem?_map,List.getElem?_range hp,Option.map_some,Option.some.injEq] at h;exact h.symm
 ·rw[Nat.mul_comm];exact (Nat.div_add_mod p sz).symm
theorem ZeP {P:Program} {w:World} {t u ty elem:TypeId} {i:TypeInfo} (q:P.underlying t=some (.slice elem)) (c:P.info? elem=some i) {n:Nat} {dp:Option Addr} {dLen dCap:Nat} {sp:Option Addr} {sLen sCap:Nat} (p:Nat.min sLen dLen=n)
  {cs:List Value} (l:cs.length=n*i.size) {g off:Nat} {a:Array Value} {e:TypeId} (r:w.heap[g]? = some (.cells a e (0,0)))
  (d:0<n->dp=some ⟨g,off,none⟩/\off+cs.length<=a.size/\ ∃ k,sp=some k/\ ∀ j v,cs[j]? = some v->w.cell? (k.add j)=some v) (h1: ∀ v∈cs,v.oneCell'=true) :
  (Builtin.copy_ #[t,u] ty #[.slice dp dLen dCap,.slice sp sLen sCap]).run P w=.ok (goInt n) (if n=0 then w else w.setRow g (a.toList.take off++cs++a.toList.drop (off+cs.length)).toArray):=by
 by_cases h0:n=0
 ·subst h0;rw[if_pos rfl];have hl: ∀ (x:Addr),(loadCells x 0).run P w=.ok #[] w:=λx=>by simpa using run_loadCells_list (P:=P) w x [] (by simp)
  cases dp<;>cases sp<;>simp[Builtin.copy_,run_underlying q,Builtin.lenOf,Builtin.firstCells,sizeOf,typeInfo,c,p,storeCells,hl]
 ·obtain⟨rfl,b,k,rfl,f⟩:=d (by omega);rw[if_neg h0];have hl:=run_loadCells_list (P:=P) w k cs f;have m:=run_storeCells_at P g off e cs 0 a w r (by simpa using b) h1;rw[l] at hl;simp[Builtin.copy_,run_underlying q,Builtin.lenOf,Builtin.firstCells,sizeOf,typeInfo,c,p,hl,m]
theorem Zca (es:List (List D)) (i:Nat) (ys:List (List D)) (h:i<=es.length):(cpyL es i ys).length=es.length:=by
 unfold cpyL;simp only[List.length_append,List.length_take,List.length_drop];omega
theorem Z53 {P:Program} {o:Oper} {ρ:Operand->Value} {t u elem:TypeId} {inf:TypeInfo} {x y:Operand} {id i sz:Nat} {e:TypeId} {es ys:List (List D)} {dx dy:D} (ho:o.op=.call {callee:=.builtin .copy,args:=#[x,y],argTypes:=#[t,u]}) (hu:P.underlying t=some (.slice elem))
  (hin:P.info? elem=some inf) (hsz:inf.size=sz) (hm:Mod cx s φ h tmps w) (hx:RV φ h (ρ x) dx) (hdx:(dx=.vec id/\i=0)\/dx=.vwin id i sz) (hy:RV φ h (ρ y) dy) (I:srcP dy=some ys) (hl:lk s.ob id=some (.arr false sz e es)) (l: ∀ q∈ys,q.length=sz) :
  ∃ v w',(execOp ρ o).run P w=.ok (.value v) w'/\Mod cx {s with ob:=(id,.arr false sz e (cpyL es i ys))::s.ob} φ h tmps w':=by
 have hob:=hm.ob id _ hl;obtain⟨h0,hel,xs,⟨hxl,Y⟩,hrep,B⟩:=hob
 -- the source
 obtain⟨ext,hsrc⟩: ∃ ext,Rep φ (ρ y) (.slice ys ext):=by
  cases dy<;>simp only[srcP] at I<;>try (cases I;done)
  ·cases I;exact⟨_,hy.slice_inv⟩
  ·cases I;rw[hy.nils_inv];exact⟨[],.nil⟩
 obtain⟨sp,sLen,sCap,hsv,hsl,U⟩: ∃ sp sLen sCap,ρ y=.slice sp sLen sCap/\sLen=ys.length/\(0<ys.length-> ∃ H,sp=some H/\H.spot=none/\ ∃ vals:Nat->Nat->Value,(∀ i q j d,ys[i]? = some q->q[j]? = some d->φ H.block (H.off+i*sz+j)=some (vals i j)/\Rep φ (vals i j) d)):=by
  rcases hsrc.slice_inv with⟨⟨a0,c0,hv,hac⟩,rfl,rfl⟩|⟨g,off,cap,sz',vals,hv,hcap,hsz',hmem,hrp⟩
  ·exact⟨a0,0,c0,hv,rfl,λh=>by simp at h⟩
  ·refine⟨_,_,_,hv,rfl,λhpos=>⟨_,rfl,rfl,vals,λi q j d hq hd=>?_⟩⟩;have hq2:(ys++ext)[i]? = some q:=by
    rw[List.getElem?_append_left (List.getElem?_eq_some_iff.1 hq).1];exact hq
   have e1:sz'=sz:=by rw[<- hsz' q (List.mem_of_getElem? hq2),l q (List.mem_of_getElem? hq)]
   subst e1;exact⟨hmem i q j d hq2 hd,hrp i q j d hq2 hd⟩
 -- the place
 obtain⟨dp,dCap,hdv,hile,hdp⟩: ∃ dp dCap,ρ x=.slice dp (es.length-i) dCap/\i<=es.length/\(i<es.length-> ∃ g,blk (h id)=some g/\dp=some ⟨g,i*sz,none⟩):=by
  rcases hdx with⟨rfl,rfl⟩|rfl
  ·have hv:=hx.vec_inv;rcases Y with⟨h1,h2⟩|⟨g,cap,A,M,_⟩
   ·exact⟨none,0,by rw[hv,h1,h2],Nat.zero_le _,λh=>by omega⟩
   ·exact⟨some ⟨g,0,none⟩,cap,by rw[hv,M];rfl,Nat.zero_le _,λh=>⟨g,by rw[M];rfl,by rw[Nat.zero_mul]⟩⟩
  ·obtain⟨b,len,cap,p,c,_,hh,hal,hap,hv⟩:=hx.vwin_inv;have hle:len=es.length:=by
    rcases Y with⟨h1,_⟩|⟨g,cap,A,M,_⟩
    ·rw[h1] at hh;cases hh
    ·rw[M] at hh;cases hh;rfl
   subst hle;exact⟨p,c,hv,hal,λW=>⟨b,by rw[hh];rfl,hap W⟩⟩
 obtain⟨n,hn⟩: ∃ n,n=Nat.min ys.length (es.length-i):=⟨_,rfl⟩;have E: ∀ v w',(Builtin.copy_ #[t,u] o.type #[.slice dp (es.length-i) dCap,.slice sp sLen sCap]).run P w=.ok v w'->(execOp ρ o).run P w=.ok (.value v) w':=λv w' hr=>by
  simp[execOp,ho,resolve,invoke,builtin,hdv,hsv,hr,Result.andThen]
 by_cases hn0:n=0
 ·-- nothing goes over
  have hnz:Nat.min sLen (es.length-i)=0:=by rw[hsl,<- hn];exact hn0
  have hl0: ∀ (x:Addr),(loadCells x 0).run P w=.ok #[] w:=λx=>by simpa using run_loadCells_list (P:=P) w x [] (by simp)
  have hr:(Builtin.copy_ #[t,u] o.type #[.slice dp (es.length-i) dCap,.slice sp sLen sCap]).run P w=.ok (goInt 0) w:=by
   cases dp<;>cases sp<;>simp[Builtin.copy_,run_underlying hu,Builtin.lenOf,Builtin.firstCells,sizeOf,typeInfo,hin,hnz,storeCells,hl0]
  refine⟨_,w,E _ _ hr,hm.weaken (λ_ _ h=>h) (λk o' a=>?_)⟩;simp only[lk] at a;split at a
  ·rename_i hki;cases a;subst hki;have he:cpyL es i ys=es:=by
    unfold cpyL;have:ys.take (es.length-i)=[]:=by
     rw[<- List.length_eq_zero_iff,List.length_take];have h2:min (es.length-i) ys.length=Nat.min ys.length (es.length-i):=Nat.min_comm _ _;omega
    rw[this,List.append_nil,List.length_nil,Nat.add_zero,List.take_append_drop]
   rw[he];exact hl
  ·exact a
 have hylen:0<ys.length:=by
  rcases Nat.eq_zero_or_pos ys.length with h|h
  ·have h2:=Nat.min_le_left ys.length (es.length-i);have h3:Nat.min ys.length (es.length-i)<=ys.length:=h2;omega
  ·exact h
 have hnle:n<=ys.length/\n<=es.length-i:=by rw[hn];exact⟨Nat.min_le_left _ _,Nat.min_le_right _ _⟩
 have hilt:i<es.length:=by omega
 obtain⟨H,rfl,F,vals,G⟩:=U hylen;obtain⟨g',z,rfl⟩:=hdp hilt;rcases Y with⟨h1,_⟩|⟨g,cap',A,hv,hge,hg,hnc,hcm,hcs,htake⟩
 ·rw[h1] at z;cases z
 have hgg:g'=g:=by rw[hv] at z;simpa [blk] using z.symm
 subst hgg;have X: ∀ off,φ g' off=none:=λoff=>by
  have:=(B g' z).2 off;simpa using this
 have hyq: ∀ k,k<n-> ∃ q,ys[k]? = some q/\q.length=sz:=λk a=>⟨ys[k]'(by omega),List.getElem?_eq_getElem _,l _ (List.getElem_mem _)⟩;have R: ∀ k j,k<n->j<sz-> ∃ d,φ H.block (H.off+k*sz+j)=some (vals k j)/\Rep φ (vals k j) d:=λk j a hj=>by
  obtain⟨q,hq,L⟩:=hyq k a;obtain⟨h1,h2⟩:=G k q j (q[j]'(by omega)) hq (List.getElem?_eq_getElem _);exact⟨_,h1,h2⟩
 have C:(Z0w sz n vals).length=n*sz:=Z3N _ _ _;have hrow:i*sz+n*sz<=es.length*sz:=by
  rw[<- Nat.add_mul];exact Nat.mul_le_mul_right _ (by omega)
 have hcap:es.length*sz<=A.size:=by rw[hcs];exact Nat.mul_le_mul_right _ hnc
 have hone: ∀ v∈Z0w sz n vals,v.oneCell'=true:=λv hv=>by
  obtain⟨p,hp⟩:=List.mem_iff_getElem?.1 hv;obtain⟨_,h1,h2,h3,_⟩:=Z56 hp;obtain⟨d,_,hr⟩:=R _ _ h1 h2;rw[h3];exact hr.one
 have Q:=ZeP (P:=P) (w:=w) (t:=t) (u:=u) (ty:=o.type) hu hin (n:=n) (dp:=some ⟨g',i*sz,none⟩) (dLen:=es.length-i) (dCap:=dCap) (sp:=some H) (sLen:=sLen) (sCap:=sCap) (by rw[hsl,hn]) (cs:=Z0w sz n vals) (by rw[C,hsz]) hg
  (λ_=>⟨rfl,by rw[C];omega,H,rfl,λp v hp=>by
   obtain⟨_,h1,h2,h3,h4⟩:=Z56 hp;obtain⟨d,hφ,_⟩:=R _ _ h1 h2
   have:=hm.mem _ _ _ hφ;rw[h3];rw[Nat.add_assoc,<- h4] at this;obtain⟨b,off,spot⟩:=H;simp only at F;subst F;by_cases hp0:p=0
   ·subst hp0;simpa [Addr.add] using this
   ·simpa [Addr.add,hp0] using this⟩) hone
 rw[if_neg hn0] at Q;refine⟨_,_,E _ _ Q,hm.setBlk hl z X ?_⟩;have htk:(ys.take (es.length-i)).length=n:=by rw[List.length_take,hn];exact Nat.min_comm _ _
 have V:i+(ys.take (es.length-i)).length<=es.length:=by omega
 have O: ∀ k,(cpyL es i ys)[k]? = if i<=k/\k<i+n then ys[k-i]? else es[k]? :=λk=>by
  unfold cpyL;rw[QL _ _ _ _ V,htk];by_cases a:i<=k/\k<i+n
  ·rw[if_pos a,if_pos a,List.getElem?_take,if_pos (by omega)]
  ·rw[if_neg a,if_neg a]
 have m:=Zca es i ys hile;rw[hv];have S:i*sz+(Z0w sz n vals).length<=xs.length:=by rw[hxl,C];exact hrow
 have N:i*sz+(Z0w sz n vals).length<=A.toList.length:=by rw[C,Array.length_toList];omega
 refine⟨h0,?_,xs.take (i*sz)++Z0w sz n vals++xs.drop (i*sz+(Z0w sz n vals).length),⟨?_,.inr ⟨g',cap',_,by rw[m],by assumption,setRow_heap w g' A _ e _ hg,by rw[m];exact hnc,hcm,?_,?_⟩⟩,?_,?_⟩
 ·intro q hq;obtain⟨k,a⟩:=List.mem_iff_getElem?.1 hq;rw[O] at a;split at a
  ·exact l q (List.mem_of_getElem? a)
  ·exact hel q (List.mem_of_getElem? a)
 ·rw[m];simp only[List.length_append,List.length_take,List.length_drop];omega
 ·simp only[List.size_toArray,List.length_append,List.length_take,List.length_drop,Array.length_toList];rw[<- hcs];rw[Array.length_toList] at N;omega
 ·rw[m];refine List.ext_getElem? λp=>?_;rw[List.getElem?_take,QL _ _ _ _ S];simp only[];rw[QL _ _ _ _ N];by_cases hpn:p<es.length*sz
  ·rw[if_pos hpn];split
   ·rfl
   ·rw[<- htake,List.getElem?_take,if_pos hpn]
  ·rw[if_neg hpn,if_neg (by omega)];rw[List.getElem?_eq_none (by omega)]
 ·intro r q T d' f J;rw[O] at f;rw[List.getD_eq_getElem?_getD,QL _ _ _ _ S,C];by_cases a:i<=r/\r<i+n
  ·rw[if_pos a] at f;have L:q.length=sz:=l q (List.mem_of_getElem? f);have hj2:T<sz:=by rw[<- L];exact (List.getElem?_eq_some_iff.1 J).1
   have e1:r*sz=i*sz+(r-i)*sz:=by rw[<- Nat.add_mul];congr 1;omega
   have e2:(r-i)*sz+sz<=n*sz:=by
    have:(r-i+1)*sz<=n*sz:=Nat.mul_le_mul_right _ (by omega);rwa [Nat.add_mul,Nat.one_mul] at this
   rw[if_pos ⟨by omega,by omega⟩,show r*sz+T-i*sz=(r-i)*sz+T by omega,Z83 (by omega) hj2];exact (G _ q T d' f J).2
  ·rw[if_neg a] at f;have L:q.length=sz:=hel q (List.mem_of_getElem? f);have hj2:T<sz:=by rw[<- L];exact (List.getElem?_eq_some_iff.1 J).1
   have hout: ¬ (i*sz<=r*sz+T/\r*sz+T<i*sz+n*sz):=by
    rcases Nat.lt_or_ge r i with W|hge
    ·have:(r+1)*sz<=i*sz:=Nat.mul_le_mul_right _ W;rw[Nat.add_mul,Nat.one_mul] at this;omega
    ·have:(i+n)*sz<=r*sz:=Nat.mul_le_mul_right _ (by omega);rw[Nat.add_mul] at this;omega
   rw[if_neg hout,<- List.getD_eq_getElem?_getD];exact hrep r q T d' f J
 ·intro b' hb';have hbb:blk (h id)=some b':=by rw[hv];exact hb'
  refine⟨(B b' hbb).1,λoff=>?_⟩;rw[(B b' hbb).2 off];simp
theorem Zae {P:Program} {o:Oper} {ρ:Operand->Value} {t u elem:TypeId} {j:TypeInfo} {x y:Operand} {dst a b id:Nat} {n p:D} {ob:Ob} (q:o.op=.call {callee:=.builtin .copy,args:=#[x,y],argTypes:=#[t,u]}) (r:P.underlying t=some (.slice elem))
  (g:P.info? elem=some j) (hm:Mod cx s φ h tmps w) (hx:RV φ h (ρ x) n) (z:RV φ h (ρ y) p) (c:stO (.cp dst j.size) n p (lk s.ob)=some (a,b,id,ob)) (f:a<b) :
  ∃ v w',(execOp ρ o).run P w=.ok (.value v) w'/\Mod cx {s with ob:=(id,ob)::s.ob} φ h tmps w':=by
 unfold stO at c;split at c
 ·cases c
 ·cases c
 ·cases c
 ·rename_i l;simp only at c;split at c
  ·rename_i m e es hl;split at c
   ·rename_i ys d;split at c
    ·rename_i hc;subst hc;cases c;exact Z53 q r g rfl hm hx (.inl ⟨rfl,rfl⟩) z d hl (Z58.1 f)
    ·cases c
   ·cases c
  ·cases c
 ·rename_i l i A;simp only at c;split at c
  ·rename_i m e es hl;split at c
   ·rename_i ys d;split at c
    ·rename_i hc;obtain⟨rfl,k⟩:=hc;subst k;cases c;exact Z53 q r g rfl hm hx (.inr rfl) z d hl (Z58.1 f)
    ·cases c
   ·cases c
  ·cases c
 ·cases c
end
end Go.Sx
namespace Go.Sx
open Go.RowKit
variable [Globs] [Codes]
section
variable {P:Program} {w:World}
theorem Z2q (t ty e:TypeId) (i:TypeInfo) (z:Value) (size bytes:Nat) (I:P.underlying t=some (.slice e)) (hi:P.info? e=some i) (U:i.zero=some z)
  (C:i.size=size) (N:i.bytes=bytes) (S:z.cells.size=size) (hsz:0<size)
  (v:Value) (n:Nat) (xs:List Value) (b:w.ownsRow 0 e size v n xs)
  (y:Value) (m:Nat) (news:List Value) (Y:(y=.slice none 0 0/\m=0)\/ ∃ a c,y=.slice (some a) m c/\ ∀ j u,news[j]? = some u->w.cell? (a.add j)=some u)
  (hl:news.length=m*size) (h1: ∀ u∈news,u.oneCell'=true)
  (F:n+m<=maxLen) (p:(n+m)*bytes<=140737488355328) :
  ∃ J w',(Builtin.append_ #[t,t] ty #[v,y]).run P w=.ok J w'/\w'.ownsRow 0 e size J (n+m) (xs++news)/\J.oneCell'=true ∧
   (
    (blk J=blk v/\w'.os=w.os/\w'.tape=w.tape/\w'.output=w.output/\w'.heap.size=w.heap.size/\ ∀ k,blk v≠some k->w'.heap[k]? = w.heap[k]?) ∨
    (blk J=some w.heap.size/\Below w.heap.size w w')):=by
 subst C;subst N;rcases Y with⟨rfl,rfl⟩|⟨a,c,rfl,d⟩
 ·have R:news=[]:=List.eq_nil_of_length_eq_zero (by simpa using hl);subst R;refine⟨v,w,run_append_owned_none w 0 t ty e i i.size I hi v n xs b,by simpa using b,?_,.inl ⟨rfl,rfl,rfl,rfl,rfl,λ_ _=>rfl⟩⟩;rcases b.2 with⟨rfl,_⟩|⟨g,cap,r,rfl,_⟩<;>rfl
 have L:n+m<=9223372036854775807:=by simp only[maxLen] at F;omega
 have q:(xs++news).length=(n+m)*i.size:=by rw[List.length_append,b.1,hl,Nat.add_mul]
 have grown: ∀ (l:Nat),l<n+m →
   (w.drew.alloc (.cells (xs.toArray++news.toArray++Builtin.zeroCells z.cells (grownCap w (n+m) l e-(n+m))) e)).ownsRow 0 e i.size
    (.slice (some ⟨w.heap.size,0,none⟩) (n+m) (grownCap w (n+m) l e)) (n+m) (xs++news):=by
  intro l ho;have Q:=grownCap_ge w (n+m) l e;have A:grownCap w (n+m) l e<=maxLen:=grownCap_le_maxLen w (n+m) l e F;refine⟨q,.inr ⟨w.heap.size,_,_,rfl,Nat.zero_le _,heap_alloc_new w.drew _,Q,A,?_,?_⟩⟩
  ·simp only[Array.size_append,List.size_toArray,size_zeroCells,S,b.1,hl,<- Nat.add_mul];congr 1;omega
  ·simp only[Array.toList_append,List.append_assoc];rw[<- List.append_assoc,<- q];exact List.take_left
 have x: ∀ ob,Below w.heap.size w (w.drew.alloc ob):=λob=>((Below.refl _ w).drew).alloc (Nat.le_refl _) _;rcases b.2 with⟨rfl,rfl⟩|⟨g,cap,r,rfl,M,T,X,A,O,E⟩
 ·have hx:xs=[]:=List.eq_nil_of_length_eq_zero (by simpa using b.1);subst hx;by_cases hm:m=0
  ·subst hm;have R:news=[]:=List.eq_nil_of_length_eq_zero (by simpa using hl);subst R;refine⟨.slice none 0 0,w,?_,World.ownsRow_nil w 0 e i.size,rfl,.inl ⟨rfl,rfl,rfl,rfl,rfl,λ_ _=>rfl⟩⟩;simp[Builtin.append_,run_underlying I,sizeOf,typeInfo,hi,Builtin.lenOf,Builtin.firstCells,loadCells,loadCellsFrom]
  ·have hr:=run_append_nil (P:=P) w t ty e i z I hi U a m c news hl d (by omega) (by omega) (by have V:=p;simp only[Nat.zero_add] at V;omega);have H:=grown 0 (by omega);simp only[Nat.zero_add,List.nil_append,Array.empty_append] at H ⊢;exact⟨_,_,hr,H,rfl,.inr ⟨rfl,x _⟩⟩
 ·by_cases f:n+m<=cap
  ·have G:n*i.size+news.length<=r.size:=by rw[hl,O,<- Nat.add_mul];exact Nat.mul_le_mul_right _ f
   have hr:=run_append_room (P:=P) w t ty e i I hi g n cap r T a m c news hl d h1 f G;refine⟨_,_,hr,⟨q,.inr ⟨g,cap,_,rfl,M,setRow_heap w g r _ e _ T,f,A,?_,?_⟩⟩,rfl,.inl ⟨rfl,rfl,rfl,rfl,by simp,λk W=>setRow_other w g k _ (λe=>W (by simp[blk,e]))⟩⟩
   ·simp only[List.size_toArray,List.length_append,List.length_take,List.length_drop,Array.length_toList];omega
   ·rw[E,<- q];exact List.take_left
  ·have B: ∀ j u,xs[j]? = some u->w.cell? ((⟨g,0,none⟩:Addr).add j)=some u:=b.cells (g:=g) rfl;have hr:=run_append_grow (P:=P) w t ty e i z I hi U ⟨g,0,none⟩ n cap xs b.1 B a m c news hl d (by omega) (by omega) (growslice_fits (by omega) p);exact⟨_,_,hr,grown cap (by omega),rfl,.inr ⟨rfl,x _⟩⟩
end
def Za {α:Type} (id:Nat):List (Nat × α)->List (Nat × α)
 |[]=>[]
 |(j,a)::l=>if j=id then Za id l else (j,a)::Za id l
theorem Z6P {α β:Type} (f:α->β): ∀ (l:List (Nat × α)) (i:Nat),lk (l.map λp=>(p.1,f p.2)) i=(lk l i).map f
 |[],_=>rfl
 |(j,a)::l,i=>by
  simp only[List.map_cons,lk];split
  ·rfl
  ·exact Z6P f l i
theorem ZD {α:Type} (id:Nat): ∀ (l:List (Nat × α)) (i:Nat),lk (Za id l) i=if i=id then none else lk l i
 |[],_=>by simp[Za,lk]
 |(j,a)::l,i=>by
  simp only[Za];split
  ·rename_i b;rw[ZD id l i];split
   ·rfl
   ·rename_i hi;simp only[lk];rw[if_neg (by omega)]
  ·rename_i b;simp only[lk];by_cases hi:i=j
   ·subst hi;simp[b]
   ·rw[if_neg hi,if_neg hi,ZD id l i]
section
variable {cx:Cx} {s:St} {φ φ':Mem} {h:Nat->Value} {tmps:Array Value} {w w':World}
theorem Mod.world (hm:Mod cx s φ h tmps w) {g:Nat} (u:cx.own g) (c: ∀ i,(lk s.ob i).isSome->blk (h i)≠some g) (n: ¬ (cx.kp g).isSome) (p:w'.os=w.os) (f:w'.tape=w.tape) (j:w'.output=w.output)
  (d:w'.heap.size=w.heap.size) (m: ∀ k,k≠g->w'.heap[k]? = w.heap[k]?) (l:Sub φ w'):Mod cx s φ h tmps w':=by
 refine⟨hm.size,hm.tm,l,hm.ext,hm.new,λi o q=>?_,hm.sep,p.trans hm.os,f.trans hm.tape,j.trans hm.output,by rw[d];exact hm.grow,hm.one,λb a t=>?_,hm.hfix,λb o a=>⟨by rw[m b (λe=>n (e ▸ by rw[a];rfl))];exact (hm.kept b o a).1,(hm.kept b o a).2⟩⟩
 ·refine (hm.ob i o q).keep (λ_ a=>a) (λb a=>m b ?_) (λ_ _ _ h=>h) (λ_ _ _=>rfl) (λ_ _ _ r=>r);intro e;subst e;exact c i (by simp[q]) a
 ·rw[m b (λe=>by subst e;exact u.elim (λh=>by omega) t)];exact hm.frame b a t
theorem Mod.arr (hm:Mod cx s φ h tmps w) {dst id:Nat} {fz:Bool} {sz:Nat} {e:TypeId} {es:List (List D)} {hv:Value} (S:dst<cx.N) (hid:cx.bs<=id) (B:s.clean id=true) (E:hv.oneCell'=true)
  (y:ObR cx.own φ' h w hv (.arr fz sz e es)) (f: ∀ b o u,φ b o=some u->φ' b o=some u) (G:Sub φ' w) (n: ∀ b o u,φ' b o=some u->φ b o=none->blk hv=some b)
  (g: ∀ i b,(lk s.ob i).isSome->blk (h i)=some b->blk hv≠some b) (M: ∀ b,blk hv=some b-> ¬ (cx.kp b).isSome) :
  Mod cx (s.add dst id (.vec id) (some (.arr fz sz e es))) φ' (updH h id hv) (tmps.setIfInBounds dst hv) w:=by
 have F: ∀ b,blk hv=some b->cx.own b:=λb m=>(y.2.2.choose_spec.2.2 b m).1;refine⟨by simp[hm.size],?_,G,λb o v m=>f b o v (hm.ext b o v m),?_,?_,?_,hm.os,hm.tape,hm.output,hm.grow,?_,hm.frame,λi hi=>by rw[<- hm.hfix i hi];exact Zi _ _ (by omega),?_⟩
 ·intro t d hl;simp only[St.add,lk] at hl;split at hl
  ·rename_i O;cases hl;have:(tmps.setIfInBounds dst hv).getD t Go.undef=hv:=by
    subst O;have:t<tmps.size:=by rw[hm.size];exact S
    simp[Array.getD,this]
   rw[this];have r:=RV.vec (φ:=φ') (h:=updH h id hv) id (by rw[Zw];obtain⟨a,c,Q⟩:=Z1g y;rw[Q];rfl);rw[Zw] at r;exact r
  ·rename_i O;have:(tmps.setIfInBounds dst hv).getD t Go.undef=tmps.getD t Go.undef:=by
    simp[Array.getD_eq_getD_getElem?,Ne.symm O]
   rw[this];exact ((hm.tm t d hl).mono f).upd id hv (St.clean_tm B hl)
 ·intro b o u T h0;cases z:φ b o with
  |some U=>exact hm.new b o U z h0
  |none=>exact F b (n b o u T z)
 ·intro i o A;simp only[St.add,lk] at A;split at A
  ·rename_i hi;cases A;subst hi;have I:updH h i hv i=hv:=Zw _ _ _;rw[I];exact y.keep (λ_ m=>m) (λ_ _=>rfl) (λ_ _ _ h=>h) (λ_ _ _=>rfl) (λ_ _ L=>by cases L)
  ·rename_i hi;have I:updH h id hv i=h i:=Zi _ _ hi;rw[I];refine (hm.ob i o A).keep (λ_ m=>m) (λ_ _=>rfl) f (λb m off=>?_) (λv d J r=>?_)
   ·cases z:φ b off with
    |some u=>exact f b off u z
    |none =>
     cases N:φ' b off with
     |none=>rfl
     |some u=>exact absurd (n b off u N z) (g i b (by simp[A]) m)
   ·have C:=St.clean_ob B A;obtain⟨j,H⟩:=List.mem_iff_getElem?.1 J;exact (r.mono f).upd id hv (Qs C j d H)
 ·intro i j b hi H k l;have p: ∀ i,i≠id->(lk (s.add dst id (.vec id) (some (.arr fz sz e es))).ob i).isSome->(lk s.ob i).isSome:=λi q hi=>by
   simpa only[St.add,lk,if_neg q] using hi
  by_cases h1:i=id<;>by_cases h2:j=id
  ·rw[h1,h2]
  ·subst h1;simp only[Zw] at k;simp only[Zi h hv h2] at l;exact absurd k (g j b (p j h2 H) l)
  ·subst h2;simp only[Zw] at l;simp only[Zi h hv h1] at k;exact absurd l (g i b (p i h1 hi) k)
  ·simp only[Zi h hv h1] at k;simp only[Zi h hv h2] at l;exact hm.sep i j b (p i h1 hi) (p j h2 H) k l
 ·intro i;simp only[updH];split
  ·exact E
  ·exact hm.one i
 ·intro b o m;obtain⟨h1,h2,R⟩:=hm.kept b o m;have q:blk hv≠some b:=λL=>M b L (by rw[m];rfl);refine⟨h1,λoff=>?_,λi hi=>?_⟩
  ·cases z:φ' b off with
   |none=>rfl
   |some u=>exact absurd (n b off u z (h2 off)) q
  ·by_cases x:i=id
   ·subst x;simp only[Zw];exact q
   ·simp only[Zi h hv x];simp only[St.add,lk,if_neg x] at hi;exact R i hi
end
end Go.Sx
namespace Go.Sx
open Go.RowKit
variable [Globs] [Codes]
section
variable {P:Program} {cx:Cx} {s:St} {φ:Mem} {h:Nat->Value} {tmps:Array Value} {w:World}
theorem Z3w {v:Value} {ys ext:List (List D)} (n:Sub φ w) (H:Rep φ v (.slice ys ext)) {sz:Nat} (hsz:0<sz) (f: ∀ q∈ys,q.length=sz) :
  ∃ news:List Value,((v=.slice none 0 0/\ys.length=0)\/ ∃ a c,v=.slice (some a) ys.length c/\ ∀ j u,news[j]? = some u->w.cell? (a.add j)=some u)/\news.length=ys.length*sz ∧
   (∀ u∈news,u.oneCell'=true)/\ ∀ i x j d,ys[i]? = some x->x[j]? = some d->Rep φ (news.getD (i*sz+j) Go.undef) d:=by
 rcases H.slice_inv with⟨⟨a,c,rfl,t⟩,rfl,rfl⟩|⟨b,off,cap,e,vals,rfl,hcap,p,hmem,hrep⟩
 ·cases a with
  |none=>obtain rfl:=t rfl;exact⟨[],.inl ⟨rfl,rfl⟩,by simp,by simp,by simp⟩
  |some a=>exact⟨[],.inr ⟨a,c,rfl,by simp⟩,by simp,by simp,by simp⟩
 ·by_cases z:ys=[]
  ·subst z;exact⟨[],.inr ⟨_,cap,rfl,by simp⟩,by simp,by simp,by simp⟩
  ·have A:e=sz:=by
    obtain⟨q,l⟩:=List.exists_mem_of_ne_nil _ z;rw[<- p q (List.mem_append_left _ l),f q l]
   subst A;have g: ∀ q,q<ys.length*e-> ∃ x d,(ys++ext)[q / e]? = some x/\x[q % e]? = some d:=λq l=>by
    have h1:q / e<ys.length:=(Nat.div_lt_iff_lt_mul hsz).2 l;have h2:(ys++ext)[q / e]? = some ys[q / e]:=by rw[List.getElem?_append_left h1,List.getElem?_eq_getElem h1]
    have r:ys[q / e].length=e:=f _ (List.getElem_mem h1);have G:q % e<ys[q / e].length:=by rw[r];exact Nat.mod_lt _ hsz
    exact⟨_,_,h2,List.getElem?_eq_getElem G⟩
   refine⟨(List.range (ys.length*e)).map λq=>vals (q / e) (q % e),.inr ⟨_,cap,rfl,?_⟩,by simp,?_,?_⟩
   ·intro j u k;rw[List.getElem?_map] at k;by_cases m:j<ys.length*e
    ·simp[m] at k;subst k;obtain⟨x,d,hx,y⟩:=g j m
     have:=hmem _ _ _ _ hx y;rw[Addr.add_lit];have B:off+j / e*e+j % e=off+j:=by
      have:=Nat.div_add_mod j e;rw[Nat.mul_comm] at this;omega
     rw[B] at this;exact n _ _ _ this
    ·rw[List.getElem?_eq_none (by simp;omega)] at k;cases k
   ·intro u k;simp only[List.mem_map,List.mem_range] at k;obtain⟨q,l,rfl⟩:=k;obtain⟨x,d,hx,y⟩:=g q l;exact (hrep _ _ _ _ hx y).one
   ·intro i x j d hi m;have h1:i<ys.length:=(List.getElem?_eq_some_iff.1 hi).1;have h2:j<e:=by
     have:=(List.getElem?_eq_some_iff.1 m).1;rwa [f x (List.mem_of_getElem? hi)] at this
    have r:i*e+j<ys.length*e:=by
     have:(i+1)*e<=ys.length*e:=Nat.mul_le_mul_right _ h1;rw[Nat.add_mul,Nat.one_mul] at this;omega
    have C:(i*e+j) / e=i:=by
     rw[Nat.add_comm,Nat.add_mul_div_right _ _ hsz,Nat.div_eq_of_lt h2,Nat.zero_add]
    have E:(i*e+j) % e=j:=by
     rw[Nat.add_comm,Nat.add_mul_mod_self_right,Nat.mod_eq_of_lt h2]
    have F:((List.range (ys.length*e)).map λq=>vals (q / e) (q % e)).getD (i*e+j) Go.undef=vals i j:=by
     simp[List.getD,r,C,E]
    rw[F];exact hrep _ _ _ _ (by rw[List.getElem?_append_left h1];exact hi) m
def Z3z (φ:Mem) (g:Option Nat) (xs:List Value):Mem:=λb o=>if g=some b then xs[o]? else φ b o
theorem Z7H {φ:Mem} {es ys:List (List D)} {xs news:List Value} {sz:Nat} (hx:xs.length=es.length*sz) (a: ∀ q∈es,q.length=sz) (h1: ∀ i x j d,es[i]? = some x->x[j]? = some d->Rep φ (xs.getD (i*sz+j) Go.undef) d)
  (h2: ∀ i x j d,ys[i]? = some x->x[j]? = some d->Rep φ (news.getD (i*sz+j) Go.undef) d) :
  ∀ i x j d,(es++ys)[i]? = some x->x[j]? = some d->Rep φ ((xs++news).getD (i*sz+j) Go.undef) d:=by
 intro i x j d hi c;by_cases b:i<es.length
 ·rw[List.getElem?_append_left b] at hi;have k:j<sz:=by
   have:=(List.getElem?_eq_some_iff.1 c).1;rwa [a x (List.mem_of_getElem? hi)] at this
  have f:i*sz+j<xs.length:=by
   rw[hx];have:(i+1)*sz<=es.length*sz:=Nat.mul_le_mul_right _ b;rw[Nat.add_mul,Nat.one_mul] at this;omega
  have e:(xs++news).getD (i*sz+j) Go.undef=xs.getD (i*sz+j) Go.undef:=by
   simp only[List.getD];rw[List.getElem?_append_left f]
  rw[e];exact h1 i x j d hi c
 ·rw[List.getElem?_append_right (by omega)] at hi;have e:(xs++news).getD (i*sz+j) Go.undef=news.getD ((i-es.length)*sz+j) Go.undef:=by
   simp only[List.getD];have g:es.length*sz<=i*sz:=Nat.mul_le_mul_right _ (by omega);rw[List.getElem?_append_right (by rw[hx];omega),hx,Nat.sub_mul];congr 2;omega
  rw[e];exact h2 _ x j d hi c
theorem Zcq {own:Nat->Prop} {hv:Value} {fz:Bool} {sz b:Nat} {e:TypeId} {es:List (List D)} (y:ObR own φ h w hv (.arr fz b e es)) (hsz:0<sz) (k: ∀ q∈es,q.length=sz) :
  ∃ news:List Value,((hv=.slice none 0 0/\es.length=0)\/ ∃ a c,hv=.slice (some a) es.length c/\ ∀ j u,news[j]? = some u->w.cell? (a.add j)=some u)/\news.length=es.length*sz ∧
   (∀ u∈news,u.oneCell'=true)/\ ∀ i x j d,es[i]? = some x->x[j]? = some d->Rep φ (news.getD (i*sz+j) Go.undef) d:=by
 obtain⟨h0,hl,xs,f,hrep,A⟩:=y;by_cases v:es=[]
 ·subst v;rcases f.2 with⟨rfl,_⟩|⟨g,cap,r,rfl,_⟩
  ·exact⟨[],.inl ⟨rfl,rfl⟩,by simp,by simp,by simp⟩
  ·exact⟨[],.inr ⟨_,cap,rfl,by simp⟩,by simp,by simp,by simp⟩
 ·have E:b=sz:=by
   obtain⟨q,C⟩:=List.exists_mem_of_ne_nil _ v;rw[<- hl q C,k q C]
  subst E;rcases f.2 with⟨_,t⟩|⟨g,cap,r,rfl,L,hh,hcap,B,I,l⟩
  ·exact absurd (List.length_eq_zero_iff.1 t) v
  ·have m:xs.length=es.length*b:=f.1;refine⟨xs,.inr ⟨_,cap,rfl,λj u n=>?_⟩,m,λu n=>?_,hrep⟩
   ·have J:j<es.length*b:=by rw[<- m];exact (List.getElem?_eq_some_iff.1 n).1
    rw[<- l,List.getElem?_take_of_lt J,Array.getElem?_toList] at n;rw[Addr.add_lit,Nat.zero_add];simp only[World.cell?,hh,n];rfl
   ·obtain⟨p,hp⟩:=List.getElem?_of_mem n;have z:p<es.length*b:=by rw[<- m];exact (List.getElem?_eq_some_iff.1 hp).1
    have h1:p / b<es.length:=(Nat.div_lt_iff_lt_mul hsz).2 z;have G:es[p / b].length=b:=k _ (List.getElem_mem h1);have H:p % b<es[p / b].length:=by rw[G];exact Nat.mod_lt _ hsz
    have:=hrep (p / b) _ (p % b) _ (List.getElem?_eq_getElem h1) (List.getElem?_eq_getElem H);have F:p / b*b+p % b=p:=by
     have:=Nat.div_add_mod p b;rw[Nat.mul_comm] at this;omega
    rw[F,List.getD_eq_getElem?_getD,hp] at this;exact this.one
theorem Z62 {t ty e:TypeId} {i:TypeInfo} {z:Value} {sz bytes dst id:Nat} (ht:P.underlying t=some (.slice e)) (hi:P.info? e=some i) (hz:i.zero=some z) (W:i.size=sz) (hby:i.bytes=bytes)
  (hzs:z.cells.size=sz) (hsz:0<sz) {s1:St} (hm:Mod cx s1 φ h tmps w) (hd:dst<cx.N) (hid:cx.bs<=id) (T:s1.clean id=true) {fz:Bool} {v:Value} {es ys:List (List D)} (hob:ObR cx.own φ h w v (.arr fz sz e es))
  (C: ∀ i b,(lk s1.ob i).isSome->blk (h i)=some b->blk v≠some b) (hnk: ∀ b,blk v=some b-> ¬ (cx.kp b).isSome)
  {y:Value} (hy: ∃ news:List Value,((y=.slice none 0 0/\ys.length=0)\/ ∃ a c,y=.slice (some a) ys.length c/\ ∀ j u,news[j]? = some u->w.cell? (a.add j)=some u)/\news.length=ys.length*sz ∧
   (∀ u∈news,u.oneCell'=true)/\ ∀ i x j d,ys[i]? = some x->x[j]? = some d->Rep φ (news.getD (i*sz+j) Go.undef) d) (Y: ∀ q∈ys,q.length=sz) (h63:es.length+ys.length<=maxLen) (L:(es.length+ys.length)*bytes<=140737488355328) :
  ∃ J w' φ',(Builtin.append_ #[t,t] ty #[v,y]).run P w=.ok J w'/\Mod cx (s1.add dst id (.vec id) (some (.arr fz sz e (es++ys)))) φ' (updH h id J) (tmps.setIfInBounds dst J) w':=by
 obtain⟨_,N,xs,Q,hrep,p⟩:=hob;obtain⟨news,hya,hnl,hone,U⟩:=hy;obtain⟨J,w',R,f,V,S⟩:=Z2q (P:=P) t ty e i z sz bytes ht hi hz W hby hzs hsz v es.length xs Q y ys.length news hya hnl hone h63 L;have E: ∀ q∈es++ys,q.length=sz:=λq hq=>(List.mem_append.1 hq).elim (N q) (Y q);have G:w'.ownsRow 0 e sz J (es++ys).length (xs++news):=by rw[List.length_append];exact f
 have X:xs.length=es.length*sz:=Q.1;have B: ∀ g,blk J=some g-> ∀ j u,(xs++news)[j]? = some u->w'.cell? ⟨g,j,none⟩=some u:=λg M j u l=>by
  have hg':J.ownBlock=some g:=by
   rcases f.2 with⟨rfl,_⟩|⟨g2,c2,cur2,rfl,_⟩
   ·cases M
   ·cases M;rfl
  have:=f.cells hg' j u l;rwa [Addr.add_lit,Nat.zero_add] at this
 have H:=Z7H (es:=es) (ys:=ys) (xs:=xs) (news:=news) X N hrep U;rcases S with⟨A,hos,I,O,hhs,hk⟩|⟨A,hbel⟩
 ·-- in place
  have n:Sub φ w':=λb o u l=>by
   by_cases m:blk v=some b
   ·have:=(p b m).2 o;rw[l] at this;split at this
    ·rename_i hc;refine B b (by rw[A];exact m) o u ?_;rw[List.getElem?_append_left (by rw[X];exact hc.2)];exact this.symm
    ·cases this
   ·rw[World.cell?_of_block (w:=w) (a:=⟨b,o,none⟩) (hk b m)];exact hm.mem b o u l
  have hm':Mod cx s1 φ h tmps w':=by
   cases hv:blk v with
   |none =>
    refine⟨hm.size,hm.tm,n,hm.ext,hm.new,λi o ho=>?_,hm.sep,hos.trans hm.os,I.trans hm.tape,O.trans hm.output,by rw[hhs];exact hm.grow,hm.one,λb h1 h2=>?_,hm.hfix,λb o A=>⟨by rw[hk b (by rw[hv];simp)];exact (hm.kept b o A).1,(hm.kept b o A).2⟩⟩
    ·exact (hm.ob i o ho).keep (λ_ A=>A) (λb _=>hk b (by rw[hv];simp)) (λ_ _ _ h=>h) (λ_ _ _=>rfl) (λ_ _ _ r=>r)
    ·rw[hk b (by rw[hv];simp)];exact hm.frame b h1 h2
   |some g=>exact hm.world (p g hv).1 (λi hi e'=>C i g hi e' hv) (hnk g hv) hos I O hhs (λk hkg=>hk k (by rw[hv];simp;omega)) n
  have F: ∀ b o u,φ b o=some u->(if fz then Z3z φ (blk J) (xs++news) else φ) b o=some u:=by
   intro b o u l;cases fz
   ·exact l
   ·simp only[if_true,Z3z];split
    ·rename_i M
     have:=(p b (by rw[<- A];exact M)).2 o;rw[l] at this;split at this
     ·rename_i hc;rw[List.getElem?_append_left (by rw[X];exact hc.2)];exact this.symm
     ·cases this
    ·exact l
  refine⟨J,w',if fz then Z3z φ (blk J) (xs++news) else φ,R,hm'.arr hd hid T V ?_ F ?_ ?_ (λi b h1 h2=>by rw[A];exact C i b h1 h2) (λb m=>hnk b (by rw[<- A];exact m))⟩
  ·refine⟨hsz,E,xs++news,G,λi x j d h1 h2=>(H i x j d h1 h2).mono F,λb m=>⟨(p b (by rw[<- A];exact m)).1,λo=>?_⟩⟩;cases fz
   ·simp only[Bool.false_eq_true,false_and,if_false]
    have:=(p b (by rw[<- A];exact m)).2 o;simpa using this
   ·simp only[if_true,m,Z3z,true_and];split
    ·rfl
    ·rename_i hnlt;exact List.getElem?_eq_none (by rw[G.1];omega)
  ·intro b o u l;cases fz
   ·exact n b o u l
   ·simp only[if_true,Z3z] at l;split at l
    ·rename_i M;exact B b M o u l
    ·exact n b o u l
  ·intro b o u l hn;cases fz
   ·simp only[Bool.false_eq_true,if_false] at l;rw[hn] at l;cases l
   ·simp only[if_true,Z3z] at l;split at l
    ·rename_i M;exact M
    ·rw[hn] at l;cases l
 ·-- a new block
  rcases f.2 with⟨rfl,_⟩|⟨g,cap,cur,rfl,_⟩
  ·cases A
  ·simp only[blk,Option.some.injEq] at A;have hst:=AStep.arr (h:=h) (dst:=id) hm.mem (w':=w') hbel (fz:=fz) (sz:=sz) (e:=e) (es:=es++ys) (g:=g) (cap:=cap) (xs:=xs++news) (by omega) hsz E (by rw[List.length_append];exact f) H
   have:=hm.astep hst hd hid (λ_ _ _ h=>St.clean_tm T h) (λ_ _ _ h=>St.clean_ob T h) (λ_=>rfl);rw[List.length_append] at this;exact⟨_,w',_,R,this⟩
end
end Go.Sx
