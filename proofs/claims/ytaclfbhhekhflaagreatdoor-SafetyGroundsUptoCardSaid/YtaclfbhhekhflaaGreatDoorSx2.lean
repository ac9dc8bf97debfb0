/- Own work: a layer over the kit: plain data,a walk over it,its soundness. -/
import Derived.MapKept
import Derived.Maps.RangeRun
import Derived.Test.YtaclfbhhekhflaaGreatDoorSx1
set_option linter.all false
namespace Go.Sx
open Go.RowKit
variable [Globs] [Codes]
section
variable {P:Program} {o:Oper} {ρ:Operand->Value} {w:World} {φ:Mem} {h:Nat->Value} {dst:Nat} {K:D->Option Ob->Prop} {obs:Nat->Option Ob}
theorem RV.func_inv {f:Fn} {a c:List D} {v:Value} (r:RV φ h v (.func f a c)): ∃ va vc:Array Value,v=.func f va vc:=by
 cases r with
 |pure r=>cases r
 |func _ vf vc _ _ hf hc h1 h2=>exact⟨vf,vc,rfl⟩
theorem RV.yld_inv {i:Nat} {v:Value} (r:RV φ h v (.yld i)): ∃ b,v=.func (.yield b) #[] #[]:=by
 cases r with
 |pure r=>cases r
 |yld _ b _=>exact⟨b,rfl⟩
theorem RV.nilf_inv {v:Value} (r:RV φ h v .nilf):v=.nilFunc:=by cases r with|pure r=>cases r;rfl
theorem RV.nilp_inv {v:Value} (r:RV φ h v .nilp):v=.pointer none:=by cases r with|pure r=>cases r;rfl
theorem RV.ifc_inv {v:Value} (r:RV φ h v .ifc): ∃ t x,v=.iface t x:=by cases r with|pure r=>cases r with|ifc t x=>exact⟨t,x,rfl⟩
theorem RV.raw_inv {u v:Value} (r:RV φ h v (.raw u)):v=u:=by cases r with|pure r=>cases r;rfl
theorem ZjC {x:Operand} (k:o.op=.nilCheck x) (l:Sub φ w) {ds:List D} (hr:RVL φ h [ρ x] ds) (g:evl P dst .nilck ds obs K):OpOut P o ρ w (APost φ h w dst K):=by
 match ds,hr,g with
 |[d],hr,g =>
  obtain⟨m,hk⟩:=g;refine OpOut.same l (v:=ρ x) ?_ hk hr.1;have e:=hr.1;cases d with
  |ptr i off=>obtain⟨b,_,hv⟩:=e.ptr_inv;simp[execOp,k,hv]
  |fptr cs=>obtain⟨b,off,_,hv,_⟩:=e.fptr_inv;simp[execOp,k,hv]
  |vptr i a j sz=>obtain⟨b,_,_,_,_,hv⟩:=e.vptr_inv;simp[execOp,k,hv]
  |yld i=>obtain⟨b,hv⟩:=e.yld_inv;simp[execOp,k,hv]
  |func f a c =>
   cases f with
   |func f=>obtain⟨va,vc,hv⟩:=e.func_inv;simp[execOp,k,hv]
   |_=>simp[D.nn] at m
  |_=>simp[D.nn] at m
def Z42 (P:Program):List Field->Nat->Option (List Nat)
 |[],_=>some []
 |f :: r,i =>if f.name ≠ "_" /\ f.offset = i then (match P.underlying f.type,Z42 P r (i + 1) with
  |some .bool,some ks=>some (0::ks)
  |some (.int _),some ks=>some (2::ks)
  |some .string,some ks=>some (1::ks)
  |_,_=>none) else none
theorem Z9j {t:TypeId} {cs:Array Value} {off:Nat} {v:Value} (ha:aggB P t=some false) (hv:cs[off]? = some v):(part t cs off).run P w=.ok v w:=by
 unfold part;simp only[Sem.run_bind,Z12 ha,Result.andThen_ok,Bool.false_eq_true,if_false,hv];rfl
theorem ZdH {ks:List Nat} {cs ds:List D} {r:Bool} (h:Zz (0::ks) cs ds=some r): ∃ a b cs' e x,cs=.bool a::cs'/\ds=.bool b::e/\Zz ks cs' e=some x/\r=((a == b) && x):=by
 cases cs with
 |nil=>cases ds<;>simp[Zz] at h
 |cons c cs =>
  cases ds with
  |nil=>cases c<;>simp[Zz] at h
  |cons d ds =>
   cases c<;>cases d<;>simp only[Zz,reduceCtorEq] at h;rename_i a b;cases hx:Zz ks cs ds with
   |none=>rw[hx] at h;cases h
   |some x=>rw[hx] at h;exact⟨a,b,cs,ds,x,rfl,rfl,hx,(Option.some.inj h).symm⟩
theorem ZdG {ks:List Nat} {cs ds:List D} {r:Bool} (h:Zz (1::ks) cs ds=some r): ∃ a b cs' e x,cs=.str a::cs'/\ds=.str b::e/\Zz ks cs' e=some x/\r=(decide (a=b) && x):=by
 cases cs with
 |nil=>cases ds<;>simp[Zz] at h
 |cons c cs =>
  cases ds with
  |nil=>cases c<;>simp[Zz] at h
  |cons d ds =>
   cases c<;>cases d<;>simp only[Zz,reduceCtorEq] at h;rename_i a b;cases hx:Zz ks cs ds with
   |none=>rw[hx] at h;cases h
   |some x=>rw[hx] at h;exact⟨a,b,cs,ds,x,rfl,rfl,hx,(Option.some.inj h).symm⟩
theorem ZdF {ks:List Nat} {cs ds:List D} {r:Bool} (h:Zz (2::ks) cs ds=some r): ∃ k a b cs' e x,cs=.int k a::cs'/\ds=.int k b::e/\Zz ks cs' e=some x/\r=(decide (a=b) && x):=by
 cases cs with
 |nil=>cases ds<;>simp[Zz] at h
 |cons c cs =>
  cases ds with
  |nil=>cases c<;>simp[Zz] at h
  |cons d ds =>
   cases c<;>cases d<;>simp only[Zz,reduceCtorEq] at h;rename_i k a f b;by_cases hk:k=f
   ·subst hk;rw[if_pos rfl] at h;cases hx:Zz ks cs ds with
    |none=>rw[hx] at h;cases h
    |some x=>rw[hx] at h;exact⟨k,a,b,cs,ds,x,rfl,rfl,hx,(Option.some.inj h).symm⟩
   ·grind
theorem Z34 {φ:Mem} {h:Nat->Value} (n:Nat) {xs ys:Array Value}: ∀ (fs:List Field) (i:Nat) (ks:List Nat) (cs ds:List D) (r:Bool),Z42 P fs i=some ks->Zz ks cs ds=some r →
  (∀ j d,cs[j]? = some d-> ∃ v,xs[i+j]? = some v/\RV φ h v d)->(∀ j d,ds[j]? = some d-> ∃ v,ys[i+j]? = some v/\RV φ h v d)->(Op.eqFields (n+1) xs ys fs).run P w=.ok r w
 |[],i,ks,cs,ds,r,hf,y,_,_=>by
  simp only[Z42,Option.some.injEq] at hf;subst hf;cases cs<;>cases ds<;>simp[Zz] at y;subst y;rfl
 |f::fs,i,ks,cs,ds,r,hf,y,hx,C=>by
  simp only[Z42] at hf;split at hf
  ·rename_i F;obtain⟨h1,h2⟩:=F;have key: ∀ (c d:D) (cs' e:List D) (m:List Nat) (v u:Value) (q E:Bool),cs=c::cs'->ds=d::e->xs[i]? = some v->ys[i]? = some u->aggB P f.type=some false->Z42 P fs (i+1)=some m->(Op.equalIn (n+1) f.type v u).run P w=.ok q w->Zz m cs' e=some E->r=(q && E)->(Op.eqFields (n+1) xs ys (f::fs)).run P w=.ok r w:=by
    intro c d cs' e m v u q E hc B hv x ha hk N H G;subst hc B;have g: ∀ j d,cs'[j]? = some d-> ∃ v,xs[i+1+j]? = some v/\RV φ h v d:=λj d B=>by
     have:=hx (j+1) d (by simpa using B);rwa [show i+(j+1)=i+1+j by omega] at this
    have I: ∀ j d,e[j]? = some d-> ∃ v,ys[i+1+j]? = some v/\RV φ h v d:=λj d B=>by
     have:=C (j+1) d (by simpa using B);rwa [show i+(j+1)=i+1+j by omega] at this
    simp only[Op.eqFields,h1,ne_eq,not_false_eq_true,if_true,Sem.run_bind,h2,Z9j ha hv,Z9j ha x,Result.andThen_ok,N];rw[G];cases q with
    |false=>rfl
    |true =>
     simp only[Bool.not_true,Bool.false_eq_true,if_false,Bool.true_and];exact Z34 n fs (i+1) m cs' e E hk H g I
   have first: ∀ {l:List D} {zs:Array Value} (J: ∀ j d,l[j]? = some d-> ∃ v,zs[i+j]? = some v/\RV φ h v d) {c:D} {L:List D},l=c::L-> ∃ v,zs[i]? = some v/\RV φ h v c:=λ{l zs} J {c L} hl=>by
    subst hl;exact J 0 c rfl
   split at hf
   ·rename_i m hh hk;cases hf;obtain⟨a,b,cs',e,M,rfl,rfl,g,rfl⟩:=ZdH y;obtain⟨v,hv,t⟩:=first hx rfl
    obtain⟨u,x,p⟩:=first C rfl
    have z:=t.bool_inv;have A:=p.bool_inv;subst z;subst A;exact key _ _ _ _ _ _ _ _ _ rfl rfl hv x (by unfold aggB;rw[hh]) hk (run_equalIn_bool' w n f.type _ _ hh) g rfl
   ·rename_i O m hh hk;cases hf;obtain⟨k,a,b,cs',e,M,rfl,rfl,g,rfl⟩:=ZdF y;obtain⟨v,hv,t⟩:=first hx rfl
    obtain⟨u,x,p⟩:=first C rfl
    have z:=t.int_inv;have A:=p.int_inv;subst z;subst A;refine key _ _ _ _ _ _ _ _ _ rfl rfl hv x (by unfold aggB;rw[hh]) hk (run_equalIn_int w n f.type _ _ _ _ hh) g ?_;rw[Z60]
   ·rename_i m hh hk;cases hf;obtain⟨a,b,cs',e,M,rfl,rfl,g,rfl⟩:=ZdG y;obtain⟨v,hv,t⟩:=first hx rfl
    obtain⟨u,x,p⟩:=first C rfl
    have z:=t.str_inv;have A:=p.str_inv;subst z;subst A;refine key _ _ _ _ _ _ _ _ _ rfl rfl hv x (by unfold aggB;rw[hh]) hk (run_equalIn_string w n f.type _ _ hh) g ?_;rw[Z4n,ByteArray.toList_eq,ByteArray.toList_eq]
   ·cases hf
  ·cases hf
theorem Zp2 {neg:Bool} {t H:TypeId} {x y:Operand} {fs:Array Field} {ks:List Nat} (B:o.op=.binOp (if neg then .neq else .eql) t x y H) (C:P.underlying t=some (.struct fs)) (hk:Z42 P fs.toList 0=some ks)
  (hs:P.stoodInHeld t=false) (A:P.eqGuardType P.depth t=false) (i:Sub φ w) {ds:List D} (hr:RVL φ h [ρ x,ρ y] ds) (c:evl P dst (.eqs neg ks) ds obs K):OpOut P o ρ w (APost φ h w dst K):=by
 match ds,hr,c with
 |[.agg a,.agg b],hr,c =>
  simp only[evl] at c;split at c
  ·rename_i r E;obtain⟨xs,hx,p,n⟩:=hr.1.agg_inv;obtain⟨ys,k,u,q⟩:=hr.2.1.agg_inv;have get: ∀ {zs:Array Value} {l:List D},zs.size=l.length->(∀ j d,l[j]? = some d->RV φ h (zs.getD j Go.undef) d)-> ∀ j d,l[j]? = some d-> ∃ v,zs[0+j]? = some v/\RV φ h v d:=λ{zs l} G hl j d z=>by
    have F:j<zs.size:=by rw[G];exact (List.getElem?_eq_some_iff.1 z).1
    refine⟨zs.getD j Go.undef,?_,hl j d z⟩;rw[Nat.zero_add];simp[Array.getD,F]
   have g:P.fieldsOf t=fs:=by unfold Program.fieldsOf;rw[C]
   have e:(Op.equalIn 10000 t (.agg xs) (.agg ys)).run P w=.ok r w:=by
    rw[run_equalIn_struct w 9999 t xs ys (by rw[g];exact C) hs,g];exact Z34 (φ:=φ) (h:=h) 9998 fs.toList 0 ks a b r hk E (get p n) (get u q)
   cases neg with
   |false =>
    refine OpOut.same i (v:=.bool r) ?_ c (Qn _);have m:(binOp .eql t (ρ x) (ρ y)).run P w=.ok (.bool r) w:=by rw[hx,k,run_eql_struct,e];rfl
    have f:(eqGuard .eql t x y (ρ x) (ρ y)).run P w=.ok () w:=by rw[hx,k];exact run_eqGuard_agg w .eql t x y xs ys A
    simp[execOp,B,f,m]
   |true =>
    refine OpOut.same i (v:=.bool (!r)) ?_ c (Qn _);have m:(binOp .neq t (ρ x) (ρ y)).run P w=.ok (.bool (!r)) w:=by rw[hx,k,run_neq_struct,e];rfl
    have f:(eqGuard .neq t x y (ρ x) (ρ y)).run P w=.ok () w:=by rw[hx,k];exact run_eqGuard_agg w .neq t x y xs ys A
    simp[execOp,B,f,m]
  ·exact c.elim
theorem Zhv {fz:Bool} {sz:Nat} {e:TypeId} {x:Operand} (c:o.op=.move x\/o.op=.assign x) (f:Sub φ w) {ds:List D} (hr:RVL φ h [ρ x] ds) (a:evl P dst (.nilv fz sz e) ds obs K):OpOut P o ρ w (APost φ h w dst K):=by
 match ds,hr,a with
 |[.nils],hr,a =>
  obtain⟨k,hk⟩:=a;have hv:=hr.1.nils_inv;refine .inl ⟨.slice none 0 0,w,?_,_,_,φ,.slice none 0 0,hk,?_⟩
  ·rcases c with c|c<;>simp[execOp,c,hv]
  ·refine⟨Below.refl _ _,λ_ _ _ hx=>hx,f,λb o u h1 h2=>by rw[h2] at h1;(cases h1),?_,λo c=>?_⟩
   ·have:updH h dst (.slice none 0 0) dst=.slice none 0 0:=Zr ..;show RV φ (updH h dst (.slice none 0 0)) (.slice none 0 0) (.vec dst);have r:=RV.vec (φ:=φ) (h:=updH h dst (.slice none 0 0)) dst (by rw[this];rfl);rw[this] at r;exact r
   ·cases c;exact⟨k,λx hx=>(by cases hx),[],⟨by simp,.inl ⟨rfl,rfl⟩⟩,λi x j d hx=>(by simp at hx),λb g=>by simp[blk] at g⟩
theorem ZoZ {f:Fn} {first caps:Array Operand} (k:o.op=.makeFunc f first caps) (e:Sub φ w) {ds:List D} (hr:RVL φ h ((first.toList++caps.toList).map ρ) ds) (c:evl P dst (.mkfn f first.size) ds obs K):OpOut P o ρ w (APost φ h w dst K):=by
 have b:=hr.length;simp only[List.length_map,List.length_append,Array.length_toList] at b;obtain⟨i,hk⟩:first.size<=ds.length/\K (.func f (ds.take first.size) (ds.drop first.size)) none:=c;refine OpOut.same e (v:=.func f (first.map ρ) (caps.map ρ)) (by simp[execOp,k,Instr.makeFunc]) hk (.func _ _ _ _ _ (by simp;omega) (by simp;omega) (λj d a=>?_) (λj d a=>?_))
 ·rw[List.getElem?_take] at a;split at a
  ·rename_i g
   have:=hr.get j d a;simp only[List.getD,List.map_append] at this;rw[List.getElem?_append_left (by simpa using g)] at this;simpa [Array.getD_eq_getD_getElem?] using this
  ·cases a
 ·rw[List.getElem?_drop] at a
  have:=hr.get _ d a;simp only[List.getD,List.map_append] at this;rw[List.getElem?_append_right (by simp)] at this;simpa [Array.getD_eq_getD_getElem?] using this
def kdOf (P:Program) (t:TypeId):Option Nat:=match P.underlying t with
 |some (.interface _)=>some 0
 |some (.func ..)=>some 1
 |some (.pointer _)=>some 2
 |some (.slice _)=>some 3
 |_=>none
theorem Zd8 {t:TypeId} (h:kdOf P t=some 0): ∃ a,P.underlying t=some (.interface a):=by grind [kdOf]
theorem Zd7 {t:TypeId} (h:kdOf P t=some 1): ∃ p q r,P.underlying t=some (.func p q r):=by grind [kdOf]
theorem Zd6 {t:TypeId} (h:kdOf P t=some 2): ∃ e,P.underlying t=some (.pointer e):=by grind [kdOf]
theorem Zd5 {t:TypeId} (h:kdOf P t=some 3): ∃ e,P.underlying t=some (.slice e):=by grind [kdOf]
theorem Z6Z {t:TypeId} {kd:Nat} (f:kdOf P t=some kd) {a b:D} {r:Bool} (d:eqD kd a b=some r) {x y:Value} (hx:RV φ h x a) (g:RV φ h y b):(Op.equal t x y).run P w=.ok r w:=by
 have k: ∀ n:Nat,(Op.equalIn (n+1) t x y).run P w=.ok r w:=λn=>by
  unfold eqD at d;split at d<;>simp only[Option.some.injEq,reduceCtorEq] at d
  ·obtain⟨i,c⟩:=Zd8 f;subst d;obtain⟨tt,l,rfl⟩:=hx.ifc_inv;rw[g.raw_inv];simp[Op.equalIn,run_underlying c]
  ·obtain⟨i,c⟩:=Zd8 f;subst d;obtain⟨tt,l,rfl⟩:=g.ifc_inv;rw[hx.raw_inv];simp[Op.equalIn,run_underlying c]
  ·obtain⟨i,c⟩:=Zd8 f;subst d;rw[hx.raw_inv,g.raw_inv];simp[Op.equalIn,run_underlying c]
  ·obtain⟨p,q,j,c⟩:=Zd7 f;subst d;obtain⟨va,vc,rfl⟩:=hx.func_inv;rw[g.nilf_inv];simp[Op.equalIn,run_underlying c]
  ·obtain⟨p,q,j,c⟩:=Zd7 f;subst d;obtain⟨va,rfl⟩:=hx.yld_inv;rw[g.nilf_inv];simp[Op.equalIn,run_underlying c]
  ·obtain⟨p,q,j,c⟩:=Zd7 f;subst d;rw[hx.nilf_inv,g.nilf_inv];simp[Op.equalIn,run_underlying c]
  ·obtain⟨e,c⟩:=Zd6 f;subst d;obtain⟨b,_,rfl⟩:=hx.ptr_inv;rw[g.nilp_inv];simp[Op.equalIn,run_underlying c]
  ·obtain⟨e,c⟩:=Zd6 f;subst d;obtain⟨b,off,_,rfl,_⟩:=hx.fptr_inv;rw[g.nilp_inv];simp[Op.equalIn,run_underlying c]
  ·obtain⟨e,c⟩:=Zd6 f;subst d;rw[hx.nilp_inv,g.nilp_inv];simp[Op.equalIn,run_underlying c]
  ·obtain⟨e,c⟩:=Zd5 f;subst d;rcases hx.slice_inv.slice_inv with⟨_,h0,_⟩|⟨b,off,cap,sz,vals,rfl,_⟩
   ·cases h0
   ·rw[g.nils_inv];simp[Op.equalIn,run_underlying c]
  ·obtain⟨e,c⟩:=Zd5 f;subst d;rw[hx.nils_inv,g.nils_inv];simp[Op.equalIn,run_underlying c]
 exact k 9999
def cst:Operand->Bool
 |.const _=>true
 |_=>false
theorem Z47 {op:BinOp} {t:TypeId} {x y:Operand} {a b:Value} (hc:cst x ||cst y) (c: ∀ vs,a≠ .agg vs):(eqGuard op t x y a b).run P w=.ok () w:=by
 cases op;all_goals first
  |rfl
  |(
   unfold eqGuard;simp only[Bool.not_true,Bool.false_eq_true,if_false];split
   ·cases x<;>cases y<;>first|rfl|exact absurd hc (by simp only[cst,Bool.or_self,Bool.false_eq_true,not_false_eq_true])
   ·grind
   ·rfl)
theorem ZtW {op:BinOp} {t u:TypeId} {kd:Nat} {x y:Operand} (m:o.op=.binOp op t x y u) (q:kdOf P t=some kd) (hc:cst x ||cst y) (g:Sub φ w) {ds:List D} (hr:RVL φ h [ρ x,ρ y] ds)
  (d:evl P dst (.eqn op kd) ds obs K):OpOut P o ρ w (APost φ h w dst K):=by
 match ds,hr,d with
 |[a,b],hr,d =>
  simp only[evl] at d;split at d
  ·rename_i r i;have heq:=Z6Z (P:=P) (w:=w) q i hr.1 hr.2.1;have hx:=hr.1;have e:(∃ j v,ρ x=.iface j v)\/ρ x=.nilIface\/(∃ f a c,ρ x=.func f a c)\/ρ x=.nilFunc\/(∃ p,ρ x=.pointer p)\/(∃ a n c,ρ x=.slice a n c):=by
    unfold eqD at i;split at i
    ·exact .inl (by obtain⟨tt,v,h⟩:=hx.ifc_inv;exact⟨tt,v,h⟩)
    ·exact .inr (.inl hx.raw_inv)
    ·exact .inr (.inl hx.raw_inv)
    ·exact .inr (.inr (.inl (by obtain⟨va,vc,h⟩:=hx.func_inv;exact⟨_,va,vc,h⟩)))
    ·exact .inr (.inr (.inl (by obtain⟨b,h⟩:=hx.yld_inv;exact⟨_,_,_,h⟩)))
    ·exact .inr (.inr (.inr (.inl hx.nilf_inv)))
    ·exact .inr (.inr (.inr (.inr (.inl (by obtain⟨b,_,h⟩:=hx.ptr_inv;exact⟨_,h⟩)))))
    ·exact .inr (.inr (.inr (.inr (.inl (by obtain⟨b,off,_,h,_⟩:=hx.fptr_inv;exact⟨_,h⟩)))))
    ·exact .inr (.inr (.inr (.inr (.inl ⟨_,hx.nilp_inv⟩))))
    ·exact .inr (.inr (.inr (.inr (.inr (by
      rcases hx.slice_inv.slice_inv with⟨⟨a,c,h,_⟩,_⟩|⟨b,off,cap,sz,vals,h,_⟩
      ·exact⟨_,_,_,h⟩
      ·exact⟨_,_,_,h⟩)))))
    ·exact .inr (.inr (.inr (.inr (.inr ⟨_,_,_,hx.nils_inv⟩))))
    ·cases i
   have l:(eqGuard op t x y (ρ x) (ρ y)).run P w=.ok () w:=Z47 hc (by rcases e with⟨j,v,h⟩|h|⟨f,a,c,h⟩|h|⟨p,h⟩|⟨a,n,c,h⟩<;>rw[h]<;>simp);by_cases h1:op=.eql
   ·subst h1;simp only[if_true] at d;refine OpOut.same g (v:=.bool r) ?_ d (Qn _);have k:(binOp .eql t (ρ x) (ρ y)).run P w=.ok (.bool r) w:=by
     rcases e with⟨j,v,h⟩|h|⟨f,a,c,h⟩|h|⟨p,h⟩|⟨a,n,c,h⟩<;>rw[h] at heq ⊢<;>simp[binOp,heq]
    simp[execOp,m,l,k]
   ·by_cases h2:op=.neq
    ·subst h2;simp only[if_neg h1,if_true] at d;refine OpOut.same g (v:=.bool (!r)) ?_ d (Qn _);have k:(binOp .neq t (ρ x) (ρ y)).run P w=.ok (.bool (!r)) w:=by
      rcases e with⟨j,v,h⟩|h|⟨f,a,c,h⟩|h|⟨p,h⟩|⟨a,n,c,h⟩<;>rw[h] at heq ⊢<;>simp[binOp,heq]
     simp[execOp,m,l,k]
    ·rw[if_neg h1,if_neg h2] at d;exact d.elim
  ·exact d.elim
theorem Z44 {t e:TypeId} {x y:Operand} {b off len sz:Nat} {k:IntKind} {i:Int} (a:o.op=.indexAddr t x y) (c:P.underlying t=some (.array len e)) (hs:szT P e=some sz)
  (hx:ρ x=.pointer (some ⟨b,off,none⟩)) (d:ρ y=.int k i) (h0:0<=i) (h1:i<len):(execOp ρ o).run P w=.ok (.value (.pointer (some ⟨b,off+i.toNat*sz,none⟩))) w:=by
 simp[execOp,a,hx,d,Instr.indexAt,run_underlying c,asIntOf,Instr.sureAddr,h0,h1,ZS hs,Addr.add_lit]
theorem ZfJ {t e:TypeId} {x y:Operand} {len sz:Nat} (d:o.op=.indexAddr t x y) (f:P.underlying t=some (.array len e)) (hs:szT P e=some sz) (c:Sub φ w) {ds:List D} (hr:RVL φ h [ρ x,ρ y] ds)
  (a:evl P dst (.iaddrA len sz) ds obs K):OpOut P o ρ w (APost φ h w dst K):=by
 match ds,hr,a with
 |[.fptr cs,.int k i],hr,a =>
  obtain⟨h0,h1,hk⟩:=a;obtain⟨b,off,vals,hx,hm,hrep⟩:=hr.1.fptr_inv;refine OpOut.same c (Z44 d f hs hx hr.2.1.int_inv h0 h1) hk (.fptr b (off+i.toNat*sz) (cs.drop (i.toNat*sz)) (λj=>vals (i.toNat*sz+j)) ?_ ?_)
  ·grind
  ·grind
 |[.ptr id off,.int k i],hr,a =>
  obtain⟨h0,h1,hk⟩:=a;obtain⟨b,hh,hx⟩:=hr.1.ptr_inv;exact OpOut.same c (Z44 d f hs hx hr.2.1.int_inv h0 h1) hk (.ptr id (off+i.toNat*sz) b hh)
theorem ZcT {big:Bool} {k:IntKind}: ∀ (vs:List Value) (ds:List D) (a r:Int),RVL φ h vs ds->mmI big k a ds=some r->(vs.foldlM (if big then Builtin.max2 else Builtin.min2) (.int k a)).run P w=.ok (.int k r) w
 |[],[],a,r,_,c=>by simp[mmI] at c;subst c;rfl
 |v::vs,.int d b::ds,a,r,hr,c=>by
  simp only[mmI] at c;split at c
  ·rename_i hk;subst hk;rw[hr.1.int_inv,List.foldlM_cons,Sem.run_bind];cases big
   ·simp only[Bool.false_eq_true,if_false] at c ⊢;have:(Builtin.min2 (.int d a) (.int d b)).run P w=.ok (.int d (if b<a then b else a)) w:=rfl;rw[this,Result.andThen_ok];exact ZcT (big:=false) vs ds _ r hr.2 c
   ·simp only[if_true] at c ⊢;have:(Builtin.max2 (.int d a) (.int d b)).run P w=.ok (.int d (if b > a then b else a)) w:=rfl;rw[this,Result.andThen_ok];exact ZcT (big:=true) vs ds _ r hr.2 c
  ·cases c
 |[],_::_,_,_,hr,_=>hr.elim
 |_::_,[],_,_,hr,_=>hr.elim
theorem s_mm {big:Bool} {args:Array Operand} {ts:Array TypeId} (g:o.op=.call {callee:=.builtin (if big then .max else .min),args,argTypes:=ts}) (f:Sub φ w) {ds:List D} (hr:RVL φ h (args.toList.map ρ) ds)
  (d:evl P dst (.mm big) ds obs K):OpOut P o ρ w (APost φ h w dst K):=by
 match ds,d with
 |.int k a::ds,d =>
  simp only[evl] at d;split at d
  ·rename_i r hm;cases hl:args.toList with
   |nil=>rw[hl] at hr;exact hr.elim
   |cons x xs =>
    rw[hl] at hr;have h1:=hr.1.int_inv;refine OpOut.same f (v:=.int k r) (Qp (b:=if big then .max else .min) (args:=args) (ts:=ts) g ?_) d (Z04 _ _);have c:=ZcT (P:=P) (w:=w) (xs.map ρ) ds a r hr.2 hm;have e:(args.map ρ).toList=.int k a::xs.map ρ:=by rw[Array.toList_map,hl,List.map_cons,h1]
    cases big
    ·simp only[Bool.false_eq_true,if_false] at c ⊢;simp only[builtin,Builtin.min_,e,Sem.run_bind,c,Result.andThen_ok];rfl
    ·simp only[if_true] at c ⊢;simp only[builtin,Builtin.max_,e,Sem.run_bind,c,Result.andThen_ok];rfl
  ·exact d.elim
theorem Z4o {w w':World} (h:w.grownBy w' none):Below w.heap.size w w':=⟨h.os,h.tape,h.output,h.size,λk hk=>h.block k hk (by simp)⟩
theorem ZtU {t c:TypeId} {l:Operand} {fz:Bool} {sz:Nat} {z:List D} {i:TypeInfo} (O:o.op=.makeSlice t l l) (Q:P.underlying t=some (.slice c)) (R:Z0r P c=some z) (hi:P.info? c=some i) (hs:i.size=sz) (hsz:0<sz) (H:Sub φ w)
  {ds:List D} (hr:RVL φ h [ρ l] ds) (e:evl P dst (.mks fz sz c (z.map unnil) i.bytes) ds obs K):OpOut P o ρ w (APost φ h w dst K):=by
 match ds,hr,e with
 |[.int k n],hr,e =>
  obtain⟨u,h0,L,S,hk⟩:=e;obtain⟨T,a,A,G,F,rfl⟩:=Qw R;obtain rfl:=Option.some.inj (hi.symm.trans A);have hv:=hr.1.int_inv;have f:a.cells.size=sz:=by rw[F,hs]
  have y:i.bytes*n.toNat<=281474976710656:=by
   have:((i.bytes*n.toNat:Nat):Int)<=281474976710656:=by
    rw[Int.natCast_mul,Int.toNat_of_nonneg h0,Int.mul_comm];exact L
   omega
  obtain⟨w',b,r,N⟩:=run_make_full (P:=P) w 0 t c i a sz Q hi G hs k k n.toNat y (by unfold maxLen;omega) (Nat.zero_le _);rw[Int.toNat_of_nonneg h0] at b;have m: ∀ x∈List.replicate n.toNat ((a.cells.toList.map Qd).map Sx.unnil),x.length=sz:=λx hx=>by
   grind
  have hc:CR φ h a.cells ((a.cells.toList.map Qd).map Sx.unnil):=(CR.const _).unnil;refine .inl ⟨.slice (some ⟨w.heap.size,0,none⟩) n.toNat n.toNat,w',?_,_,_,if fz then Z13 φ w.heap.size (madeCells a.cells (n.toNat*sz)).toList else φ,.slice (some ⟨w.heap.size,0,none⟩) n.toNat n.toNat,hk,?_⟩
  ·simp[execOp,O,hv,b]
  ·have:=AStep.arr (dst:=dst) (fz:=fz) (h:=h) (es:=List.replicate n.toNat ((a.cells.toList.map Qd).map Sx.unnil)) H (Z4o N) (Nat.le_refl _) hsz m (by rw[List.length_replicate];exact r) (λq x j d hx B=>by
    obtain⟨I,v⟩:=List.getElem?_eq_some_iff.1 hx;rw[List.getElem_replicate] at v;rw[List.length_replicate] at I;subst v;have C:=(List.getElem?_eq_some_iff.1 B).1;have g:j<sz:=by simpa [f] using C
    have E:q*sz+j<n.toNat*sz:=by
     have:(q+1)*sz<=n.toNat*sz:=Nat.mul_le_mul_right _ I;rw[Nat.add_mul,Nat.one_mul] at this;omega
    have p:(q*sz+j) % sz=j:=by rw[Nat.mul_comm,Nat.mul_add_mod,Nat.mod_eq_of_lt g]
    have J:(madeCells a.cells (n.toNat*sz)).toList.getD (q*sz+j) Go.undef=a.cells.getD j Go.undef:=by
     unfold madeCells;simp only[List.getD,Array.getElem?_toList,Array.getElem?_map,Array.getElem?_range,E,if_true,Option.map_some,Option.getD_some];rw[f,p];simp[Array.getD,f,g]
    rw[J];have M:=List.all_eq_true.1 u d (List.mem_of_getElem? B);exact (hc.2 j d B).pur_rep M)
   rw[List.length_replicate] at this;exact this
theorem ZtV {t c:TypeId} {l:Operand} {f:IntKind} {fz:Bool} {sz:Nat} {z:List D} {i:TypeInfo} (A:o.op=.makeSlice t (.const (.int f 0)) l) (r:ρ (.const (.int f 0))=.int f 0) (C:P.underlying t=some (.slice c)) (E:Z0r P c=some z) (hi:P.info? c=some i) (hs:i.size=sz) (hsz:0<sz) (u:Sub φ w)
  {ds:List D} (hr:RVL φ h [ρ l] ds) (b:evl P dst (.mke fz sz c i.bytes) ds obs K):OpOut P o ρ w (APost φ h w dst K):=by
 match ds,hr,b with
 |[.int k n],hr,b =>
  obtain⟨h0,v,H,hk⟩:=b;obtain⟨I,F,m,p,B,rfl⟩:=Qw E;obtain rfl:=Option.some.inj (hi.symm.trans m);have hv:=hr.1.int_inv;have g:i.bytes*n.toNat<=281474976710656:=by
   have:((i.bytes*n.toNat:Nat):Int)<=281474976710656:=by
    rw[Int.natCast_mul,Int.toNat_of_nonneg h0,Int.mul_comm];exact v
   omega
  obtain⟨w',a,e,y⟩:=run_make_own (P:=P) w 0 t c i F sz C hi p hs f k n.toNat g (by unfold maxLen;omega) (Nat.zero_le _);rw[Int.toNat_of_nonneg h0] at a;refine .inl ⟨.slice (some ⟨w.heap.size,0,none⟩) 0 n.toNat,w',?_,_,_,if fz then Z13 φ w.heap.size [] else φ,.slice (some ⟨w.heap.size,0,none⟩) 0 n.toNat,hk,?_⟩
  ·simp[execOp,A,hv,r,a]
  ·exact AStep.arr (dst:=dst) (fz:=fz) (h:=h) (es:=[]) u (Z4o y) (Nat.le_refl _) hsz (λx hx=>by cases hx) e (λq x j d hx G=>by simp at hx)
theorem ZtY {s d e:TypeId} {x:Operand} (G:o.op=.convert s d x) (hs:P.underlying s=some (.slice e)) (F:P.underlying e=some (.int .u8)) (E:P.underlying d=some .string) (z:Sub φ w)
  (v: ∀ i ob,obs i=some ob->live (h i)=true-> ∃ own,ObR own φ h w (h i) ob) {ds:List D} (hr:RVL φ h [ρ x] ds) (l:evl P dst .b2s ds obs K):OpOut P o ρ w (APost φ h w dst K):=by
 match ds,hr,l with
 |[dd],hr,l =>
  simp only[evl] at l;split at l
  ·rename_i es f;obtain⟨B,hk⟩:=l;have key: ∀ (a:Option Addr) (c:Nat),ρ x=.slice a es.length c->(a=none->es=[])->(∀ b,a=some b-> ∀ j (t:j<(Qv es).length),w.cell? (b.add j)=some (.int .u8 ((Qv es)[j].toNat:Int))) →
     (execOp ρ o).run P w=.ok (.value (.string ⟨(Qv es).toArray⟩)) w:=by
    intro a c hx S hc;have m:es.length=(Qv es).length:=by simp[Qv]
    cases a with
    |none =>
     have h0:=S rfl;subst h0;have:(convert s d (.slice none 0 c)).run P w=.ok (.string ⟨(Qv []).toArray⟩) w:=by
      rw[run_convert_bytes_string w s d e none 0 c hs F E];rfl
     simp only[List.length_nil] at hx;simp[execOp,G,hx,this]
    |some b =>
     rw[m] at hx
     have:=run_convert_bytes_back (P:=P) w s d e b c (Qv es) hs F E (hc b rfl);simp[execOp,G,hx,this]
   have k: ∀ (j:Nat) (t:j<(Qv es).length),es[j]? = some [.int .u8 ((Qv es)[j].toNat:Int)]:=λj t=>by
    have h1:(byC (Qv es))[j]? = some [.int .u8 ((Qv es)[j].toNat:Int)]:=by
     unfold byC;rw[List.getElem?_map,List.getElem?_eq_getElem t];rfl
    rw[<- B] at h1;exact h1
   refine OpOut.same z ?_ hk (Z6w _);cases dd with
   |slice p ext =>
    simp only[Z2H,Option.some.injEq] at f;subst f;rcases hr.1.slice_inv.slice_inv with⟨⟨a,c,hx,O⟩,h0,_⟩|⟨b,off,cap,sz,vals,hx,hcap,hsz,hmem,hrep⟩
    ·grind
    ·refine key _ cap hx (λh=>by cases h) (λI q j t=>?_);cases q;have hc:=k j t;have h1:(p++ext)[j]? = some [.int .u8 ((Qv p)[j].toNat:Int)]:=by
      grind
     have n:sz=1:=by have:=hsz _ (List.mem_of_getElem? h1);simpa using this.symm
     subst n;have h2:=hmem j _ 0 _ h1 rfl;have A:=RV.int_inv (RV.pure (h:=h) (hrep j _ 0 _ h1 rfl));rw[A] at h2;have L:=z _ _ _ h2;rw[Addr.add_lit];simpa using L
   |nils =>
    simp only[Z2H,Option.some.injEq] at f;subst f;exact key none 0 hr.1.nils_inv (λ_=>rfl) (λb Q=>by cases Q)
   |vec id =>
    simp only[Z2H] at f;split at f
    ·rename_i fz sz J p C;cases f;obtain⟨own,u⟩:=v id _ C hr.1.vec_live;obtain⟨H,m,xs,⟨T,y⟩,hrep,_⟩:=u;have hx:=hr.1.vec_inv;rcases y with⟨hv,h0⟩|⟨g,cap,cur,hv,_,r,_,_,_,U⟩
     ·grind
     ·refine key _ cap (hx.trans hv) (λh=>by cases h) (λI q j t=>?_);cases q;have hc:=k j t;have R:=(List.getElem?_eq_some_iff.1 hc).1;have n:sz=1:=by have:=m _ (List.mem_of_getElem? hc);simpa using this.symm
      subst n;have h1:=hrep j _ 0 _ hc rfl;have A:=RV.int_inv (RV.pure (h:=h) h1);rw[Addr.add_lit,Nat.zero_add,cell_of_row w g j cur J _ r];have M:xs[j]? = cur[j]? :=by
       grind
      rw[<- M];have N:xs[j]? = some (xs.getD j Go.undef):=by
       grind
      rw[N];simp only[Nat.mul_one,Nat.add_zero] at A;rw[A]
    ·cases f
   |_=>simp[Z2H] at f
  ·exact l.elim
theorem RV.map_inv {i:Nat} {v:Value} (r:RV φ h v (.map i)):v=h i/\live (h i)=true:=by
 cases r with
 |pure r=>cases r
 |map _ hl=>exact⟨rfl,hl⟩
def kdT:Option IntKind->TypeDesc
 |some k=>.int k
 |none=>.string
theorem Z5D {kd:Option IntKind} {key:D} {a:Value} (hk:isKD kd key=true) (hr:RV φ h a key):MapKept.IsKey (kdT kd) a:=by
 unfold isKD at hk;split at hk
 ·rw[hr.int_inv];have b:=of_decide_eq_true hk;exact b
 ·rw[hr.str_inv];exact trivial
 ·cases hk
theorem Z9b {kd:Option IntKind} {key k:D} {d:Value} {r:Bool} (hk:isKD kd key=true) (hr:RV φ h d key) (c:keqD key k=some r):Instr.sameNow (kdT kd) d (keyV k)=some r:=by
 unfold isKD at hk;split at hk
 ·rw[hr.int_inv];unfold keqD at c;split at c
  ·rename_i h1;cases h1;simp only[keyV,kdT,Instr.sameNow];split at c
   ·grind
   ·cases c
  ·grind
  ·cases c
 ·rw[hr.str_inv];unfold keqD at c;split at c
  ·grind
  ·rename_i a b h1;cases h1;simp only[keyV,kdT,Instr.sameNow];rw[<- c];congr 1;exact Bool.eq_iff_iff.2 (by rw[MapKept.bytes_beq];simp[ByteArray.mk.injEq])
  ·cases c
 ·cases hk
theorem Z5K {kd:Option IntKind} {key:D} {l:Value} (hk:isKD kd key=true) (hr:RV φ h l key): ∀ (es:List MapEntry) (ks ds:List D) (i:Nat) (r:Option D),es.map MapEntry.key=ks.map keyV->RVL φ h (es.map MapEntry.val) ds->Z2K key ks ds=some r →
  (r=none/\Instr.findNow (kdT kd) l es i=some none)\/ ∃ d j v,r=some d/\Instr.findNow (kdT kd) l es i=some (some (j,v))/\RV φ h v d
 |[],[],[],i,r,_,_,hf=>.inl ⟨by cases hf;rfl,rfl⟩
 |[],[],_::_,i,r,_,a,_=>a.elim
 |[],_::_,_,i,r,h1,_,_=>by cases h1
 |_::_,[],_,i,r,h1,_,_=>by cases h1
 |_::_,_::_,[],i,r,_,a,_=>a.elim
 |e::es,k::ks,d::ds,i,r,h1,a,hf=>by
  simp only[List.map_cons,List.cons.injEq] at h1;simp only[Z2K] at hf;cases g:keqD key k with
  |none=>rw[g] at hf;cases hf
  |some b =>
   rw[g] at hf;have hs:=Z9b (k:=k) hk hr g;rw[<- h1.1] at hs;cases b with
   |true =>
    simp only[Option.some.injEq] at hf;exact .inr ⟨d,i,e.val,hf.symm,by simp only[Instr.findNow,hs],a.1⟩
   |false =>
    rcases Z5K hk hr es ks ds (i+1) r h1.2 a.2 hf with⟨c,f⟩|⟨m,j,v,c,f,n⟩
    ·exact .inl ⟨c,by simp only[Instr.findNow,hs];exact f⟩
    ·exact .inr ⟨m,j,v,c,by simp only[Instr.findNow,hs];exact f,n⟩
theorem Zc7 {t:TypeId} (f:o.op=.makeMap t none) (a:Sub φ w) (b:evl P dst .mkmap [] obs K):OpOut P o ρ w (APost φ h w dst K):=by
 refine .inl ⟨.map (some w.heap.size),w.alloc (.map #[] 0),?_,_,_,φ,.map (some w.heap.size),b,(Below.refl _ w).alloc (Nat.le_refl _) _,λ_ _ _ h=>h,a.alloc _,λ_ _ _ h h'=>(by rw[h] at h';cases h'),?_,λob e=>?_⟩
 ·simp[execOp,f,run_makeMap]
 ·have:=Zr h dst (.map (some w.heap.size));simp only[hx];have c:RV φ (updH h dst (.map (some w.heap.size))) (updH h dst (.map (some w.heap.size)) dst) (.map dst):=.map dst (by rw[this];rfl);rw[this] at c;exact c
 ·cases e;refine⟨w.heap.size,[],.map #[] 0,rfl,Nat.le_refl _,heap_alloc_new w _,⟨⟨_,rfl⟩,#[],0,rfl,rfl,rfl,by simp,by simp⟩,rfl,by simp,λoff=>?_⟩;cases d:φ w.heap.size off with
  |none=>rfl
  |some v=>exact absurd (a.lt d) (by omega)
def Ziy:Value->D
 |.agg ⟨[]⟩=>.agg []
 |v=>Qd v
theorem Zca (φ:Mem) (h:Nat->Value) (v:Value):RV φ h v (Ziy v):=by
 unfold Ziy;split
 ·exact .agg _ _ rfl λj d a=>by simp at a
 ·exact Z2g φ h v
def Zap (P:Program) (t:TypeId):Option D:=match P.info? t with
 |some i=>match i.zero with
  |some z=>some (Ziy z)
  |none=>none
 |none=>none
def keyK (P:Program) (t:TypeId):Option (Option IntKind):=match P.underlying t with
 |some (.int k)=>some (some k)
 |some .string=>some none
 |_=>none
theorem Z81 {t:TypeId} {kd:Option IntKind} (hk:keyK P t=some kd):P.underlying t=some (kdT kd):=by grind [keyK,kdT]
theorem ZfI {t:TypeId} (f:o.op=.makeMap t none) (a:Sub φ w) (b:evl P dst .mkmapC [] obs K):OpOut P o ρ w (APost φ h w dst K):=by
 refine .inl ⟨.map (some w.heap.size),w.alloc (.map #[] 0),?_,_,_,φ,.map (some w.heap.size),b,(Below.refl _ w).alloc (Nat.le_refl _) _,λ_ _ _ h=>h,a.alloc _,λ_ _ _ h h'=>(by rw[h] at h';cases h'),?_,λob e=>?_⟩
 ·simp[execOp,f,run_makeMap]
 ·have:=Zr h dst (.map (some w.heap.size));simp only[hx];have c:RV φ (updH h dst (.map (some w.heap.size))) (updH h dst (.map (some w.heap.size)) dst) (.map dst):=.map dst (by rw[this];rfl);rw[this] at c;exact c
 ·cases e;refine⟨w.heap.size,[],.map #[] 0,rfl,Nat.le_refl _,heap_alloc_new w _,⟨rfl,rfl,⟨_,rfl⟩,#[],0,rfl,rfl,rfl,by simp,by simp⟩,rfl,by simp,λoff=>?_⟩;cases d:φ w.heap.size off with
  |none=>rfl
  |some v=>exact absurd (a.lt d) (by omega)
theorem Zhk {d:D} (a:Z1H d=true):RV φ h (valV d) d:=by
 unfold Z1H at a;split at a
 ·exact Z04 _ _
 ·exact Z6w _
 ·exact Qn _
 ·exact .agg _ _ rfl (λj d b=>by simp at b)
 ·cases a
theorem Zcb {d:D} {v:Value} (a:Z1H d=true) (hr:RV φ h v d):v=valV d:=by
 unfold Z1H at a;split at a
 ·exact hr.int_inv
 ·exact hr.str_inv
 ·exact hr.bool_inv
 ·obtain⟨vs,rfl,hs,_⟩:=hr.agg_inv;have:vs=#[]:=Array.eq_empty_of_size_eq_zero (by simpa using hs);subst this;rfl
 ·cases a
theorem ZbD {own:Nat->Prop} {hv:Value} {ks cs:List D} (g:ObR own φ h w hv (.gen (.mapC ks cs) [])):ObR own φ h w hv (.gen (.map ks) cs):=by
 obtain⟨b,vals,q,hblk,f,a,⟨rfl,e,n,es,clock,rfl,h1,h2,l,m⟩,k,p,c⟩:=g;refine⟨b,cs.map valV,_,hblk,f,a,⟨n,es,clock,rfl,h1,h2,l,m⟩,by simp,λj d i=>?_,c⟩;have:(cs.map valV).getD j Go.undef=valV d:=by simp[List.getD,i]
 rw[this];exact Zhk (List.all_eq_true.1 e d (List.mem_of_getElem? i))
theorem Zu6 {own:Nat->Prop} {hv:Value} {ks cs:List D} (a:cs.all Z1H=true) (i:ObR own φ h w hv (.gen (.map ks) cs)):ObR own φ h w hv (.gen (.mapC ks cs) []):=by
 obtain⟨b,vals,t,hblk,f,c,⟨p,es,clock,rfl,h1,h2,m,n⟩,l,k,e⟩:=i;refine⟨b,[],_,hblk,f,c,⟨rfl,a,p,es,clock,rfl,h1,?_,m,n⟩,rfl,λj d q=>by simp at q,e⟩;rw[h2];refine List.ext_getElem? λj=>?_;rw[List.getElem?_map];cases g:cs[j]? with
 |none =>
  grind
 |some d =>
  have r:=(List.getElem?_eq_some_iff.1 g).1;have hr:=k j d g;rw[List.getD_eq_getElem?_getD,List.getElem?_eq_getElem (by omega)] at hr;rw[List.getElem?_eq_getElem (by omega)];exact congrArg some (Zcb (List.all_eq_true.1 a d (List.mem_of_getElem? g)) hr)
theorem Z5c (a: ∀ i ob,obs i=some ob->live (h i)=true-> ∃ own,ObR own φ h w (h i) ob) {id:Nat} {ob:Ob} (c:unpk (obs id)=some ob) (hl:live (h id)=true): ∃ own,ObR own φ h w (h id) ob:=by
 unfold unpk at c;split at c
 ·rename_i ks cs d;cases c;obtain⟨own,b⟩:=a id _ d hl;exact⟨own,ZbD b⟩
 ·grind
theorem ZjD {t N J:TypeId} {m k:Operand} {kd:Option IntKind} {z:D} (L:o.op=.lookup t m k false) (M:P.underlying t=some (.map N J)) (A:keyK P N=some kd) (n:Zap P J=some z) (x:Sub φ w)
  (u: ∀ i ob,obs i=some ob->live (h i)=true-> ∃ own,ObR own φ h w (h i) ob) {ds:List D} (hr:RVL φ h [ρ m,ρ k] ds) (a:evl P dst (.mlook kd z) ds obs K):OpOut P o ρ w (APost φ h w dst K):=by
 match ds,hr,a with
 |[.map id,key],hr,a =>
  simp only[evl] at a;obtain⟨hv,hl⟩:=hr.1.map_inv;cases C:obs id with
  |none=>rw[C] at a;exact a.elim
  |some ob =>
  rw[C] at a;cases ob with
  |cells=>exact a.elim
  |arr=>exact a.elim
  |gen g f =>
  cases g with
  |loop=>exact a.elim
  |mapC=>exact a.elim
  |mapB=>exact a.elim
  |mapS=>exact a.elim
  |iter=>exact a.elim
  |map ks =>
  obtain⟨p,a⟩:=a;obtain⟨own,B⟩:=u id _ C hl;obtain⟨b,vals,S,hblk,_,c,⟨⟨R,l⟩,es,clock,rfl,h1,h2,_,_⟩,q,F,_⟩:=B;rw[l] at hblk;cases hblk;cases hm:Z2K key ks f with
  |none=>rw[hm] at a;exact a.elim
  |some r =>
  rw[hm] at a;have E:RVL φ h (es.toList.map MapEntry.val) f:=ZG _ _ (by rw[h2,q]) (λj d Q=>by rw[h2];exact F j d Q);have G:=Z81 A;have y:=Z5D p hr.2.1;have hc:=λe=>MapKept.run_checkKey (w:=w) G y e 9999;rcases Z5K p hr.2.1 es.toList ks f 0 r h1 E hm with⟨rfl,hf⟩|⟨d,j,v,rfl,hf,H⟩
  ·unfold Zap at n;split at n
   ·rename_i i hi;split at n
    ·rename_i O I;cases n;refine OpOut.same x (v:=O) ?_ a (Zca φ h O);simp[execOp,L,hv,l,Instr.lookup,run_underlying M,MapKept.run_getObj_map c,hc,MapKept.run_findKey G hf,zeroValue,typeInfo,hi,I,Result.andThen]
    ·cases n
   ·cases n
  ·refine OpOut.same x (v:=v) ?_ a H;simp[execOp,L,hv,l,Instr.lookup,run_underlying M,MapKept.run_getObj_map c,hc,MapKept.run_findKey G hf,Result.andThen]
theorem Z6v {k:Ext} {ds:List D} (b:Sub φ w) (c: ∀ d,extD k ds obs=some d-> ∃ v,(execOp ρ o).run P w=.ok (.value v) w/\RV φ h v d) (a:evl P dst (.ext k) ds obs K):OpOut P o ρ w (APost φ h w dst K):=by grind [OpOut.same,extD,evl]
theorem Zgw {t y r:TypeId} {x:Operand} (n:o.op=.call {callee:=.builtin .len,args:=#[x],argTypes:=#[t]}) (p:P.underlying t=some (.map y r))
  (e: ∀ i ob,obs i=some ob->live (h i)=true-> ∃ own,ObR own φ h w (h i) ob) {ds:List D} (hr:RVL φ h [ρ x] ds) {d:D} (f:extD .lenm ds obs=some d): ∃ v,(execOp ρ o).run P w=.ok (.value v) w/\RV φ h v d:=by
 match ds,hr,f with
 |[.map id],hr,f =>
  obtain⟨hv,hl⟩:=hr.1.map_inv;simp only[extD] at f;split at f
  ·rename_i ks j l;cases f;obtain⟨own,b,vals,A,hblk,_,a,⟨⟨q,c⟩,es,clock,rfl,h1,h2,_,_⟩,g,m,_⟩:=Z5c e l hl;rw[c] at hblk;cases hblk;have k:es.size=ks.length:=by
    have:=congrArg List.length h1;simpa using this
   refine⟨.int .i64 es.size,Qp n ?_,by rw[k];exact Z04 _ _⟩;simp[builtin,hv,c,Builtin.len_,run_underlying p,MapKept.run_getObj_map a,Result.andThen,goInt]
  ·rename_i ks z j l;cases f;obtain⟨own,b,vals,A,hblk,_,a,⟨u,hp,_,_,⟨q,c⟩,es,clock,rfl,h1,h2,_,_⟩,g,m,_⟩:=Z5c e l hl;rw[c] at hblk;cases hblk;have k:es.size=ks.length:=by
    have:=congrArg List.length h1;rw[<- hp.length_eq];simpa using this
   refine⟨.int .i64 es.size,Qp n ?_,by rw[k];exact Z04 _ _⟩;simp[builtin,hv,c,Builtin.len_,run_underlying p,MapKept.run_getObj_map a,Result.andThen,goInt]
  ·cases f
theorem Zp7 {k:D} (hk:kOK k=true):RV φ h (keyV k) k:=by
 cases k<;>first|(exact Z04 _ _)|(exact Z6w _)|cases hk
theorem Zdw {x:Operand} (ho:o.op=.entry x)
  (p: ∀ i ob,obs i=some ob->live (h i)=true-> ∃ own,ObR own φ h w (h i) ob) {ds:List D} (hr:RVL φ h [ρ x] ds) {d:D} (c:extD .entry ds obs=some d): ∃ v,(execOp ρ o).run P w=.ok (.value v) w/\RV φ h v d:=by
 match ds,hr,c with
 |[.ptr id 0],hr,c =>
  simp only[extD] at c;split at c
  ·rename_i bs ix cl E hq;split at c
   ·rename_i ks W g t N;split at c
    ·rename_i hc;obtain⟨rfl,rfl⟩:=hc;split at c
     ·rename_i i hi;split at c
      ·rename_i k dd hk u;split at c
       ·rename_i H;cases c;obtain⟨V,hh,hx⟩:=hr.1.ptr_inv;obtain⟨own,b,vals,oo,hblk,_,f,⟨⟨b',Y⟩,R,rfl,rfl,hix⟩,S,O,_⟩:=p id _ hq (by rw[hh];rfl);rw[hh] at hblk;cases hblk;obtain⟨L,J⟩:=(O 0 _ rfl).map_inv;have B:h E=.map (some R):=by simpa using L.symm
        obtain⟨U,b2,Q,oo2,e,_,m,⟨rfl,q,_,es,rfl,h1,h2,X,M,hlt⟩,I,T,_⟩:=p E _ N J;rw[B] at e;cases e;have hlk:es.size=ks.length:=by
         have:=congrArg List.length h1;simpa using this
        have y:i<es.size:=by
         grind
        have A:keyV k=es[i].key:=by
         have:=congrArg (λl=>l[i]?) h1;simp only[List.getElem?_map,hk,Option.map_some] at this;have F:es.toList[i]? = some es[i]:=by simp[y]
         rw[F] at this;simpa using this.symm
        have C:valV dd=es[i].val:=by
         have:=congrArg (λl=>l[i]?) h2;simp only[List.getElem?_map,u,Option.map_some] at this;have F:es.toList[i]? = some es[i]:=by simp[y]
         rw[F] at this;simpa using this.symm
        have G:g.getD i 0=es[i].born:=by
         grind
        obtain⟨n,rfl⟩: ∃ n,ix=n++[i]:=by
         rcases List.eq_nil_or_concat ix with h0|⟨l,a,h0⟩
         ·subst h0;cases hi
         ·grind
        have r:((n++[i]).map λi=>g.getD i 0).toArray=((n.map λi=>g.getD i 0).toArray).push es[i].born:=by
         grind
        rw[r] at f;refine⟨.tuple #[es[i].key,es[i].val],?_,.tuple _ _ rfl λj d' z=>?_⟩
        ·have:=run_entry_at (P:=P) w V R t _ es t es[i] f m (by simp) (by rw[show (es.toList.map λx=>x.born)=g from X];exact M);simp[execOp,ho,hx,this]
        ·match j,z with
         |0,z=>cases z;rw[<- A];exact Zp7 H
         |1,z=>cases z;rw[<- C];exact Zhk (List.all_eq_true.1 q _ (List.mem_of_getElem? u))
       ·cases c
      ·cases c
     ·cases c
    ·cases c
   ·cases c
  ·cases c
theorem Zdv {t J G:TypeId} {m k:Operand} {kd:Option IntKind} {z:D} (H:o.op=.lookup t m k true) (I:P.underlying t=some (.map J G)) (y:keyK P J=some kd) (l:Zap P G=some z)
  (u: ∀ i ob,obs i=some ob->live (h i)=true-> ∃ own,ObR own φ h w (h i) ob) {ds:List D} (hr:RVL φ h [ρ m,ρ k] ds) {d:D} (f:extD (.look2 kd z) ds obs=some d): ∃ v,(execOp ρ o).run P w=.ok (.value v) w/\RV φ h v d:=by
 match ds,hr,f with
 |[.map id,key],hr,f =>
  obtain⟨hv,hl⟩:=hr.1.map_inv;simp only[extD] at f;split at f
  ·rename_i ks n O;split at f
   ·rename_i p;split at f
    ·rename_i r hm;cases f;obtain⟨own,b,vals,R,hblk,_,a,⟨⟨Q,g⟩,es,clock,rfl,h1,h2,_,_⟩,q,B,_⟩:=Z5c u O hl;rw[g] at hblk;cases hblk;have A:RVL φ h (es.toList.map MapEntry.val) n:=ZG _ _ (by rw[h2,q]) (λj d N=>by rw[h2];exact B j d N);have C:=Z81 y;have x:=Z5D p hr.2.1;have hc:=λe=>MapKept.run_checkKey (w:=w) C x e 9999;rcases Z5K p hr.2.1 es.toList ks n 0 r h1 A hm with⟨rfl,hf⟩|⟨d,j,v,rfl,hf,E⟩
     ·unfold Zap at l;split at l
      ·rename_i i hi;split at l
       ·rename_i L F;cases l;refine⟨.tuple #[L,.bool false],?_,.tuple _ _ rfl λj M c=>?_⟩
        ·simp[execOp,H,hv,g,Instr.lookup,run_underlying I,MapKept.run_getObj_map a,hc,MapKept.run_findKey C hf,zeroValue,typeInfo,hi,F,Result.andThen]
        ·match j,c with
         |0,c=>cases c;exact Zca φ h L
         |1,c=>cases c;exact Qn _
       ·cases l
      ·cases l
     ·refine⟨.tuple #[v,.bool true],?_,.tuple _ _ rfl λj M c=>?_⟩
      ·simp[execOp,H,hv,g,Instr.lookup,run_underlying I,MapKept.run_getObj_map a,hc,MapKept.run_findKey C hf,Result.andThen]
      ·match j,c with
       |0,c=>cases c;exact E
       |1,c=>cases c;exact Qn _
    ·cases f
   ·cases f
  ·cases f
theorem Zfl {hh:Nat->Value} {d:D} {v u:Value} (h:valA d=some v) (hr:RV φ hh u d):u=v:=by
 unfold valA at h;split at h
 ·rename_i cs;split at h
  ·rename_i a;cases h;obtain⟨vs,rfl,hs,hc⟩:=hr.agg_inv;congr 1;refine Array.ext (by simpa using hs) λi h1 h2=>?_;have hi:i<cs.length:=by simpa using h2
   have b:cs[i]? = some cs[i]:=List.getElem?_eq_getElem hi;have hv:=Zcb (List.all_eq_true.1 a _ (List.getElem_mem hi)) (hc i _ b);rw[Array.getD_eq_getD_getElem?,Array.getElem?_eq_getElem h1,Option.getD_some] at hv;rw[hv];simp
  ·cases h
 ·split at h
  ·rename_i c;cases h;exact Zcb c hr
  ·cases h
theorem Zcc {hh:Nat->Value} (v:Value):RV φ hh v (datC v):=by
 unfold datC;split
 ·exact Qn _
 ·exact Z04 _ _
 ·exact Z6w _
 ·exact .undef _
theorem Zcd {hh:Nat->Value} (v:Value):RV φ hh v (datA v):=by
 unfold datA;split
 ·rename_i vs;refine .agg _ _ (by simp) λj d a=>?_;rw[List.getElem?_map] at a;cases b:vs.toList[j]? with
  |none=>rw[b] at a;cases a
  |some u =>
   rw[b] at a;cases a;have:vs.getD j Go.undef=u:=by
    simp_all
   rw[this];exact Zcc u
 ·exact Zcc v
theorem Zgv {t:TypeId} {x:Operand} (b:o.op=.makeInterface t x) (c: ∃ u,P.underlying t=some u/\ ∀ e,u≠ .interface e) {ds:List D} (hr:RVL φ h [ρ x] ds) {d:D} (a:extD (.mkif t) ds obs=some d): ∃ v,(execOp ρ o).run P w=.ok (.value v) w/\RV φ h v d:=by
 match ds,hr,a with
 |[f],hr,a =>
  simp only[extD] at a;split at a
  ·rename_i v hv;cases a;obtain⟨u,h1,h2⟩:=c;have hx:=Zfl hv hr.1;refine⟨.iface t v,?_,.pure (.raw _ rfl)⟩;simp only[execOp,b,Instr.makeInterface,hx,Sem.run_bind,run_underlying h1,Result.andThen_ok];cases u<;>first|exact absurd rfl (h2 _)|rfl
  ·cases a
theorem Zlo {t:TypeId} {x:Operand} {sz:Nat} (q:o.op=.load t x) (ha:aggB P t=some true) (hs:szT P t=some sz) {own:Nat->Prop}
  (l: ∀ i ob,obs i=some ob->live (h i)=true->ObR own φ h w (h i) ob) {ds:List D} (hr:RVL φ h [ρ x] ds) {d:D} (a:extD (.ldn sz) ds obs=some d): ∃ v,(execOp ρ o).run P w=.ok (.value v) w/\RV φ h v d:=by
 match ds,hr,a with
 |[.ptr id off],hr,a =>
  obtain⟨b,hh,hx⟩:=hr.1.ptr_inv;simp only[extD] at a;split at a
  ·rename_i cs n;obtain⟨y,vals,e,k,_,f,g,u,_⟩:=l id _ n (by rw[hh];rfl);rw[hh] at k;cases k;have c: ∀ j,j<cs.length->w.cell? ⟨b,j,none⟩=some (vals.getD j Go.undef):=λj p=>by
    rw[cell_of_row w b j vals e _ f];simp[Array.getD_eq_getD_getElem?,g,p]
   split at a
   ·rename_i r;cases a;simp only[Bool.and_eq_true,decide_eq_true_eq] at r;refine⟨_,QS q hx ha hs (λj=>vals.getD (off+j) Go.undef) (λj p=>c _ (by omega)),Z6x (by simp;omega) ?_⟩;intro j d m;rw[List.getElem?_take] at m;split at m
    ·grind
    ·cases m
   ·cases a
  ·cases a
def Zix (P:Program) (t:TypeId):Option D:=match P.info? t with
 |some i=>match i.zero with
  |some z=>some (datA z)
  |none=>none
 |none=>none
theorem Zln {t xt:TypeId} {x:Operand} {z:D} (l:o.op=.typeAssert x xt t true) (q: ∃ u,P.underlying t=some u/\ ∀ r,u≠ .interface r) (g:Zix P t=some z) {ds:List D} (hr:RVL φ h [ρ x] ds) {d:D} (b:extD (.tas t z) ds obs=some d): ∃ v,(execOp ρ o).run P w=.ok (.value v) w/\RV φ h v d:=by
 match ds,hr,b with
 |[.raw v],hr,b =>
  simp only[extD] at b;obtain⟨u,h1,h2⟩:=q;have hx:ρ x=v:=hr.1.raw_inv;have f: ∃ c,(zeroValue t).run P w=.ok c w/\z=datA c:=by
   unfold Zix at g;split at g
   ·rename_i i hi;split at g
    ·rename_i c m;cases g;exact⟨c,by simp[zeroValue,typeInfo,hi,m,Result.andThen],rfl⟩
    ·cases g
   ·cases g
  obtain⟨c,k,rfl⟩:=f;have hf:RV φ h (.tuple #[c,.bool false]) (.tuple [datA c,.bool false]):=.tuple _ _ rfl λj p a=>by
   match j,a with
   |0,a=>cases a;exact Zcd c
   |1,a=>cases a;exact Qn _
  split at b
  ·cases b;refine⟨_,?_,hf⟩;simp only[execOp,l,Instr.typeAssert,hx,Sem.run_bind,run_underlying h1,Result.andThen_ok];cases u<;>first|exact absurd rfl (h2 _)|simp[k,Result.andThen]
  ·rename_i y n;split at b
   ·rename_i e;cases b;refine⟨.tuple #[n,.bool true],?_,.tuple _ _ rfl λj p a=>?_⟩
    ·simp only[execOp,l,Instr.typeAssert,hx,Sem.run_bind,run_underlying h1,Result.andThen_ok];cases u<;>first|exact absurd rfl (h2 _)|simp[e,Result.andThen]
    ·match j,a with
     |0,a=>cases a;exact Zcd n
     |1,a=>cases a;exact Qn _
   ·rename_i e;cases b;refine⟨_,?_,hf⟩;simp only[execOp,l,Instr.typeAssert,hx,Sem.run_bind,run_underlying h1,Result.andThen_ok];cases u<;>first|exact absurd rfl (h2 _)|simp[e,k,Result.andThen]
  ·cases b
theorem ZdB {t:TypeId} (f:kdOf P t=some 3) {a:Addr} {n c:Nat} {y:Value} (i:y=.slice none 0 0):(Op.equal t (.slice (some a) n c) y).run P w=.ok false w:=by
 have d: ∀ b:Nat,(Op.equalIn (b+1) t (.slice (some a) n c) y).run P w=.ok false w:=λb=>by
  obtain⟨e,g⟩:=Zd5 f;rw[i];simp[Op.equalIn,run_underlying g]
 exact d 9999
theorem Z9T {op:BinOp} {neg:Bool} (j:op=(if neg=true then .neq else .eql)) {t F:TypeId} {x y:Operand} (A:o.op=.binOp op t x y F) (B:kdOf P t=some 3) (hc:cst x ||cst y)
  (l: ∀ i ob,obs i=some ob->live (h i)=true-> ∃ own,ObR own φ h w (h i) ob) {ds:List D} (hr:RVL φ h [ρ x,ρ y] ds) {d:D} (k:extD (.eqs3 neg) ds obs=some d): ∃ v,(execOp ρ o).run P w=.ok (.value v) w/\RV φ h v d:=by
 match ds,hr,k with
 |[a,b],hr,k =>
  simp only[extD] at k;have key: ∀ r:Bool,(∃ q n c,ρ x=.slice q n c)->(Op.equal t (ρ x) (ρ y)).run P w=.ok r w->d=.bool (ngB neg r)-> ∃ v,(execOp ρ o).run P w=.ok (.value v) w/\RV φ h v d:=λr ⟨q,n,c,hx⟩ heq C=>by
   rw[C];have z:(eqGuard op t x y (ρ x) (ρ y)).run P w=.ok () w:=Z47 hc (by rw[hx];simp);refine⟨_,?_,Qn _⟩;cases neg with
   |true =>
    simp only[if_true] at j;subst j;have p:(binOp .neq t (ρ x) (ρ y)).run P w=.ok (.bool (!r)) w:=by rw[hx] at heq ⊢;simp[binOp,heq]
    simp[execOp,A,z,p,ngB]
   |false =>
    simp only[Bool.false_eq_true,if_false] at j;subst j;have p:(binOp .eql t (ρ x) (ρ y)).run P w=.ok (.bool r) w:=by rw[hx] at heq ⊢;simp[binOp,heq]
    simp[execOp,A,z,p,ngB]
  split at k
  ·rename_i r f;cases k;split at f
   ·rename_i id;split at f
    ·rename_i fz sz e q es E;split at f
     ·cases f;have hv:=hr.1.vec_inv;have hl:live (h id)=true:=by
       have h0:=hr.1;generalize ρ x=vv at h0;cases h0 with
       |pure r=>cases r
       |vec _ hl=>exact hl
      obtain⟨own,_,_,xs,m,_⟩:=l id _ E hl;rcases m.2 with⟨_,h0⟩|⟨g,cap,cur,u,_⟩
      ·cases h0
      ·have hx:ρ x=.slice (some ⟨g,0,none⟩) (q::es).length cap:=hv.trans u;exact key false ⟨_,_,_,hx⟩ (by rw[hx];exact ZdB B hr.2.1.nils_inv) rfl
     ·cases f
    ·cases f
   ·rename_i G _;have heq:=Z6Z (P:=P) (w:=w) B f hr.1 hr.2.1;refine key r ?_ heq rfl;unfold eqD at f;split at f<;>try (simp at *;done)
    ·rcases hr.1.slice_inv.slice_inv with⟨⟨a,c,h,_⟩,_⟩|⟨b,off,cap,sz,vals,h,_⟩
     ·grind
     ·grind
    ·exact⟨_,_,_,hr.1.nils_inv⟩
  ·cases k
end
end Go.Sx
namespace Go.Sx
open Go.RowKit
variable [Globs] [Codes]
def St.clean (i:Nat) (s:St):Bool:=s.tm.all (λp=>!(D.men i p.2)) && s.ob.all λp=>!(Ob.men i p.2)
theorem St.clean_tm {i:Nat} {s:St} (h:s.clean i=true) {t:Nat} {d:D} (hl:lk s.tm t=some d):D.men i d=false:=by
 simp only[St.clean,Bool.and_eq_true] at h;have h1:=h.1;clear h;generalize s.tm=l at *
 induction l with
 |nil=>simp[lk] at hl
 |cons p l b =>
  obtain⟨j,a⟩:=p;simp only[List.all_cons,Bool.and_eq_true,Bool.not_eq_true'] at h1;simp only[lk] at hl;split at hl
  ·grind
  ·exact b hl h1.2
theorem St.clean_ob {i:Nat} {s:St} (h:s.clean i=true) {t:Nat} {d:Ob} (hl:lk s.ob t=some d):Ob.men i d=false:=by
 simp only[St.clean,Bool.and_eq_true] at h;have h1:=h.2;clear h;generalize s.ob=l at *
 induction l with
 |nil=>simp[lk] at hl
 |cons p l b =>
  obtain⟨j,a⟩:=p;simp only[List.all_cons,Bool.and_eq_true,Bool.not_eq_true'] at h1;simp only[lk] at hl;split at hl
  ·grind
  ·exact b hl h1.2
section
variable {cx:Cx} {s:St} {φ φ':Mem} {h:Nat->Value} {tmps:Array Value} {w w':World}
theorem ObR.blk_lt {own:Nat->Prop} {hv:Value} {o:Ob} (a:ObR own φ h w hv o) {b:Nat} (c:blk hv=some b):b<w.heap.size/\own b:=by
 cases o with
 |cells cs =>
  obtain⟨j,vals,e,rfl,i,hh,_⟩:=a;cases c;exact⟨(Array.getElem?_eq_some_iff.1 hh).1,i⟩
 |gen g ds =>
  obtain⟨j,vals,o,d,i,hh,_⟩:=a;rw[c] at d;cases d;exact⟨(Array.getElem?_eq_some_iff.1 hh).1,i⟩
 |arr fz sz e es =>
  obtain⟨_,_,xs,f,_,hblk⟩:=a;refine⟨?_,(hblk b c).1⟩;rcases f.2 with⟨rfl,_⟩|⟨g,cap,cur,rfl,_,k,_⟩
  ·cases c
  ·cases c;exact (Array.getElem?_eq_some_iff.1 k).1
theorem ObR.keep {own c:Nat->Prop} (a: ∀ b,own b->c b) {h h':Nat->Value} {hv:Value} {o:Ob} (l:ObR own φ h w hv o) (z: ∀ b,blk hv=some b->w'.heap[b]? = w.heap[b]?)
  (k: ∀ b off u,φ b off=some u->φ' b off=some u) (n: ∀ b,blk hv=some b-> ∀ off,φ' b off=φ b off) (q: ∀ v d,d∈o.parts->RV φ h v d->RV φ' h' v d):ObR c φ' h' w' hv o:=by
 cases o with
 |cells cs =>
  obtain⟨b,vals,e,rfl,y,hh,hs,hc,t⟩:=l;exact⟨b,vals,e,rfl,a b y,by rw[z b rfl];exact hh,hs,λj d p=>q _ _ (List.mem_of_getElem? p) (hc j d p),λoff=>by rw[n b rfl];exact t off⟩
 |gen g ds =>
  obtain⟨b,vals,o,f,y,hh,A,hs,hc,t⟩:=l;exact⟨b,vals,o,f,a b y,by rw[z b f];exact hh,A,hs,λj d p=>q _ _ (List.mem_of_getElem? p) (hc j d p),λoff=>by rw[n b f];exact t off⟩
 |arr fz sz e es =>
  obtain⟨h1,h2,xs,⟨hx,m⟩,hrep,hblk⟩:=l;refine⟨h1,h2,xs,⟨hx,?_⟩,λi x j d hi B=>(hrep i x j d hi B).mono k,λb r=>⟨a b (hblk b r).1,λoff=>by rw[n b r];exact (hblk b r).2 off⟩⟩;rcases m with m|⟨g,cap,cur,rfl,C,E,F⟩
  ·exact .inl m
  ·exact .inr ⟨g,cap,cur,rfl,C,by rw[z g rfl];exact E,F⟩
def hxx (h:Nat->Value) (dst:Nat) (hv:Value) (nb:Option Ob):Nat->Value:=hx h dst hv nb
def St.add (s:St) (dst id:Nat) (d:D) (nb:Option Ob):St :=
 {tm:=(dst,d)::s.tm,ob:=match nb with|none=>s.ob|some o=>(id,o)::s.ob}
theorem Z5t {φ':Mem} (a: ∀ b o u,φ b o=some u->φ' b o=some u) (c: ∀ b o u,φ' b o=some u->φ b o=none->w.heap.size<=b) {b:Nat} (f:b<w.heap.size) (off:Nat):φ' b off=φ b off:=by
 cases e:φ b off with
 |some u=>exact a b off u e
 |none =>
  cases d:φ' b off with
  |none=>rfl
  |some u=>exact absurd (c b off u d e) (by omega)
theorem Mod.astep (hm:Mod cx s φ h tmps w) {dst id:Nat} {d:D} {nb:Option Ob} {v hv:Value} (hs:AStep φ h w id d nb v φ' hv w') (M:dst<cx.N) (hid:cx.bs<=id) (F:nb≠none-> ∀ t d,lk s.tm t=some d->D.men id d=false) (E:nb≠none-> ∀ t o,lk s.ob t=some o->Ob.men id o=false) (J:nb≠none->hv.oneCell'=true) :
  Mod cx (s.add dst id d nb) φ' (hx h id hv nb) (tmps.setIfInBounds dst v) w':=by
 have l:=λ{b} a off=>Z5t (b:=b) hs.mono hs.new a off;have C: ∀ t e,lk s.tm t=some e->RV φ' (hx h id hv nb) (tmps.getD t Go.undef) e:=λt e m=>by
  have:=(hm.tm t e m).mono hs.mono;cases nb with
  |none=>exact this
  |some o=>exact this.upd id hv (F (by simp) _ _ m)
 refine⟨by simp[hm.size],?_,hs.mem,λb o v a=>hs.mono b o v (hm.ext b o v a),?_,?_,?_,hs.below.os.trans hm.os,hs.below.tape.trans hm.tape,hs.below.output.trans hm.output,Nat.le_trans hm.grow hs.below.size,?_,?_,?_,?_⟩
 ·intro t e m;simp only[St.add,lk] at m;split at m
  ·rename_i H;cases m;have:(tmps.setIfInBounds dst v).getD t Go.undef=v:=by
    subst H;have:t<tmps.size:=by rw[hm.size];exact M
    simp[Array.getD,this]
   rw[this];exact hs.rv
  ·rename_i H;have:(tmps.setIfInBounds dst v).getD t Go.undef=tmps.getD t Go.undef:=by
    simp[Array.getD_eq_getD_getElem?,Ne.symm H]
   rw[this];exact C t e m
 ·intro b o u N h0;cases L:φ b o with
  |some Q=>exact hm.new b o Q L h0
  |none=>exact .inl (Nat.le_trans hm.grow (hs.new b o u N L))
 ·intro i o z;have hk: ∀ o',lk s.ob i=some o'->(nb≠none->i≠id)->ObR cx.own φ' (hx h id hv nb) w' (hx h id hv nb i) o':=λo' B p=>by
   have x:=hm.ob i o' B;have hi:hx h id hv nb i=h i:=by
    cases nb with
    |none=>rfl
    |some _=>exact Zd _ _ (p (by simp))
   rw[hi];refine x.keep (λ_ a=>a) (λb a=>hs.below.block b (x.blk_lt a).1) hs.mono (λb a off=>l (x.blk_lt a).1 off) (λv d G r=>?_)
   have:=r.mono hs.mono;cases nb with
   |none=>exact this
   |some _ =>
    have A:=E (by simp) _ _ B;obtain⟨j,y⟩:=List.mem_iff_getElem?.1 G;exact this.upd id hv (Qk A j d y)
  cases nb with
  |none=>exact hk o z (λh=>absurd rfl h)
  |some ob =>
   simp only[St.add,lk] at z;split at z
   ·rename_i hi;cases z;subst hi
    have:=hs.ob _ rfl;have e: ∀ q,hx h i hv (some q) i=hv:=λ_=>Zr _ _ _;rw[e];exact this.keep (λb a=>Or.inl (Nat.le_trans hm.grow a)) (λ_ _=>rfl) (λ_ _ _ h=>h) (λ_ _ _=>rfl) (λ_ _ _ r=>r)
   ·grind
 ·intro i j b hi y c f;cases nb with
  |none=>exact hm.sep i j b hi y c f
  |some ob =>
   have n: ∀ b,blk hv=some b->w.heap.size<=b:=λb a=>((hs.ob ob rfl).blk_lt a).2;have k: ∀ i b,i≠id->(lk (s.add dst id d (some ob)).ob i).isSome->blk (h i)=some b->b<w.heap.size:=λi b p hi a=>by
    simp only[St.add,lk,if_neg p] at hi;obtain⟨o,z⟩:=Option.isSome_iff_exists.1 hi;exact ((hm.ob i o z).blk_lt a).1
   by_cases h1:i=id<;>by_cases h2:j=id
   ·rw[h1,h2]
   ·subst h1;simp only[hx,Zr] at c;simp only[hx,Zd h hv h2] at f;exact absurd (k j b h2 y f) (by have:=n b c;omega)
   ·subst h2;simp only[hx,Zr] at f;simp only[hx,Zd h hv h1] at c;exact absurd (k i b h1 hi c) (by have:=n b f;omega)
   ·simp only[hx,Zd h hv h1] at c;simp only[hx,Zd h hv h2] at f;simp only[St.add,lk,if_neg h1] at hi;simp only[St.add,lk,if_neg h2] at y;exact hm.sep i j b hi y c f
 ·intro i;cases nb with
  |none=>exact hm.one i
  |some _ =>
   simp only[hx,updH];split
   ·grind
   ·exact hm.one i
 ·intro b a O;rw[hs.below.block b (Nat.lt_of_lt_of_le a hm.grow)];exact hm.frame b a O
 ·intro i hi;rw[<- hm.hfix i hi];cases nb with
  |none=>rfl
  |some _=>exact Zd _ _ (by omega)
 ·intro b o a;obtain⟨h1,h2,I⟩:=hm.kept b o a;have k:=(Array.getElem?_eq_some_iff.1 h1).1;refine⟨by rw[hs.below.block b k];exact h1,λoff=>by rw[l k off];exact h2 off,λi hi=>?_⟩;cases nb with
  |none=>exact I i hi
  |some ob =>
   by_cases g:i=id
   ·subst g;simp only[hx,Zr];intro m
    have:=((hs.ob ob rfl).blk_lt m).2;omega
   ·simp only[hx,Zd h hv g];simp only[St.add,lk,if_neg g] at hi;exact I i hi
end
end Go.Sx
namespace Go.Sx
open Go.RowKit
variable [Globs] [Codes]
theorem Z0Z: ∀ (ds:List D) (off:Nat) (cs:List D) (j:Nat) (d:D),(setAt cs off ds)[j]? = some d->(off<=j/\j<off+ds.length/\ds[j-off]? = some d)\/(¬ (off<=j/\j<off+ds.length)/\cs[j]? = some d)
 |[],off,cs,j,d,h=>.inr ⟨by simp only[List.length_nil];omega,h⟩
 |x::ds,off,cs,j,d,h=>by
  simp only[setAt] at h;rcases Z0Z ds (off+1) (cs.set off x) j d h with⟨h1,h2,a⟩|⟨h1,h2⟩
  ·refine .inl ⟨by omega,by simp;omega,?_⟩;rw[show j-off=(j-(off+1))+1 by omega];simpa using a
  ·rw[List.getElem?_set] at h2;split at h2
   ·rename_i b;subst b;split at h2
    ·cases h2;exact .inl ⟨Nat.le_refl _,by simp,by simp⟩
    ·cases h2
   ·exact .inr ⟨by simp only[List.length_cons];omega,h2⟩
section
variable {cx:Cx} {s:St} {φ φ':Mem} {h:Nat->Value} {tmps:Array Value} {w w':World}
theorem Mod.setRow (hm:Mod cx s φ h tmps w) {id b:Nat} {cs cs':List D} {vals d:Array Value} {e:TypeId} (hl:lk s.ob id=some (.cells cs)) (m:h id=.pointer (some ⟨b,0,none⟩))
  (F:w.heap[b]? = some (.cells vals e (0,0))) (hc:CR φ h d cs'):Mod cx {s with ob:=(id,.cells cs')::s.ob} φ h tmps (w.setRow b d):=by
 have x:=hm.ob id _ hl;obtain⟨G,y,H,p,l,hh,hs,E,f⟩:=x;rw[m] at p;cases p;have c: ∀ k,k≠b->(w.setRow b d).heap[k]? = w.heap[k]? :=λk hk=>setRow_other w b k _ hk;refine⟨hm.size,hm.tm,?_,hm.ext,hm.new,?_,?_,hm.os,hm.tape,hm.output,by simpa using hm.grow,hm.one,?_,hm.hfix,?_⟩
 ·intro g o v hv;have B:g≠b:=λe=>by rw[e,f] at hv;cases hv
  rw[World.cell?_of_block (w:=w) (a:=⟨g,o,none⟩) (c g B)];exact hm.mem g o v hv
 ·intro i o q;simp only[lk] at q;split at q
  ·rename_i hi;cases q;subst hi;exact⟨b,d,e,m,l,setRow_heap w b vals d e _ F,hc.1,hc.2,f⟩
  ·rename_i hi;refine (hm.ob i o q).keep (λ_ m=>m) (λk hk=>c k ?_) (λ_ _ _ h=>h) (λ_ _ _=>rfl) (λ_ _ _ r=>r);intro n;subst n;exact hi (hm.sep i id k (by simp[q]) (by simp[hl]) hk (by rw[m];rfl))
 ·intro i j k hi C t u;have hh: ∀ i,(lk ((id,Ob.cells cs')::s.ob) i).isSome->(lk s.ob i).isSome:=λi hi=>by
   grind [lk]
  exact hm.sep i j k (hh i hi) (hh j C) t u
 ·intro k hk A;have:k≠b:=λn=>by
   subst n;rcases l with h1|h1
   ·omega
   ·exact A h1
  rw[c k this];exact hm.frame k hk A
 ·intro k o hk;obtain⟨h1,h2,z⟩:=hm.kept k o hk;have:k≠b:=λn=>z id (by simp[hl]) (by rw[m,n];rfl);refine⟨by rw[c k this];exact h1,h2,λi hi=>z i ?_⟩;simp only[lk] at hi;split at hi
  ·grind
  ·exact hi
theorem CR.setAt {vals:Array Value} {cs ds:List D} {vs:List Value} (off:Nat) (hc:CR φ h vals cs) (hv:RVL φ h vs ds) (f:off+ds.length<=cs.length) :
  CR φ h (vals.toList.take off++vs++vals.toList.drop (off+vs.length)).toArray (setAt cs off ds):=by
 have hl:=hv.length;have hs:=hc.1;refine⟨by simp[Qo];omega,λj d e=>?_⟩;have b:(vals.toList.take off++vs++vals.toList.drop (off+vs.length)).toArray.getD j Go.undef=(vals.toList.take off++(vs++vals.toList.drop (off+vs.length))).getD j Go.undef:=by
  simp_all
 rw[b];rcases Z0Z ds off cs j d e with⟨h1,h2,c⟩|⟨h1,h2⟩
 ·have:=hv.get (j-off) d c;have a:(vals.toList.take off++(vs++vals.toList.drop (off+vs.length))).getD j Go.undef=vs.getD (j-off) Go.undef:=by
   grind
  rw[a];exact this
 ·have:=hc.2 j d h2;have g:j<cs.length:=(List.getElem?_eq_some_iff.1 h2).1;have a:(vals.toList.take off++(vs++vals.toList.drop (off+vs.length))).getD j Go.undef=vals.getD j Go.undef:=by
   grind [Qo,Array.getD_eq_getD_getElem?,List.getD,Z0Z,List.getElem?_append_right,List.getElem?_append_left,List.length_take,Array.length_toList]
  rw[a];exact this
theorem Z4V {P:Program} {o:Oper} {ρ:Operand->Value} {t:TypeId} {x y:Operand} {b off sz:Nat} {vals:Array Value} {e:TypeId} (d:o.op=.store t x y) (hs:szT P t=some sz) (hx:ρ x=.pointer (some ⟨b,off,none⟩))
  (f:w.heap[b]? = some (.cells vals e (0,0))) (hsz:(ρ y).cells.size=sz) (c:off+sz<=vals.size) (h1: ∀ v∈(ρ y).cells.toList,v.oneCell'=true) :
  (execOp ρ o).run P w=.ok .skip (w.setRow b (vals.toList.take off++(ρ y).cells.toList++vals.toList.drop (off+(ρ y).cells.toList.length)).toArray):=by
 have a:=run_storeCells_at P b off e (ρ y).cells.toList 0 vals w f (by simp;omega) h1;simp only[Nat.add_zero] at a;simp only[execOp,d,hx,Instr.storeAt,Instr.sureAddr,storeVar,Sem.run_bind,Sem.run_pure,Result.andThen_ok,ZS hs,hsz,ne_eq,not_true_eq_false,if_false,a]
def D.flat:D->Bool
 |.agg cs=>cs.all D.one
 |d=>D.one d
theorem Z51 {v:Value} {d:D} (hh:HOne h) (r:RV φ h v d) (hf:D.flat d=true): ∀ u∈v.cells.toList,u.oneCell'=true:=by
 by_cases ha: ∃ cs,d=.agg cs
 ·obtain⟨cs,rfl⟩:=ha;obtain⟨vs,rfl,hs,hc⟩:=r.agg_inv;intro u c;obtain⟨j,e⟩:=List.mem_iff_getElem?.1 c;have b:j<cs.length:=by
   have:=(List.getElem?_eq_some_iff.1 e).1;rw[<- hs];simpa [Value.cells] using this
  have a:=hc j _ (List.getElem?_eq_getElem b);have:vs.getD j Go.undef=u:=by
   simp only[Value.cells,Array.getElem?_toList] at e;simp[Array.getD_eq_getD_getElem?,e]
  rw[this] at a;exact a.one hh (List.all_eq_true.1 hf _ (List.getElem_mem b))
 ·have h1:D.one d=true:=by
   cases d<;>first|exact hf|exact absurd ⟨_,rfl⟩ ha
  have h2:=r.one hh h1;rw[Z77 h2];intro u c;simp at c;subst c;exact h2
theorem Z9R {d:D} (hf:D.flat d=true):D.okc d=true:=by
 cases d<;>first|exact hf|rfl
theorem Z7A {P:Program} {o:Oper} {ρ:Operand->Value} {t:TypeId} {x y:Operand} {sz id off:Nat} {cs:List D} {d:D} (z:o.op=.store t x y) (hs:szT P t=some sz) (hm:Mod cx s φ h tmps w)
  (hx:RV φ h (ρ x) (.ptr id off)) (q:RV φ h (ρ y) d) (hl:lk s.ob id=some (.cells cs)) (hf:D.flat d=true) (u:d.cells.length=sz) (v:off+sz<=cs.length) :
  ∃ w',(execOp ρ o).run P w=.ok .skip w'/\Mod cx {s with ob:=(id,.cells (Sx.setAt cs off d.cells))::s.ob} φ h tmps w':=by
 obtain⟨b,n,m⟩:=hx.ptr_inv;have k:=hm.ob id _ hl;obtain⟨A,vals,e,c,p,hh,hsz,l,i⟩:=k;rw[n] at c;cases c;have a:=q.cells hm.one (Z9R hf);have f:(ρ y).cells.size=sz:=by rw[a.1,u]
 refine⟨_,Z4V z hs m hh f (by omega) (Z51 hm.one q hf),hm.setRow hl n hh ?_⟩;refine CR.setAt off ⟨hsz,l⟩ (ZG _ _ (by simpa using a.1) λj r g=>?_) (by omega)
 have:=a.2 j r g;simpa [Array.getD_eq_getD_getElem?,List.getD] using this
end
theorem Qx {α:Type} (A vs:List α) (off p:Nat) (h:off+vs.length<=A.length):(A.take off++vs++A.drop (off+vs.length))[p]? = if off<=p/\p<off+vs.length then vs[p-off]? else A[p]? :=by
 by_cases h1:p<off
 ·grind
 ·grind
section
variable {cx:Cx} {s:St} {φ φ':Mem} {h:Nat->Value} {tmps:Array Value} {w w':World}
theorem Mod.turn (hm:Mod cx s φ h tmps w) {id b:Nat} {o0 o':Ob} (c: ∀ k,k≠b->w'.heap[k]? = w.heap[k]?) (y:w'.os=w.os) (l:w'.tape=w.tape) (p:w'.output=w.output) (d:w.heap.size<=w'.heap.size) (hl:lk s.ob id=some o0) (n:blk (h id)=some b) (f: ∀ off,φ b off=none)
  (A:ObR cx.own φ h w' (h id) o'):Mod cx {s with ob:=(id,o')::s.ob} φ h tmps w':=by
 have q:=((hm.ob id _ hl).blk_lt n).2;refine⟨hm.size,hm.tm,?_,hm.ext,hm.new,?_,?_,y.trans hm.os,l.trans hm.tape,p.trans hm.output,Nat.le_trans hm.grow d,hm.one,?_,hm.hfix,?_⟩
 ·intro g o v hv;have C:g≠b:=λe=>by rw[e,f] at hv;cases hv
  rw[World.cell?_of_block (w:=w) (a:=⟨g,o,none⟩) (c g C)];exact hm.mem g o v hv
 ·intro i o t;simp only[lk] at t;split at t
  ·grind
  ·rename_i hi;refine (hm.ob i o t).keep (λ_ n=>n) (λk hk=>c k ?_) (λ_ _ _ h=>h) (λ_ _ _=>rfl) (λ_ _ _ r=>r);intro m;subst m;exact hi (hm.sep i id k (by simp[t]) (by simp[hl]) hk n)
 ·intro i j k hi E u x;have hh: ∀ i,(lk ((id,o')::s.ob) i).isSome->(lk s.ob i).isSome:=λi hi=>by
   grind [Nat.le_trans,lk]
  exact hm.sep i j k (hh i hi) (hh j E) u x
 ·intro k hk B;have:k≠b:=λm=>by
   subst m;rcases q with h1|h1
   ·omega
   ·exact B h1
  rw[c k this];exact hm.frame k hk B
 ·intro k o hk;obtain⟨h1,h2,z⟩:=hm.kept k o hk;have:k≠b:=λm=>z id (by simp[hl]) (by rw[n,m]);refine⟨by rw[c k this];exact h1,h2,λi hi=>z i ?_⟩;simp only[lk] at hi;split at hi
  ·grind
  ·exact hi
theorem Mod.setBlk (hm:Mod cx s φ h tmps w) {id b:Nat} {o0 o':Ob} {a:Array Value} (hl:lk s.ob id=some o0) (e:blk (h id)=some b) (c: ∀ off,φ b off=none)
  (d:ObR cx.own φ h (w.setRow b a) (h id) o'):Mod cx {s with ob:=(id,o')::s.ob} φ h tmps (w.setRow b a) :=
 hm.turn (λk hk=>setRow_other w b k _ hk) rfl rfl rfl (by simp) hl e c d
theorem Z69 {P:Program} {o:Oper} {ρ:Operand->Value} {t:TypeId} {x y:Operand} {sz id i j a:Nat} {e:TypeId} {es:List (List D)} {cs:List D} {d:D} (ho:o.op=.store t x y) (hs:szT P t=some sz) (hm:Mod cx s φ h tmps w)
  (hx:RV φ h (ρ x) (.vptr id i j a)) (hy:RV φ h (ρ y) d) (hl:lk s.ob id=some (.arr false a e es)) (hi:es[i]? = some cs) (hf:D.flat d=true) (hp:d.cells.all D.pur=true) (hd:d.cells.length=sz) (hle:j+sz<=a) :
  ∃ w',(execOp ρ o).run P w=.ok .skip w'/\Mod cx {s with ob:=(id,.arr false a e (es.set i (Sx.setAt cs j d.cells)))::s.ob} φ h tmps w':=by
 obtain⟨b,len,cap,Y,hh,U⟩:=hx.vptr_inv;have O:=hm.ob id _ hl;obtain⟨h0,E,xs,⟨T,H⟩,hrep,hblk⟩:=O;rw[hh] at H hblk;rcases H with⟨h1,_⟩|⟨g,V,cur,hv,_,W,G,M,N,S⟩
 ·cases h1
 cases hv;have B:=hy.cells hm.one (Z9R hf);have F:(ρ y).cells.size=sz:=by rw[B.1,hd]
 have c:(ρ y).cells.toList.length=sz:=by simpa using F
 have C:i<es.length:=(List.getElem?_eq_some_iff.1 hi).1;have L:cs.length=a:=E _ (List.mem_of_getElem? hi);have X:i*a+a<=es.length*a:=by
  have:(i+1)*a<=es.length*a:=Nat.mul_le_mul_right _ C;rwa [Nat.add_mul,Nat.one_mul] at this
 have hcap:es.length*a<=cur.size:=by rw[N];exact Nat.mul_le_mul_right _ G
 have v: ∀ off,φ b off=none:=λoff=>by
  have:=(hblk b rfl).2 off;simpa using this
 refine⟨_,Z4V ho hs U W F (by omega) (Z51 hm.one hy hf),hm.setBlk hl (by rw[hh];rfl) v ?_⟩;have hvl: ∀ k m,d.cells[k]? = some m->Rep φ ((ρ y).cells.toList.getD k Go.undef) m:=λk m hk=>by
  have h2:=B.2 k m hk;have Q:D.pur m=true:=List.all_eq_true.1 hp _ (List.mem_of_getElem? hk)
  have:=RV.pur_rep Q h2;simpa [Array.getD_eq_getD_getElem?,List.getD] using this
 have R:(Sx.setAt cs j d.cells).length=a:=by rw[Qo];exact L
 rw[hh];have l:(i*a+j)+(ρ y).cells.toList.length<=xs.length:=by rw[T,c];omega
 have A:(i*a+j)+(ρ y).cells.toList.length<=cur.toList.length:=by rw[c,Array.length_toList];omega
 refine⟨h0,?_,xs.take (i*a+j)++(ρ y).cells.toList++xs.drop (i*a+j+(ρ y).cells.toList.length),⟨?_,.inr ⟨b,cap,_,by rw[List.length_set],by assumption,setRow_heap w b cur _ e _ W,by rw[List.length_set];exact G,M,?_,?_⟩⟩,?_,?_⟩
 ·grind
 ·grind
 ·grind
 ·rw[List.length_set];refine List.ext_getElem? λp=>?_;rw[List.getElem?_take,Qx _ _ _ _ l];simp only[];rw[Qx _ _ _ _ A];by_cases hpn:p<es.length*a
  ·grind
  ·grind
 ·intro z q J m f r;have hq:q.length=a:=by
   grind
  have hj2:J<a:=by rw[<- hq];exact (List.getElem?_eq_some_iff.1 r).1
  rw[List.getD_eq_getElem?_getD,Qx _ _ _ _ l,c];by_cases n:i=z
  ·subst n;rw[List.getElem?_set_self C] at f;cases f;rcases Z0Z _ _ _ _ _ r with⟨g1,g2,g3⟩|⟨g1,g2⟩
   ·grind
   ·grind
  ·rw[List.getElem?_set_ne n] at f;have I: ¬ (i*a+j<=z*a+J/\z*a+J<i*a+j+sz):=by
    rcases Nat.lt_or_gt_of_ne n with u|u
    ·have:(i+1)*a<=z*a:=Nat.mul_le_mul_right _ u;rw[Nat.add_mul,Nat.one_mul] at this;omega
    ·have:(z+1)*a<=i*a:=Nat.mul_le_mul_right _ u;rw[Nat.add_mul,Nat.one_mul] at this;omega
   rw[if_neg I,<- List.getD_eq_getElem?_getD];exact hrep z q J m f r
 ·grind
end
def cpyL (es:List (List D)) (i:Nat) (ys:List (List D)):List (List D):=es.take i++ys.take (es.length-i)++es.drop (i+(ys.take (es.length-i)).length)
def srcP:D->Option (List (List D))
 |.slice ys _=>some ys
 |.nils=>some []
 |_=>none
def badN (sz:Nat) (ys:List (List D)):Nat:=(ys.filter λq=>decide (q.length≠sz)).length
theorem Z2v {sz:Nat} {ys:List (List D)}:badN sz ys<1 ↔ ∀ q∈ys,q.length=sz:=by simp_all [badN]
def stO (d:SK) (x y:D) (obs:Nat->Option Ob):Option (Nat × Nat × Nat × Ob):=match x with
 |.ptr id off=>match d with
  |.c sz=>match obs id with
   |some (.cells cs)=>if D.flat y=true/\y.cells.length=sz/\off+sz<=cs.length then some (0,1,id,.cells (setAt cs off y.cells)) else none
   |_=>none
  |_=>none
 |.vptr id i j b=>match d with
  |.c sz=>match obs id with
   |some (.arr false a e es)=>if a=b/\D.flat y=true/\y.cells.all D.pur=true/\y.cells.length=sz/\j+sz<=b then some (i,es.length,id,.arr false b e (es.set i (if j=0/\sz=b then y.cells else setAt (es.getD i []) j y.cells))) else none
   |_=>none
  |_=>none
 |.map id=>match d with
  |.m key=>match obs id with
   |some (.gen (.map ks) ds)=>match mput key y ks ds with
    |some (c,f)=>some (0,1,id,.gen (.map c) f)
    |none=>none
   |some (.gen (.mapC ks cs) [])=>if Z1H y=true then (match mput key y ks cs with
    |some (c,cs')=>some (0,1,id,.gen (.mapC c cs') [])
    |none=>none) else none
   |_=>none
  |_=>none
 |.vec id=>match d with
  |.cp _ sz=>match obs id with
   |some (.arr false a e es)=>match srcP y with
    |some ys=>if a=sz then some (badN a ys,1,id,.arr false a e (cpyL es 0 ys)) else none
    |none=>none
   |_=>none
  |_=>none
 |.vwin id i b=>match d with
  |.cp _ sz=>match obs id with
   |some (.arr false a e es)=>match srcP y with
    |some ys=>if a=sz/\a=b then some (badN a ys,1,id,.arr false a e (cpyL es i ys)) else none
    |none=>none
   |_=>none
  |_=>none
 |_=>none
def mapK (P:Program) (t:TypeId) (k:Operand):Option D:=match k,P.underlying t with
 |.const v,some (.map a _)=>match keyK P a with
  |some kd=>if isKD kd (Qd v)=true then some (Qd v) else none
  |none=>none
 |_,_=>none
def ZaW (P:Program) (t:TypeId):Option (Option IntKind):=match P.underlying t with
 |some (.map a _)=>keyK P a
 |_=>none
def StOp (P:Program) (o:Oper) (ρ:Operand->Value) (φ:Mem) (h:Nat->Value) (a:SK) (x y:Operand):Prop :=
 (∃ t sz,a=.c sz/\o.op=.store t x y/\szT P t=some sz)\/ ∃ t k kd key,a=.m key/\(o.op=.insert t x k y\/o.op=.mapUpdate t x k y)/\ZaW P t=some kd/\isKD kd key=true/\RV φ h (ρ k) key
theorem ZkO {P:Program} {t:TypeId} {k:Operand} {key:D} (hk:mapK P t k=some key): ∃ v kd,k=.const v/\key=Qd v/\ZaW P t=some kd/\isKD kd key=true:=by
 unfold mapK at hk;split at hk
 ·rename_i v e d c;split at hk
  ·rename_i kd b;split at hk
   ·rename_i a;cases hk;exact⟨v,kd,rfl,rfl,by simp only[ZaW,c];exact b,a⟩
   ·cases hk
  ·cases hk
 ·cases hk
theorem ZaB: ∀ (ds cs:List D),cs.length=ds.length->setAt cs 0 ds=ds:=λds cs h=>by
 refine List.ext_getElem? λk=>?_;by_cases hk:k<ds.length
 ·have h1:k<(setAt cs 0 ds).length:=by rw[Qo];omega
  rcases Z0Z ds 0 cs k _ (List.getElem?_eq_getElem h1) with⟨_,_,a⟩|⟨a,_⟩
  ·grind
  ·omega
 ·rw[List.getElem?_eq_none (by rw[Qo];omega),List.getElem?_eq_none (by omega)]
section
variable {cx:Cx} {s:St} {φ φ':Mem} {h:Nat->Value} {tmps:Array Value} {w w':World}
theorem ZkZ {kd:Option IntKind} {key k:D} {c:Value} (hk:isKD kd key=true) (hr:RV φ h c key) (a:keqD key k=some true):keyV k=c:=by
 unfold keqD at a;split at a
 ·split at a
  ·rename_i b;subst b;simp only[Option.some.injEq,decide_eq_true_eq] at a;subst a;rw[hr.int_inv];rfl
  ·cases a
 ·simp only[Option.some.injEq,decide_eq_true_eq] at a;subst a;rw[hr.str_inv];rfl
 ·cases a
theorem Z9S {kd:Option IntKind} {key y:D} {m:Value} (hk:isKD kd key=true) (hr:RV φ h m key): ∀ (es:List MapEntry) (ks ds:List D) (i:Nat) (f c:List D),es.map MapEntry.key=ks.map keyV->es.length=ds.length->mput key y ks ds=some (f,c) →
  (Instr.findNow (kdT kd) m es i=some none/\f=ks++[key]/\c=ds++[y])\/ ∃ j v e,Instr.findNow (kdT kd) m es i=some (some (i+j,v))/\es[j]? = some e/\e.key=m/\f=ks/\c=ds.set j y
 |[],[],[],i,f,c,_,_,hf=>by cases hf;exact .inl ⟨rfl,rfl,rfl⟩
 |[],[],_::_,i,f,c,_,g,_=>by cases g
 |[],_::_,_,i,f,c,h1,_,_=>by cases h1
 |_::_,[],_,i,f,c,h1,_,_=>by cases h1
 |_::_,_::_,[],i,f,c,_,g,_=>by cases g
 |e::es,k::ks,d::ds,i,f,c,h1,g,hf=>by
  simp only[List.map_cons,List.cons.injEq] at h1;simp only[mput] at hf;cases l:keqD key k with
  |none=>rw[l] at hf;cases hf
  |some b =>
   rw[l] at hf;have hs:=Z9b (k:=k) hk hr l;rw[<- h1.1] at hs;cases b with
   |true =>
    simp only[Option.some.injEq,Prod.mk.injEq] at hf;exact .inr ⟨0,e.val,e,by simp only[Instr.findNow,hs,Nat.add_zero],rfl,by rw[h1.1];exact ZkZ hk hr l,hf.1.symm,hf.2.symm⟩
   |false =>
    simp only at hf;split at hf
    ·rename_i a b p;simp only[Option.some.injEq,Prod.mk.injEq] at hf;obtain⟨rfl,rfl⟩:=hf;rcases Z9S hk hr es ks ds (i+1) a b h1.2 (by simpa using g) p with⟨n,rfl,rfl⟩|⟨j,v,q,n,r,t,rfl,rfl⟩
     ·exact .inl ⟨by simp only[Instr.findNow,hs];exact n,rfl,rfl⟩
     ·exact .inr ⟨j+1,v,q,by simp only[Instr.findNow,hs];rw[n];congr 3;omega,by simpa using r,t,rfl,rfl⟩
    ·cases hf
theorem Mod.weaken {s':St} (hm:Mod cx s φ h tmps w) (h1: ∀ t d,lk s'.tm t=some d->lk s.tm t=some d) (h2: ∀ i o,lk s'.ob i=some o->lk s.ob i=some o):Mod cx s' φ h tmps w:=by
 have a: ∀ i,(lk s'.ob i).isSome->(lk s.ob i).isSome:=λi hi=>by
  obtain⟨o,e⟩:=Option.isSome_iff_exists.1 hi;rw[h2 i o e];rfl
 exact⟨hm.size,λt d f=>hm.tm t d (h1 t d f),hm.mem,hm.ext,hm.new,λi o e=>hm.ob i o (h2 i o e),λi j b hi g=>hm.sep i j b (a i hi) (a j g),hm.os,hm.tape,hm.output,hm.grow,hm.one,hm.frame,hm.hfix,λb o c=>⟨(hm.kept b o c).1,(hm.kept b o c).2.1,λi hi=>(hm.kept b o c).2.2 i (a i hi)⟩⟩
theorem Z9t {key y:D} (g:Z1H y=true): ∀ {ks ds e c:List D},mput key y ks ds=some (e,c)->ds.all Z1H=true->c.all Z1H=true
 |[],[],_,_,h,_=>by cases h;simp[g]
 |[],_::_,_,_,h,_=>by cases h
 |_::_,[],_,_,h,_=>by cases h
 |k::ks,d::ds,e,c,h,ha=>by
  simp only[List.all_cons,Bool.and_eq_true] at ha;simp only[mput] at h;split at h
  ·cases h;simp[g,ha.2]
  ·split at h
   ·rename_i a b f;cases h;simp[ha.1,Z9t g f ha.2]
   ·cases h
  ·cases h
theorem Z30 {P:Program} {o:Oper} {ρ:Operand->Value} {t:TypeId} {x k y:Operand} {key d:D} {id:Nat} {ks ds F B:List D} {kd:Option IntKind} (z:o.op=.insert t x k y\/o.op=.mapUpdate t x k y) (q:ZaW P t=some kd) (C:isKD kd key=true) (g:RV φ h (ρ k) key) (hm:Mod cx s φ h tmps w)
  (hx:RV φ h (ρ x) (.map id)) (V:RV φ h (ρ y) d) (hl:lk s.ob id=some (.gen (.map ks) ds)) (hf:mput key d ks ds=some (F,B)) :
  ∃ w',(execOp ρ o).run P w=.ok .skip w'/\Mod cx {s with ob:=(id,.gen (.map F) B)::s.ob} φ h tmps w':=by
 unfold ZaW at q;split at q
 ·rename_i W T N;obtain⟨b,vals,X,hblk,A,a,⟨⟨S,c⟩,es,clock,rfl,h1,h2,O,U⟩,m,R,f⟩:=hm.ob id _ hl;rw[c] at hblk;cases hblk;have G:es.toList.length=ds.length:=by rw[<- m,<- h2];simp
  have E:=Z81 q;have u:=Z5D C g;have hc:=λe=>MapKept.run_checkKey (w:=w) E u e 9999;rcases Z9S C g es.toList ks ds 0 F B h1 G hf with⟨p,rfl,rfl⟩|⟨j,v,e,p,H,I,rfl,rfl⟩
  ·have n:(execOp ρ o).run P w=.ok .skip {w with heap:=w.heap.setIfInBounds b (.map (es.push {key:=ρ k,val:=ρ y,born:=clock}) (clock+1))}:=by
    rcases z with z|z <;>
     simp[execOp,z,hx.map_inv.1,c,Instr.mapUpdate,run_underlying N,MapKept.run_getObj_map a,hc,MapKept.run_findKey E p,MapKept.run_setObj_map _ a,Result.andThen]
   refine⟨_,n,hm.turn (λk hk=>(MapKept.heap_set a).2 k hk) rfl rfl rfl (by simp) hl (by rw[c];rfl) f ?_⟩;refine⟨b,vals++[ρ y],_,by rw[c];rfl,A,(MapKept.heap_set a).1,⟨⟨b,c⟩,_,_,rfl,?_,?_,?_,?_⟩,by simp[m],?_,f⟩
   ·have J:keyV key=ρ k:=by
     match key,kd,C,g with
     |.int _ _,_,_,g=>rw[g.int_inv];rfl
     |.str _,_,_,g=>rw[g.str_inv];rfl
    simp[h1,J]
   ·simp[h2]
   ·grind
   ·grind
   ·grind
  ·rw[Nat.zero_add] at p;have r:es[j]? = some e:=by simpa using H
   have Q:j<es.size:=(Array.getElem?_eq_some_iff.1 r).1;have L:(Instr.keyThatStays (((es[j]?).map MapEntry.key).getD (ρ k)) (ρ k)).run P w=.ok (ρ k) w:=by
    rw[r];simp only[Option.map_some,Option.getD_some,I];exact MapKept.run_keyThatStays u
   have n:(execOp ρ o).run P w=.ok .skip {w with heap:=w.heap.setIfInBounds b (.map (es.modify j λe=>{e with key:=ρ k,val:=ρ y}) clock)}:=by
    rcases z with z|z <;>
     simp[execOp,z,hx.map_inv.1,c,Instr.mapUpdate,run_underlying N,MapKept.run_getObj_map a,hc,MapKept.run_findKey E p,MapKept.run_setObj_map _ a,Result.andThen,L]
   refine⟨_,n,hm.turn (λk hk=>(MapKept.heap_set a).2 k hk) rfl rfl rfl (by simp) hl (by rw[c];rfl) f ?_⟩;have l: ∀ i,(es.modify j λe=>{e with key:=ρ k,val:=ρ y}).toList[i]? = if i=j then (es.toList[i]?).map (λe=>{e with key:=ρ k,val:=ρ y}) else es.toList[i]? :=by
    grind
   refine⟨b,vals.set j (ρ y),_,by rw[c];rfl,A,(MapKept.heap_set a).1,⟨⟨b,c⟩,_,_,rfl,?_,?_,?_,?_⟩,by simp[m],?_,f⟩
   ·rw[<- h1];refine List.ext_getElem? λi=>?_;simp only[List.getElem?_map,l];by_cases hi:i=j
    ·grind
    ·rw[if_neg hi]
   ·rw[<- h2];refine List.ext_getElem? λi=>?_;simp only[List.getElem?_map,l,List.getElem?_set,List.length_map];by_cases hi:i=j
    ·grind
    ·grind
   ·have:(es.modify j λe=>{e with key:=ρ k,val:=ρ y}).toList.map MapEntry.born=es.toList.map MapEntry.born:=by
     refine List.ext_getElem? λi=>?_;simp only[List.getElem?_map,l];by_cases hi:i=j
     ·grind
     ·rw[if_neg hi]
    rw[this];exact O
   ·intro x hx;have M:x∈(es.modify j λe=>{e with key:=ρ k,val:=ρ y}).toList:=Array.mem_toList_iff.2 hx;obtain⟨i,hi⟩:=List.getElem?_of_mem M;rw[l] at hi;split at hi
    ·grind
    ·grind
   ·grind
 ·cases q
theorem Z3A {P:Program} {o:Oper} {ρ:Operand->Value} {x y:Operand} {N:SK} {a b id:Nat} {L d:D} {ob:Ob} (p:StOp P o ρ φ h N x y) (hm:Mod cx s φ h tmps w)
  (hx:RV φ h (ρ x) L) (E:RV φ h (ρ y) d) (c:stO N L d (lk s.ob)=some (a,b,id,ob)) (F:a<b) :
  ∃ w',(execOp ρ o).run P w=.ok .skip w'/\Mod cx {s with ob:=(id,ob)::s.ob} φ h tmps w':=by
 unfold stO at c;rcases p with⟨t,sz,rfl,p,hs⟩|⟨t,k,kd,key,rfl,p,hk,r,u⟩
 ·split at c
  ·rename_i A off;simp only at c;split at c
   ·rename_i cs hl;split at c
    ·rename_i hc;cases c;exact Z7A p hs hm hx E hl hc.1 hc.2.1 hc.2.2
    ·cases c
   ·cases c
  ·rename_i A i j U;simp only at c;split at c
   ·rename_i C e es hl;split at c
    ·rename_i hc;obtain⟨rfl,h1,h2,O,Q⟩:=hc;cases c;have hi:es[a]? = some (es.getD a []):=by rw[List.getD_eq_getElem?_getD,List.getElem?_eq_getElem F];rfl
     have R:(es.getD a []).length=C:=(hm.ob _ _ hl).2.1 _ (List.mem_of_getElem? hi)
     have:=Z69 p hs hm hx E hl hi h1 h2 O Q;by_cases hf:j=0/\sz=C
     ·rw[if_pos hf];obtain⟨rfl,rfl⟩:=hf;rw[ZaB _ _ (by omega)] at this;exact this
     ·grind
    ·cases c
   ·cases c
  ·cases c
  ·cases c
  ·cases c
  ·cases c
 ·split at c
  ·cases c
  ·cases c
  ·rename_i A;simp only at c;split at c
   ·rename_i ks ds hl;split at c
    ·rename_i hf;cases c;exact Z30 p hk r u hm hx E hl hf
    ·cases c
   ·rename_i ks cs hl;split at c
    ·rename_i I;split at c
     ·rename_i B cs' hf;cases c;have q:=hm.ob id _ hl;have f:cs.all Z1H=true:=by obtain⟨b,vals,S,hblk,M,G,⟨rfl,f,_⟩,_⟩:=q;exact f
      obtain⟨b,vals,S,hblk,_,_,_,_,_,n⟩:=(λx=>x) q;have H:=hm.turn (w':=w) (λ_ _=>rfl) rfl rfl rfl (Nat.le_refl _) hl hblk n (ZbD q);obtain⟨w',z,v⟩:=Z30 p hk r u H hx E (id:=id) (ks:=ks) (ds:=cs) (by simp[lk]) hf;refine⟨w',z,?_⟩;have l:=v.ob id (.gen (.map B) cs') (by simp[lk]);obtain⟨V,J,T,m,_,_,_,_,_,g⟩:=(λx=>x) l;refine (v.turn (w':=w') (λ_ _=>rfl) rfl rfl rfl (Nat.le_refl _) (id:=id) (o0:=.gen (.map B) cs') (by simp[lk]) m g (Zu6 (Z9t I hf f) l)).weaken (λ_ _ h=>h) (λi o hi=>?_);simp only[lk] at hi ⊢;split
      ·grind
      ·grind
     ·cases c
    ·cases c
   ·cases c
  ·cases c
  ·cases c
  ·cases c
def Z0z (sz n:Nat) (vals:Nat->Nat->Value):List Value:=(List.range (n*sz)).map λp=>vals (p / sz) (p % sz)
theorem Z52 (sz n:Nat) (vals:Nat->Nat->Value):(Z0z sz n vals).length=n*sz:=by simp[Z0z]
theorem Zbi {sz n:Nat} {vals:Nat->Nat->Value} {i j:Nat} (hi:i<n) (b:j<sz):(Z0z sz n vals)[i*sz+j]? = some (vals i j):=by
 have a:i*sz+j<n*sz:=by
  have:(i+1)*sz<=n*sz:=Nat.mul_le_mul_right _ hi;rw[Nat.add_mul,Nat.one_mul] at this;omega
 have h1:(i*sz+j) / sz=i:=by rw[Nat.mul_comm,Nat.mul_add_div (by omega),Nat.div_eq_of_lt b];rfl
 have h2:(i*sz+j) % sz=j:=by rw[Nat.mul_comm,Nat.mul_add_mod];exact Nat.mod_eq_of_lt b
 simp[Z0z,List.getElem?_map,List.getElem?_range a,h1,h2]
theorem Z78 {sz n:Nat} {vals:Nat->Nat->Value} {p:Nat} {v:Value} (h:(Z0z sz n vals)[p]? = some v):p<n*sz/\p / sz<n/\p % sz<sz/\v=vals (p / sz) (p % sz)/\p=p / sz*sz+p % sz:=by
 have hp:=(List.getElem?_eq_some_iff.1 h).1;rw[Z52] at hp;have hs:0<sz:=by
  grind
 refine⟨hp,Nat.div_lt_of_lt_mul (by rw[Nat.mul_comm];exact hp),Nat.mod_lt _ hs,?_,?_⟩
 ·simp only[Z0z,List.getElem?_map,List.getElem?_range hp,Option.map_some,Option.some.injEq] at h;exact h.symm
 ·rw[Nat.mul_comm];exact (Nat.div_add_mod p sz).symm
theorem ZjP {P:Program} {w:World} {t u ty elem:TypeId} {f:TypeInfo} (p:P.underlying t=some (.slice elem)) (b:P.info? elem=some f) {n:Nat} {dp:Option Addr} {dLen dCap:Nat} {sp:Option Addr} {sLen sCap:Nat} (m:Nat.min sLen dLen=n)
  {cs:List Value} (k:cs.length=n*f.size) {g off:Nat} {cur:Array Value} {e:TypeId} (q:w.heap[g]? = some (.cells cur e (0,0)))
  (c:0<n->dp=some ⟨g,off,none⟩/\off+cs.length<=cur.size/\ ∃ i,sp=some i/\ ∀ j v,cs[j]? = some v->w.cell? (i.add j)=some v) (h1: ∀ v∈cs,v.oneCell'=true) :
  (Builtin.copy_ #[t,u] ty #[.slice dp dLen dCap,.slice sp sLen sCap]).run P w=.ok (goInt n) (if n=0 then w else w.setRow g (cur.toList.take off++cs++cur.toList.drop (off+cs.length)).toArray):=by
 by_cases h0:n=0
 ·subst h0;rw[if_pos rfl];have hl: ∀ (x:Addr),(loadCells x 0).run P w=.ok #[] w:=λx=>by simpa using run_loadCells_list (P:=P) w x [] (by simp)
  cases dp<;>cases sp<;>simp[Builtin.copy_,run_underlying p,Builtin.lenOf,Builtin.firstCells,sizeOf,typeInfo,b,m,storeCells,hl]
 ·obtain⟨rfl,a,i,rfl,d⟩:=c (by omega);rw[if_neg h0];have hl:=run_loadCells_list (P:=P) w i cs d;have l:=run_storeCells_at P g off e cs 0 cur w q (by simpa using a) h1;rw[k] at hl;simp[Builtin.copy_,run_underlying p,Builtin.lenOf,Builtin.firstCells,sizeOf,typeInfo,b,m,hl,l]
theorem Z9Y (es:List (List D)) (i:Nat) (ys:List (List D)) (h:i<=es.length):(cpyL es i ys).length=es.length:=by grind [cpyL]
theorem Z72 {P:Program} {o:Oper} {ρ:Operand->Value} {t u elem:TypeId} {inf:TypeInfo} {x y:Operand} {id i sz:Nat} {e:TypeId} {es ys:List (List D)} {dx dy:D} (ho:o.op=.call {callee:=.builtin .copy,args:=#[x,y],argTypes:=#[t,u]}) (hu:P.underlying t=some (.slice elem))
  (hin:P.info? elem=some inf) (hsz:inf.size=sz) (hm:Mod cx s φ h tmps w) (hx:RV φ h (ρ x) dx) (hdx:(dx=.vec id/\i=0)\/dx=.vwin id i sz) (hy:RV φ h (ρ y) dy) (E:srcP dy=some ys) (hl:lk s.ob id=some (.arr false sz e es)) (f: ∀ q∈ys,q.length=sz) :
  ∃ v w',(execOp ρ o).run P w=.ok (.value v) w'/\Mod cx {s with ob:=(id,.arr false sz e (cpyL es i ys))::s.ob} φ h tmps w':=by
 have hob:=hm.ob id _ hl;obtain⟨h0,hel,xs,⟨hxl,hor⟩,hrep,hblk⟩:=hob
 -- the source
 obtain⟨ext,hsrc⟩: ∃ ext,Rep φ (ρ y) (.slice ys ext):=by
  cases dy<;>simp only[srcP] at E<;>try (cases E;done)
  ·cases E;exact⟨_,hy.slice_inv⟩
  ·cases E;rw[hy.nils_inv];exact⟨[],.nil⟩
 obtain⟨sp,sLen,sCap,hsv,hsl,O⟩: ∃ sp sLen sCap,ρ y=.slice sp sLen sCap/\sLen=ys.length/\(0<ys.length-> ∃ C,sp=some C/\C.spot=none/\ ∃ vals:Nat->Nat->Value,(∀ i q j d,ys[i]? = some q->q[j]? = some d->φ C.block (C.off+i*sz+j)=some (vals i j)/\Rep φ (vals i j) d)):=by
  rcases hsrc.slice_inv with⟨⟨a0,c0,hv,hac⟩,rfl,rfl⟩|⟨g,off,cap,sz',vals,hv,hcap,hsz',hmem,hrp⟩
  ·grind
  ·refine⟨_,_,_,hv,rfl,λhpos=>⟨_,rfl,rfl,vals,λi q j d hq hd=>?_⟩⟩;have V:(ys++ext)[i]? = some q:=by
    grind
   have e1:sz'=sz:=by rw[<- hsz' q (List.mem_of_getElem? V),f q (List.mem_of_getElem? hq)]
   subst e1;exact⟨hmem i q j d V hd,hrp i q j d V hd⟩
 -- the place
 obtain⟨dp,dCap,hdv,hile,hdp⟩: ∃ dp dCap,ρ x=.slice dp (es.length-i) dCap/\i<=es.length/\(i<es.length-> ∃ g,blk (h id)=some g/\dp=some ⟨g,i*sz,none⟩):=by
  rcases hdx with⟨rfl,rfl⟩|rfl
  ·have hv:=hx.vec_inv;rcases hor with⟨h1,h2⟩|⟨g,cap,cur,hv2,_⟩
   ·grind
   ·exact⟨some ⟨g,0,none⟩,cap,by rw[hv,hv2];rfl,Nat.zero_le _,λh=>⟨g,by rw[hv2];rfl,by rw[Nat.zero_mul]⟩⟩
  ·obtain⟨b,len,cap,p,c,_,hh,hal,hap,hv⟩:=hx.vwin_inv;have hle:len=es.length:=by
    grind
   subst hle;exact⟨p,c,hv,hal,λS=>⟨b,by rw[hh];rfl,hap S⟩⟩
 obtain⟨n,hn⟩: ∃ n,n=Nat.min ys.length (es.length-i):=⟨_,rfl⟩;have z: ∀ v w',(Builtin.copy_ #[t,u] o.type #[.slice dp (es.length-i) dCap,.slice sp sLen sCap]).run P w=.ok v w'->(execOp ρ o).run P w=.ok (.value v) w':=λv w' hr=>by
  simp[execOp,ho,resolve,invoke,builtin,hdv,hsv,hr,Result.andThen]
 by_cases hn0:n=0
 ·-- nothing goes over
  have hnz:Nat.min sLen (es.length-i)=0:=by rw[hsl,<- hn];exact hn0
  have hl0: ∀ (x:Addr),(loadCells x 0).run P w=.ok #[] w:=λx=>by simpa using run_loadCells_list (P:=P) w x [] (by simp)
  have hr:(Builtin.copy_ #[t,u] o.type #[.slice dp (es.length-i) dCap,.slice sp sLen sCap]).run P w=.ok (goInt 0) w:=by
   cases dp<;>cases sp<;>simp[Builtin.copy_,run_underlying hu,Builtin.lenOf,Builtin.firstCells,sizeOf,typeInfo,hin,hnz,storeCells,hl0]
  refine⟨_,w,z _ _ hr,hm.weaken (λ_ _ h=>h) (λk o' hk=>?_)⟩;simp only[lk] at hk;split at hk
  ·rename_i hki;cases hk;subst hki;have he:cpyL es i ys=es:=by
    unfold cpyL;have:ys.take (es.length-i)=[]:=by
     grind
    rw[this,List.append_nil,List.length_nil,Nat.add_zero,List.take_append_drop]
   rw[he];exact hl
  ·exact hk
 have X:0<ys.length:=by
  grind
 have hnle:n<=ys.length/\n<=es.length-i:=by rw[hn];exact⟨Nat.min_le_left _ _,Nat.min_le_right _ _⟩
 have hilt:i<es.length:=by omega
 obtain⟨C,rfl,A,vals,B⟩:=O X;obtain⟨g',R,rfl⟩:=hdp hilt;rcases hor with⟨h1,_⟩|⟨g,Y,cur,hv,hge,hg,hnc,hcm,hcs,W⟩
 ·grind
 have hgg:g'=g:=by rw[hv] at R;simpa [blk] using R.symm
 subst hgg;have T: ∀ off,φ g' off=none:=λoff=>by
  grind
 have hyq: ∀ k,k<n-> ∃ q,ys[k]? = some q/\q.length=sz:=λk hk=>⟨ys[k]'(by omega),List.getElem?_eq_getElem _,f _ (List.getElem_mem _)⟩;have L: ∀ k j,k<n->j<sz-> ∃ d,φ C.block (C.off+k*sz+j)=some (vals k j)/\Rep φ (vals k j) d:=λk j hk hj=>by
  obtain⟨q,hq,G⟩:=hyq k hk;obtain⟨h1,h2⟩:=B k q j (q[j]'(by omega)) hq (List.getElem?_eq_getElem _);exact⟨_,h1,h2⟩
 have r:(Z0z sz n vals).length=n*sz:=Z52 _ _ _;have hrow:i*sz+n*sz<=es.length*sz:=by
  rw[<- Nat.add_mul];exact Nat.mul_le_mul_right _ (by omega)
 have hcap:es.length*sz<=cur.size:=by rw[hcs];exact Nat.mul_le_mul_right _ hnc
 have hone: ∀ v∈Z0z sz n vals,v.oneCell'=true:=λv hv=>by
  obtain⟨p,hp⟩:=List.mem_iff_getElem?.1 hv;obtain⟨_,h1,h2,h3,_⟩:=Z78 hp;obtain⟨d,_,hr⟩:=L _ _ h1 h2;rw[h3];exact hr.one
 have J:=ZjP (P:=P) (w:=w) (t:=t) (u:=u) (ty:=o.type) hu hin (n:=n) (dp:=some ⟨g',i*sz,none⟩) (dLen:=es.length-i) (dCap:=dCap) (sp:=some C) (sLen:=sLen) (sCap:=sCap) (by rw[hsl,hn]) (cs:=Z0z sz n vals) (by rw[r,hsz]) hg
  (λ_=>⟨rfl,by rw[r];omega,C,rfl,λp v hp=>by
   obtain⟨_,h1,h2,h3,h4⟩:=Z78 hp;obtain⟨d,hφ,_⟩:=L _ _ h1 h2
   have:=hm.mem _ _ _ hφ;rw[h3];rw[Nat.add_assoc,<- h4] at this;obtain⟨b,off,spot⟩:=C;simp only at A;subst A;by_cases hp0:p=0
   ·subst hp0;simpa [Addr.add] using this
   ·simpa [Addr.add,hp0] using this⟩) hone
 rw[if_neg hn0] at J;refine⟨_,_,z _ _ J,hm.setBlk hl R T ?_⟩;have htk:(ys.take (es.length-i)).length=n:=by rw[List.length_take,hn];exact Nat.min_comm _ _
 have Q:i+(ys.take (es.length-i)).length<=es.length:=by omega
 have I: ∀ k,(cpyL es i ys)[k]? = if i<=k/\k<i+n then ys[k-i]? else es[k]? :=λk=>by
  unfold cpyL;rw[Qx _ _ _ _ Q,htk];by_cases hk:i<=k/\k<i+n
  ·rw[if_pos hk,if_pos hk,List.getElem?_take,if_pos (by omega)]
  ·rw[if_neg hk,if_neg hk]
 have l:=Z9Y es i ys hile;rw[hv];have M:i*sz+(Z0z sz n vals).length<=xs.length:=by rw[hxl,r];exact hrow
 have H:i*sz+(Z0z sz n vals).length<=cur.toList.length:=by rw[r,Array.length_toList];omega
 refine⟨h0,?_,xs.take (i*sz)++Z0z sz n vals++xs.drop (i*sz+(Z0z sz n vals).length),⟨?_,.inr ⟨g',Y,_,by rw[l],by assumption,setRow_heap w g' cur _ e _ hg,by rw[l];exact hnc,hcm,?_,?_⟩⟩,?_,?_⟩
 ·intro q hq;obtain⟨k,hk⟩:=List.mem_iff_getElem?.1 hq;rw[I] at hk;split at hk
  ·exact f q (List.mem_of_getElem? hk)
  ·exact hel q (List.mem_of_getElem? hk)
 ·rw[l];simp only[List.length_append,List.length_take,List.length_drop];omega
 ·simp only[List.size_toArray,List.length_append,List.length_take,List.length_drop,Array.length_toList];rw[<- hcs];rw[Array.length_toList] at H;omega
 ·rw[l];refine List.ext_getElem? λp=>?_;rw[List.getElem?_take,Qx _ _ _ _ M];simp only[];rw[Qx _ _ _ _ H];by_cases U:p<es.length*sz
  ·rw[if_pos U];split
   ·rfl
   ·rw[<- W,List.getElem?_take,if_pos U]
  ·rw[if_neg U,if_neg (by omega)];rw[List.getElem?_eq_none (by omega)]
 ·intro m q N d' a F;rw[I] at a;rw[List.getD_eq_getElem?_getD,Qx _ _ _ _ M,r];by_cases hk:i<=m/\m<i+n
  ·rw[if_pos hk] at a;have G:q.length=sz:=f q (List.mem_of_getElem? a);have hj2:N<sz:=by rw[<- G];exact (List.getElem?_eq_some_iff.1 F).1
   have e1:m*sz=i*sz+(m-i)*sz:=by rw[<- Nat.add_mul];congr 1;omega
   have e2:(m-i)*sz+sz<=n*sz:=by
    have:(m-i+1)*sz<=n*sz:=Nat.mul_le_mul_right _ (by omega);rwa [Nat.add_mul,Nat.one_mul] at this
   rw[if_pos ⟨by omega,by omega⟩,show m*sz+N-i*sz=(m-i)*sz+N by omega,Zbi (by omega) hj2];exact (B _ q N d' a F).2
  ·rw[if_neg hk] at a;have G:q.length=sz:=hel q (List.mem_of_getElem? a);have hj2:N<sz:=by rw[<- G];exact (List.getElem?_eq_some_iff.1 F).1
   have hout: ¬ (i*sz<=m*sz+N/\m*sz+N<i*sz+n*sz):=by
    rcases Nat.lt_or_ge m i with S|hge
    ·have:(m+1)*sz<=i*sz:=Nat.mul_le_mul_right _ S;rw[Nat.add_mul,Nat.one_mul] at this;omega
    ·have:(i+n)*sz<=m*sz:=Nat.mul_le_mul_right _ (by omega);rw[Nat.add_mul] at this;omega
   rw[if_neg hout,<- List.getD_eq_getElem?_getD];exact hrep m q N d' a F
 ·intro b' hb';have hbb:blk (h id)=some b':=by rw[hv];exact hb'
  refine⟨(hblk b' hbb).1,λoff=>?_⟩;rw[(hblk b' hbb).2 off];simp
theorem ZdV {P:Program} {o:Oper} {ρ:Operand->Value} {t u elem:TypeId} {j:TypeInfo} {x y:Operand} {dst a b id:Nat} {n p:D} {ob:Ob} (q:o.op=.call {callee:=.builtin .copy,args:=#[x,y],argTypes:=#[t,u]}) (r:P.underlying t=some (.slice elem))
  (g:P.info? elem=some j) (hm:Mod cx s φ h tmps w) (hx:RV φ h (ρ x) n) (z:RV φ h (ρ y) p) (c:stO (.cp dst j.size) n p (lk s.ob)=some (a,b,id,ob)) (f:a<b) :
  ∃ v w',(execOp ρ o).run P w=.ok (.value v) w'/\Mod cx {s with ob:=(id,ob)::s.ob} φ h tmps w':=by
 unfold stO at c;split at c
 ·cases c
 ·cases c
 ·cases c
 ·rename_i l;simp only at c;split at c
  ·rename_i m e es hl;split at c
   ·rename_i ys d;split at c
    ·rename_i hc;subst hc;cases c;exact Z72 q r g rfl hm hx (.inl ⟨rfl,rfl⟩) z d hl (Z2v.1 f)
    ·cases c
   ·cases c
  ·cases c
 ·rename_i l i A;simp only at c;split at c
  ·rename_i m e es hl;split at c
   ·rename_i ys d;split at c
    ·rename_i hc;obtain⟨rfl,k⟩:=hc;subst k;cases c;exact Z72 q r g rfl hm hx (.inr rfl) z d hl (Z2v.1 f)
    ·cases c
   ·cases c
  ·cases c
 ·cases c
end
end Go.Sx
namespace Go.Sx
open Go.RowKit
variable [Globs] [Codes]
section
variable {P:Program} {w:World}
theorem Z39 (t ty e:TypeId) (i:TypeInfo) (z:Value) (size bytes:Nat) (E:P.underlying t=some (.slice e)) (hi:P.info? e=some i) (R:i.zero=some z)
  (x:i.size=size) (I:i.bytes=bytes) (O:z.cells.size=size) (hsz:0<size)
  (v:Value) (n:Nat) (xs:List Value) (b:w.ownsRow 0 e size v n xs)
  (y:Value) (m:Nat) (news:List Value) (U:(y=.slice none 0 0/\m=0)\/ ∃ a c,y=.slice (some a) m c/\ ∀ j u,news[j]? = some u->w.cell? (a.add j)=some u)
  (hl:news.length=m*size) (h1: ∀ u∈news,u.oneCell'=true)
  (A:n+m<=maxLen) (l:(n+m)*bytes<=140737488355328) :
  ∃ F w',(Builtin.append_ #[t,t] ty #[v,y]).run P w=.ok F w'/\w'.ownsRow 0 e size F (n+m) (xs++news)/\F.oneCell'=true ∧
   (
    (blk F=blk v/\w'.os=w.os/\w'.tape=w.tape/\w'.output=w.output/\w'.heap.size=w.heap.size/\ ∀ k,blk v≠some k->w'.heap[k]? = w.heap[k]?) ∨
    (blk F=some w.heap.size/\Below w.heap.size w w')):=by
 subst x;subst I;rcases U with⟨rfl,rfl⟩|⟨a,c,rfl,d⟩
 ·have M:news=[]:=List.eq_nil_of_length_eq_zero (by simpa using hl);subst M;refine⟨v,w,run_append_owned_none w 0 t ty e i i.size E hi v n xs b,by simpa using b,?_,.inl ⟨rfl,rfl,rfl,rfl,rfl,λ_ _=>rfl⟩⟩;rcases b.2 with⟨rfl,_⟩|⟨g,cap,cur,rfl,_⟩<;>rfl
 have G:n+m<=9223372036854775807:=by simp only[maxLen] at A;omega
 have q:(xs++news).length=(n+m)*i.size:=by rw[List.length_append,b.1,hl,Nat.add_mul]
 have grown: ∀ (old:Nat),old<n+m →
   (w.drew.alloc (.cells (xs.toArray++news.toArray++Builtin.zeroCells z.cells (grownCap w (n+m) old e-(n+m))) e)).ownsRow 0 e i.size
    (.slice (some ⟨w.heap.size,0,none⟩) (n+m) (grownCap w (n+m) old e)) (n+m) (xs++news):=by
  intro old V;have L:=grownCap_ge w (n+m) old e;have r:grownCap w (n+m) old e<=maxLen:=grownCap_le_maxLen w (n+m) old e A;refine⟨q,.inr ⟨w.heap.size,_,_,rfl,Nat.zero_le _,heap_alloc_new w.drew _,L,r,?_,?_⟩⟩
  ·simp only[Array.size_append,List.size_toArray,size_zeroCells,O,b.1,hl,<- Nat.add_mul];congr 1;omega
  ·grind
 have p: ∀ ob,Below w.heap.size w (w.drew.alloc ob):=λob=>((Below.refl _ w).drew).alloc (Nat.le_refl _) _;rcases b.2 with⟨rfl,rfl⟩|⟨g,cap,cur,rfl,H,Q,T,r,J,N⟩
 ·have hx:xs=[]:=List.eq_nil_of_length_eq_zero (by simpa using b.1);subst hx;by_cases hm:m=0
  ·subst hm;have M:news=[]:=List.eq_nil_of_length_eq_zero (by simpa using hl);subst M;refine⟨.slice none 0 0,w,?_,World.ownsRow_nil w 0 e i.size,rfl,.inl ⟨rfl,rfl,rfl,rfl,rfl,λ_ _=>rfl⟩⟩;simp[Builtin.append_,run_underlying E,sizeOf,typeInfo,hi,Builtin.lenOf,Builtin.firstCells,loadCells,loadCellsFrom]
  ·have hr:=run_append_nil (P:=P) w t ty e i z E hi R a m c news hl d (by omega) (by omega) (by have S:=l;simp only[Nat.zero_add] at S;omega);have C:=grown 0 (by omega);simp only[Nat.zero_add,List.nil_append,Array.empty_append] at C ⊢;exact⟨_,_,hr,C,rfl,.inr ⟨rfl,p _⟩⟩
 ·by_cases f:n+m<=cap
  ·have B:n*i.size+news.length<=cur.size:=by rw[hl,J,<- Nat.add_mul];exact Nat.mul_le_mul_right _ f
   have hr:=run_append_room (P:=P) w t ty e i E hi g n cap cur Q a m c news hl d h1 f B;refine⟨_,_,hr,⟨q,.inr ⟨g,cap,_,rfl,H,setRow_heap w g cur _ e _ Q,f,r,?_,?_⟩⟩,rfl,.inl ⟨rfl,rfl,rfl,rfl,by simp,λk hk=>setRow_other w g k _ (λe=>hk (by simp[blk,e]))⟩⟩
   ·grind
   ·grind
  ·have holds: ∀ j u,xs[j]? = some u->w.cell? ((⟨g,0,none⟩:Addr).add j)=some u:=b.cells (g:=g) rfl;have hr:=run_append_grow (P:=P) w t ty e i z E hi R ⟨g,0,none⟩ n cap xs b.1 holds a m c news hl d (by omega) (by omega) (growslice_fits (by omega) l);exact⟨_,_,hr,grown cap (by omega),rfl,.inr ⟨rfl,p _⟩⟩
end
def Z8 {α:Type} (id:Nat):List (Nat × α)->List (Nat × α)
 |[]=>[]
 |(j,a)::l=>if j=id then Z8 id l else (j,a)::Z8 id l
theorem Zg6 {α β:Type} (f:α->β): ∀ (l:List (Nat × α)) (i:Nat),lk (l.map λp=>(p.1,f p.2)) i=(lk l i).map f:=by intro l;induction l<;>grind [lk]
theorem Zy {α:Type} (id:Nat): ∀ (l:List (Nat × α)) (i:Nat),lk (Z8 id l) i=if i=id then none else lk l i:=by intro l;induction l<;>grind [Z8,lk]
section
variable {cx:Cx} {s:St} {φ φ':Mem} {h:Nat->Value} {tmps:Array Value} {w w':World}
theorem Mod.world (hm:Mod cx s φ h tmps w) {g:Nat} (t:cx.own g) (c: ∀ i,(lk s.ob i).isSome->blk (h i)≠some g) (m: ¬ (cx.kp g).isSome) (n:w'.os=w.os) (f:w'.tape=w.tape) (j:w'.output=w.output)
  (d:w'.heap.size=w.heap.size) (hk: ∀ k,k≠g->w'.heap[k]? = w.heap[k]?) (l:Sub φ w'):Mod cx s φ h tmps w':=by
 refine⟨hm.size,hm.tm,l,hm.ext,hm.new,λi o p=>?_,hm.sep,n.trans hm.os,f.trans hm.tape,j.trans hm.output,by rw[d];exact hm.grow,hm.one,λb a q=>?_,hm.hfix,λb o a=>⟨by rw[hk b (λe=>m (e ▸ by rw[a];rfl))];exact (hm.kept b o a).1,(hm.kept b o a).2⟩⟩
 ·refine (hm.ob i o p).keep (λ_ a=>a) (λb a=>hk b ?_) (λ_ _ _ h=>h) (λ_ _ _=>rfl) (λ_ _ _ r=>r);intro e;subst e;exact c i (by simp[p]) a
 ·rw[hk b (λe=>by subst e;exact t.elim (λh=>by omega) q)];exact hm.frame b a q
theorem Mod.arr (hm:Mod cx s φ h tmps w) {dst id:Nat} {fz:Bool} {sz:Nat} {e:TypeId} {es:List (List D)} {hv:Value} (S:dst<cx.N) (hid:cx.bs<=id) (B:s.clean id=true) (E:hv.oneCell'=true)
  (y:ObR cx.own φ' h w hv (.arr fz sz e es)) (f: ∀ b o u,φ b o=some u->φ' b o=some u) (G:Sub φ' w) (n: ∀ b o u,φ' b o=some u->φ b o=none->blk hv=some b)
  (g: ∀ i b,(lk s.ob i).isSome->blk (h i)=some b->blk hv≠some b) (M: ∀ b,blk hv=some b-> ¬ (cx.kp b).isSome) :
  Mod cx (s.add dst id (.vec id) (some (.arr fz sz e es))) φ' (updH h id hv) (tmps.setIfInBounds dst hv) w:=by
 have F: ∀ b,blk hv=some b->cx.own b:=λb m=>(y.2.2.choose_spec.2.2 b m).1;refine⟨by simp[hm.size],?_,G,λb o v m=>f b o v (hm.ext b o v m),?_,?_,?_,hm.os,hm.tape,hm.output,hm.grow,?_,hm.frame,λi hi=>by rw[<- hm.hfix i hi];exact Zd _ _ (by omega),?_⟩
 ·intro t d hl;simp only[St.add,lk] at hl;split at hl
  ·rename_i O;cases hl;have:(tmps.setIfInBounds dst hv).getD t Go.undef=hv:=by
    subst O;have:t<tmps.size:=by rw[hm.size];exact S
    simp[Array.getD,this]
   rw[this];have r:=RV.vec (φ:=φ') (h:=updH h id hv) id (by rw[Zr];obtain⟨a,c,Q⟩:=Z1v y;rw[Q];rfl);rw[Zr] at r;exact r
  ·rename_i O;have:(tmps.setIfInBounds dst hv).getD t Go.undef=tmps.getD t Go.undef:=by
    simp[Array.getD_eq_getD_getElem?,Ne.symm O]
   rw[this];exact ((hm.tm t d hl).mono f).upd id hv (St.clean_tm B hl)
 ·intro b o u T h0;cases z:φ b o with
  |some U=>exact hm.new b o U z h0
  |none=>exact F b (n b o u T z)
 ·intro i o A;simp only[St.add,lk] at A;split at A
  ·rename_i hi;cases A;subst hi;have I:updH h i hv i=hv:=Zr _ _ _;rw[I];exact y.keep (λ_ m=>m) (λ_ _=>rfl) (λ_ _ _ h=>h) (λ_ _ _=>rfl) (λ_ _ L=>by cases L)
  ·rename_i hi;have I:updH h id hv i=h i:=Zd _ _ hi;rw[I];refine (hm.ob i o A).keep (λ_ m=>m) (λ_ _=>rfl) f (λb m off=>?_) (λv d J r=>?_)
   ·cases z:φ b off with
    |some u=>exact f b off u z
    |none =>
     cases N:φ' b off with
     |none=>rfl
     |some u=>exact absurd (n b off u N z) (g i b (by simp[A]) m)
   ·have C:=St.clean_ob B A;obtain⟨j,H⟩:=List.mem_iff_getElem?.1 J;exact (r.mono f).upd id hv (Qk C j d H)
 ·intro i j b hi H k l;have p: ∀ i,i≠id->(lk (s.add dst id (.vec id) (some (.arr fz sz e es))).ob i).isSome->(lk s.ob i).isSome:=λi q hi=>by
   simpa only[St.add,lk,if_neg q] using hi
  by_cases h1:i=id<;>by_cases h2:j=id
  ·rw[h1,h2]
  ·subst h1;simp only[Zr] at k;simp only[Zd h hv h2] at l;exact absurd k (g j b (p j h2 H) l)
  ·subst h2;simp only[Zr] at l;simp only[Zd h hv h1] at k;exact absurd l (g i b (p i h1 hi) k)
  ·simp only[Zd h hv h1] at k;simp only[Zd h hv h2] at l;exact hm.sep i j b (p i h1 hi) (p j h2 H) k l
 ·intro i;simp only[updH];split
  ·exact E
  ·exact hm.one i
 ·intro b o m;obtain⟨h1,h2,R⟩:=hm.kept b o m;have q:blk hv≠some b:=λL=>M b L (by rw[m];rfl);refine⟨h1,λoff=>?_,λi hi=>?_⟩
  ·cases z:φ' b off with
   |none=>rfl
   |some u=>exact absurd (n b off u z (h2 off)) q
  ·by_cases x:i=id
   ·subst x;simp only[Zr];exact q
   ·simp only[Zd h hv x];simp only[St.add,lk,if_neg x] at hi;exact R i hi
end
end Go.Sx
namespace Go.Sx
open Go.RowKit
variable [Globs] [Codes]
section
variable {P:Program} {cx:Cx} {s:St} {φ:Mem} {h:Nat->Value} {tmps:Array Value} {w:World}
theorem Z4E {v:Value} {ys ext:List (List D)} (m:Sub φ w) (F:Rep φ v (.slice ys ext)) {sz:Nat} (hsz:0<sz) (g: ∀ q∈ys,q.length=sz) :
  ∃ news:List Value,((v=.slice none 0 0/\ys.length=0)\/ ∃ a c,v=.slice (some a) ys.length c/\ ∀ j u,news[j]? = some u->w.cell? (a.add j)=some u)/\news.length=ys.length*sz ∧
   (∀ u∈news,u.oneCell'=true)/\ ∀ i x j d,ys[i]? = some x->x[j]? = some d->Rep φ (news.getD (i*sz+j) Go.undef) d:=by
 rcases F.slice_inv with⟨⟨a,c,rfl,r⟩,rfl,rfl⟩|⟨b,off,cap,e,vals,rfl,hcap,n,hmem,hrep⟩
 ·cases a with
  |none=>obtain rfl:=r rfl;exact⟨[],.inl ⟨rfl,rfl⟩,by simp,by simp,by simp⟩
  |some a=>exact⟨[],.inr ⟨a,c,rfl,by simp⟩,by simp,by simp,by simp⟩
 ·by_cases z:ys=[]
  ·subst z;exact⟨[],.inr ⟨_,cap,rfl,by simp⟩,by simp,by simp,by simp⟩
  ·have A:e=sz:=by
    obtain⟨q,k⟩:=List.exists_mem_of_ne_nil _ z;rw[<- n q (List.mem_append_left _ k),g q k]
   subst A;have f: ∀ q,q<ys.length*e-> ∃ x d,(ys++ext)[q / e]? = some x/\x[q % e]? = some d:=λq k=>by
    have h1:q / e<ys.length:=(Nat.div_lt_iff_lt_mul hsz).2 k;have h2:(ys++ext)[q / e]? = some ys[q / e]:=by rw[List.getElem?_append_left h1,List.getElem?_eq_getElem h1]
    have y:ys[q / e].length=e:=g _ (List.getElem_mem h1);have E:q % e<ys[q / e].length:=by rw[y];exact Nat.mod_lt _ hsz
    exact⟨_,_,h2,List.getElem?_eq_getElem E⟩
   refine⟨(List.range (ys.length*e)).map λq=>vals (q / e) (q % e),.inr ⟨_,cap,rfl,?_⟩,by simp,?_,?_⟩
   ·intro j u l;rw[List.getElem?_map] at l;by_cases p:j<ys.length*e
    ·simp[p] at l;subst l;obtain⟨x,d,hx,t⟩:=f j p
     have:=hmem _ _ _ _ hx t;rw[Addr.add_lit];have B:off+j / e*e+j % e=off+j:=by
      have:=Nat.div_add_mod j e;rw[Nat.mul_comm] at this;omega
     rw[B] at this;exact m _ _ _ this
    ·grind
   ·intro u l;simp only[List.mem_map,List.mem_range] at l;obtain⟨q,k,rfl⟩:=l;obtain⟨x,d,hx,t⟩:=f q k;exact (hrep _ _ _ _ hx t).one
   ·intro i x j d hi p;have h1:i<ys.length:=(List.getElem?_eq_some_iff.1 hi).1;have h2:j<e:=by
     grind
    have y:i*e+j<ys.length*e:=by
     have:(i+1)*e<=ys.length*e:=Nat.mul_le_mul_right _ h1;rw[Nat.add_mul,Nat.one_mul] at this;omega
    have G:(i*e+j) / e=i:=by
     rw[Nat.add_comm,Nat.add_mul_div_right _ _ hsz,Nat.div_eq_of_lt h2,Nat.zero_add]
    have H:(i*e+j) % e=j:=by
     rw[Nat.add_comm,Nat.add_mul_mod_self_right,Nat.mod_eq_of_lt h2]
    have C:((List.range (ys.length*e)).map λq=>vals (q / e) (q % e)).getD (i*e+j) Go.undef=vals i j:=by
     grind
    rw[C];exact hrep _ _ _ _ (by rw[List.getElem?_append_left h1];exact hi) p
def Z4F (φ:Mem) (g:Option Nat) (xs:List Value):Mem:=λb o=>if g=some b then xs[o]? else φ b o
theorem ZaO {φ:Mem} {es ys:List (List D)} {xs news:List Value} {sz:Nat} (hx:xs.length=es.length*sz) (c: ∀ q∈es,q.length=sz) (h1: ∀ i x j d,es[i]? = some x->x[j]? = some d->Rep φ (xs.getD (i*sz+j) Go.undef) d)
  (h2: ∀ i x j d,ys[i]? = some x->x[j]? = some d->Rep φ (news.getD (i*sz+j) Go.undef) d) :
  ∀ i x j d,(es++ys)[i]? = some x->x[j]? = some d->Rep φ ((xs++news).getD (i*sz+j) Go.undef) d:=by
 intro i x j d hi b;by_cases a:i<es.length
 ·rw[List.getElem?_append_left a] at hi;have k:j<sz:=by
   grind
  have f:i*sz+j<xs.length:=by
   rw[hx];have:(i+1)*sz<=es.length*sz:=Nat.mul_le_mul_right _ a;rw[Nat.add_mul,Nat.one_mul] at this;omega
  have e:(xs++news).getD (i*sz+j) Go.undef=xs.getD (i*sz+j) Go.undef:=by
   grind
  rw[e];exact h1 i x j d hi b
 ·rw[List.getElem?_append_right (by omega)] at hi;have e:(xs++news).getD (i*sz+j) Go.undef=news.getD ((i-es.length)*sz+j) Go.undef:=by
   simp only[List.getD];have g:es.length*sz<=i*sz:=Nat.mul_le_mul_right _ (by omega);rw[List.getElem?_append_right (by rw[hx];omega),hx,Nat.sub_mul];congr 2;omega
  rw[e];exact h2 _ x j d hi b
theorem ZgZ {own:Nat->Prop} {hv:Value} {fz:Bool} {sz b:Nat} {e:TypeId} {es:List (List D)} (r:ObR own φ h w hv (.arr fz b e es)) (hsz:0<sz) (k: ∀ q∈es,q.length=sz) :
  ∃ news:List Value,((hv=.slice none 0 0/\es.length=0)\/ ∃ a c,hv=.slice (some a) es.length c/\ ∀ j u,news[j]? = some u->w.cell? (a.add j)=some u)/\news.length=es.length*sz ∧
   (∀ u∈news,u.oneCell'=true)/\ ∀ i x j d,es[i]? = some x->x[j]? = some d->Rep φ (news.getD (i*sz+j) Go.undef) d:=by
 obtain⟨h0,hl,xs,f,hrep,hblk⟩:=r;by_cases y:es=[]
 ·subst y;rcases f.2 with⟨rfl,_⟩|⟨g,cap,cur,rfl,_⟩
  ·simp_all
  ·exact⟨[],.inr ⟨_,cap,rfl,by simp⟩,by simp,by simp,by simp⟩
 ·have A:b=sz:=by
   obtain⟨q,z⟩:=List.exists_mem_of_ne_nil _ y;rw[<- hl q z,k q z]
  subst A;rcases f.2 with⟨_,C⟩|⟨g,cap,cur,rfl,I,hh,hcap,v,G,l⟩
  ·grind
  ·have m:xs.length=es.length*b:=f.1;refine⟨xs,.inr ⟨_,cap,rfl,λj u n=>?_⟩,m,λu n=>?_,hrep⟩
   ·have H:j<es.length*b:=by rw[<- m];exact (List.getElem?_eq_some_iff.1 n).1
    rw[<- l,List.getElem?_take_of_lt H,Array.getElem?_toList] at n;rw[Addr.add_lit,Nat.zero_add];simp only[World.cell?,hh,n];rfl
   ·obtain⟨p,hp⟩:=List.getElem?_of_mem n;have t:p<es.length*b:=by rw[<- m];exact (List.getElem?_eq_some_iff.1 hp).1
    have h1:p / b<es.length:=(Nat.div_lt_iff_lt_mul hsz).2 t;have E:es[p / b].length=b:=k _ (List.getElem_mem h1);have F:p % b<es[p / b].length:=by rw[E];exact Nat.mod_lt _ hsz
    have:=hrep (p / b) _ (p % b) _ (List.getElem?_eq_getElem h1) (List.getElem?_eq_getElem F);have B:p / b*b+p % b=p:=by
     have:=Nat.div_add_mod p b;rw[Nat.mul_comm] at this;omega
    rw[B,List.getD_eq_getElem?_getD,hp] at this;exact this.one
theorem Z8A {t ty e:TypeId} {i:TypeInfo} {z:Value} {sz bytes dst id:Nat} (ht:P.underlying t=some (.slice e)) (hi:P.info? e=some i) (hz:i.zero=some z) (T:i.size=sz) (hby:i.bytes=bytes)
  (hzs:z.cells.size=sz) (hsz:0<sz) {s1:St} (hm:Mod cx s1 φ h tmps w) (hd:dst<cx.N) (hid:cx.bs<=id) (Q:s1.clean id=true) {fz:Bool} {v:Value} {es ys:List (List D)} (hob:ObR cx.own φ h w v (.arr fz sz e es))
  (p: ∀ i b,(lk s1.ob i).isSome->blk (h i)=some b->blk v≠some b) (X: ∀ b,blk v=some b-> ¬ (cx.kp b).isSome)
  {y:Value} (hy: ∃ news:List Value,((y=.slice none 0 0/\ys.length=0)\/ ∃ a c,y=.slice (some a) ys.length c/\ ∀ j u,news[j]? = some u->w.cell? (a.add j)=some u)/\news.length=ys.length*sz ∧
   (∀ u∈news,u.oneCell'=true)/\ ∀ i x j d,ys[i]? = some x->x[j]? = some d->Rep φ (news.getD (i*sz+j) Go.undef) d) (U: ∀ q∈ys,q.length=sz) (h63:es.length+ys.length<=maxLen) (I:(es.length+ys.length)*bytes<=140737488355328) :
  ∃ H w' φ',(Builtin.append_ #[t,t] ty #[v,y]).run P w=.ok H w'/\Mod cx (s1.add dst id (.vec id) (some (.arr fz sz e (es++ys)))) φ' (updH h id H) (tmps.setIfInBounds dst H) w':=by
 obtain⟨_,J,xs,M,hrep,hblk⟩:=hob;obtain⟨news,hya,hnl,Y,R⟩:=hy;obtain⟨H,w',N,f,S,O⟩:=Z39 (P:=P) t ty e i z sz bytes ht hi hz T hby hzs hsz v es.length xs M y ys.length news hya hnl Y h63 I;have A: ∀ q∈es++ys,q.length=sz:=λq hq=>(List.mem_append.1 hq).elim (J q) (U q);have C:w'.ownsRow 0 e sz H (es++ys).length (xs++news):=by rw[List.length_append];exact f
 have hxl:xs.length=es.length*sz:=M.1;have hcells: ∀ g,blk H=some g-> ∀ j u,(xs++news)[j]? = some u->w'.cell? ⟨g,j,none⟩=some u:=λg hg j u m=>by
  have hg':H.ownBlock=some g:=by
   rcases f.2 with⟨rfl,_⟩|⟨g2,c2,cur2,rfl,_⟩
   ·cases hg
   ·cases hg;rfl
  have:=f.cells hg' j u m;rwa [Addr.add_lit,Nat.zero_add] at this
 have E:=ZaO (es:=es) (ys:=ys) (xs:=xs) (news:=news) hxl J hrep R;rcases O with⟨n,hos,G,L,W,hk⟩|⟨n,V⟩
 ·-- in place
  have F:Sub φ w':=λb o u m=>by
   by_cases l:blk v=some b
   ·grind
   ·rw[World.cell?_of_block (w:=w) (a:=⟨b,o,none⟩) (hk b l)];exact hm.mem b o u m
  have hm':Mod cx s1 φ h tmps w':=by
   cases hv:blk v with
   |none =>
    refine⟨hm.size,hm.tm,F,hm.ext,hm.new,λi o ho=>?_,hm.sep,hos.trans hm.os,G.trans hm.tape,L.trans hm.output,by rw[W];exact hm.grow,hm.one,λb h1 h2=>?_,hm.hfix,λb o n=>⟨by rw[hk b (by rw[hv];simp)];exact (hm.kept b o n).1,(hm.kept b o n).2⟩⟩
    ·exact (hm.ob i o ho).keep (λ_ n=>n) (λb _=>hk b (by rw[hv];simp)) (λ_ _ _ h=>h) (λ_ _ _=>rfl) (λ_ _ _ r=>r)
    ·rw[hk b (by rw[hv];simp)];exact hm.frame b h1 h2
   |some g=>exact hm.world (hblk g hv).1 (λi hi e'=>p i g hi e' hv) (X g hv) hos G L W (λk hkg=>hk k (by rw[hv];simp;omega)) F
  have B: ∀ b o u,φ b o=some u->(if fz then Z4F φ (blk H) (xs++news) else φ) b o=some u:=by
   intro b o u m;cases fz
   ·exact m
   ·simp only[if_true,Z4F];split
    ·grind
    ·exact m
  refine⟨H,w',if fz then Z4F φ (blk H) (xs++news) else φ,N,hm'.arr hd hid Q S ?_ B ?_ ?_ (λi b h1 h2=>by rw[n];exact p i b h1 h2) (λb l=>X b (by rw[<- n];exact l))⟩
  ·refine⟨hsz,A,xs++news,C,λi x j d h1 h2=>(E i x j d h1 h2).mono B,λb l=>⟨(hblk b (by rw[<- n];exact l)).1,λo=>?_⟩⟩;cases fz
   ·grind
   ·simp only[if_true,l,Z4F,true_and];split
    ·rfl
    ·rename_i hnlt;exact List.getElem?_eq_none (by rw[C.1];omega)
  ·intro b o u m;cases fz
   ·grind
   ·simp only[if_true,Z4F] at m;split at m
    ·grind
    ·grind
  ·intro b o u m hn;cases fz
   ·grind
   ·simp only[if_true,Z4F] at m;split at m
    ·grind
    ·grind
 ·-- a new block
  rcases f.2 with⟨rfl,_⟩|⟨g,cap,cur,rfl,_⟩
  ·cases n
  ·simp only[blk,Option.some.injEq] at n;have hst:=AStep.arr (h:=h) (dst:=id) hm.mem (w':=w') V (fz:=fz) (sz:=sz) (e:=e) (es:=es++ys) (g:=g) (cap:=cap) (xs:=xs++news) (by omega) hsz A (by rw[List.length_append];exact f) E
   have:=hm.astep hst hd hid (λ_ _ _ h=>St.clean_tm Q h) (λ_ _ _ h=>St.clean_ob Q h) (λ_=>rfl);rw[List.length_append] at this;exact⟨_,w',_,N,this⟩
end
end Go.Sx
