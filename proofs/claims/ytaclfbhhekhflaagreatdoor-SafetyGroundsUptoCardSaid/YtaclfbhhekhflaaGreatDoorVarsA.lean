/- Own work: a layer over the kit: plain data,a walk over it,its soundness. -/
import Derived.Test.YtaclfbhhekhflaaGreatDoorArXpQ
import Derived.Test.YtaclfbhhekhflaaGreatDoorSx10
set_option linter.all false
set_option maxRecDepth 100000
/- Vars: what it answers. -/
noncomputable section
namespace Go.Proofs.YtaclfbhhekhflaaGreatDoor.S
open Go.Sx
def oN (k n:Int) (s:LU) (a:LD):List (LU)->Obs
 |[]=>obN k n s a
 |c::r=>obA k n s a 4 (strC (c::r))
def oA (k n:Int) (s:LU) (a:LD) (o:List (LU)):List (LU)->Obs
 |[]=>obA k n s a 4 (strC o)
 |c::r=>obA k n s a 5 (strC (o++c::r))
theorem ZiA (k n:Int) (s:LU) (a:LD) (x:Tm):CallL Tryz.prog (.yld 0) [.agg x.cells] (obN k n s a) λr ob=>r=.bool true/\ob=oN k n s a x.v1:=by
 obtain⟨b,nx,d,c⟩:=x;refine CallL.yldT Z3 (Z2 Z1 Z0) rfl (Zsh b nx d (Tm.cellsL c) k n s a) ?_;rw[Zs,Z4,Z7,Z7];refine⟨λh=>⟨⟨Z4r.2 ⟨rfl,Z56 _⟩,by decide⟩,rfl,?_⟩,λh=>⟨rfl,?_⟩⟩
 ·have h:=of_decide_eq_true h;have:b=3:=by omega
  subst this;rfl
 ·have h:=of_decide_eq_false h;simp only[Tm.v1];rw[if_neg (by omega)];rfl
theorem Z7p (k n:Int) (s:LU) (a:LD) (x:Tm) (o:List (LU)) (d:o.length+x.v1.length<=1073741824):CallL Tryz.prog (.yld 0) [.agg x.cells] (obA k n s a 4 (strC o)) λr ob=>r=.bool true/\ob=oA k n s a o x.v1:=by
 obtain⟨b,nx,e,c⟩:=x;refine CallL.yldT Z3 (Z2 Z1 Z0) rfl (Zen b nx e (Tm.cellsL c) k n s a (strC o)) ?_;rw[Zs,Z4,Z7,Z7];refine⟨λh=>?_,λh=>⟨rfl,?_⟩⟩
 ·have h:=of_decide_eq_true h;have:b=3:=by omega
  subst this;refine⟨⟨Z4r.2 ⟨rfl,Z56 _⟩,by simpa [Zp,Tm.v1] using d⟩,rfl,?_⟩;simp only[Tm.v1,if_true,oA,QP];rfl
 ·have h:=of_decide_eq_false h;simp only[Tm.v1];rw[if_neg (by omega)];rfl
def VisN (k n:Int) (s:LU) (a:LD) (x:Tm):Prop:=CF 114 [.agg x.cells,.yld 0] (obN k n s a) λr ob=>r=.bool true/\ob=oN k n s a x.vs
def VisA (k n:Int) (s:LU) (a:LD) (x:Tm):Prop:=∀ o:List (LU),o.length+x.vs.length<=1073741824->CF 114 [.agg x.cells,.yld 0] (obA k n s a 4 (strC o)) λr ob=>r=.bool true/\ob=oA k n s a o x.vs
theorem ZtM (k n:Int) (s:LU) (a:LD) (l:List Tm) (hl:l.length<=281474976710656) (HN: ∀ x∈l,VisN k n s a x) (HA: ∀ x∈l,VisA k n s a x): ∀ (m i:Nat) (g:List (LU)),l.length-i=m->i<=l.length->g.length+(Tm.vsL (l.drop i)).length<=1073741824 →
  At Tryz.prog 4 (cut Z1I 0) (hdVi (Tm.cellsL l) l.length i (oN k n s a g)) (FinQ false 4 Z2G λr ob=>r=.bool true/\ob=oN k n s a (g++Tm.vsL (l.drop i))):=by
 intro m;induction m with
 |zero =>
  intro i g hm hi _;rw[List.drop_eq_nil_of_le (by omega)];simp only[Tm.vsL,List.append_nil];cases g with
  |nil =>
   refine At.tree (Z2 Z1 (QM (.bool true) true [])) (Zic (Tm.cellsL l) l.length i 0 0 [] [] k n s a true []) ?_;rw[Zs];refine⟨λh=>?_,λ_=>?_⟩
   ·have:=of_decide_eq_true h;omega
   ·rw[Z7];exact⟨rfl,rfl⟩
  |cons c r =>
   refine At.tree (Z2 Z1 (QM (.bool true) true [])) (Zid (Tm.cellsL l) l.length i 0 0 [] [] k n s a (strC (c::r)) true []) ?_;rw[Zs];refine⟨λh=>?_,λ_=>?_⟩
   ·have:=of_decide_eq_true h;omega
   ·rw[Z7];exact⟨rfl,rfl⟩
 |succ m u =>
  intro i g hm hi j;have h1:i<l.length:=by omega
  have hx:(Tm.cellsL l)[i]? = some l[i].cells:=by rw[Zn];simp[h1]
  have f:=HN _ (List.getElem_mem h1);have d:=HA _ (List.getElem_mem h1);have t:l.drop i=l[i]::l.drop (i+1):=List.drop_eq_getElem_cons h1;rw[t] at j ⊢;simp only[Tm.vsL,List.length_append] at j ⊢;have b:=u (i+1) (g++Tm.vs l[i]) (by omega) (by omega) (by rw[List.length_append];omega);rw[<- List.append_assoc];unfold VisN at f;have d:=d g (by omega);generalize Tm.vs l[i]=v at f d b j ⊢;generalize l[i]=x at hx f d;obtain⟨p,nx,q,o⟩:=x;cases g with
  |nil =>
   rw[List.nil_append] at b ⊢;refine At.tree (Z2 Z1 (QM (.bool true) v.isEmpty (strC v))) (Zic (Tm.cellsL l) l.length i p nx q (Tm.cellsL o) k n s a v.isEmpty (strC v)) ?_;rw[Zs];refine⟨λ_=>?_,λh=>?_⟩
   ·rw[Z4,Int.toNat_natCast];refine⟨⟨by omega,hx⟩,?_⟩;cases v with
    |nil =>
     rw[show List.isEmpty ([]:List (LU))=true from rfl,ZL,Z4,Z4,Z6];exact⟨f,by omega,b⟩
    |cons c r =>
     rw[show List.isEmpty (c::r)=false from rfl,Zx,Z4,Z4,Z6];exact⟨f,by omega,b⟩
   ·have:=of_decide_eq_false h;omega
  |cons c0 r0 =>
   refine At.tree (Z2 Z1 (QM (.bool true) v.isEmpty (strC v))) (Zid (Tm.cellsL l) l.length i p nx q (Tm.cellsL o) k n s a (strC (c0::r0)) v.isEmpty (strC v)) ?_;rw[Zs];refine⟨λ_=>?_,λh=>?_⟩
   ·rw[Z4,Int.toNat_natCast];refine⟨⟨by omega,hx⟩,?_⟩;cases v with
    |nil =>
     rw[List.append_nil] at b ⊢;rw[show List.isEmpty ([]:List (LU))=true from rfl,ZL,Z4,Z4,Z6];exact⟨d,by omega,b⟩
    |cons c r =>
     rw[show List.isEmpty (c::r)=false from rfl,Zx,Z4,Z4,Z6];simp only[oA,QP] at d;have e:oN k n s a (c0::r0++c::r)=obA k n s a 4 (strC (c0::r0)++strC (c::r)):=by rw[<- QP];rfl
     rw[e] at b;exact⟨d,by omega,b⟩
   ·have:=of_decide_eq_false h;omega
theorem ZtN (k n:Int) (s:LU) (a:LD) (l:List Tm) (hl:l.length<=281474976710656) (o:List (LU)) (HA: ∀ x∈l,VisA k n s a x): ∀ (m i:Nat) (g:List (LU)),l.length-i=m->i<=l.length->o.length+(g.length+(Tm.vsL (l.drop i)).length)<=1073741824 →
  At Tryz.prog 5 (cut Z1I 0) (hdVi (Tm.cellsL l) l.length i (oA k n s a o g)) (FinQ false 5 Z2G λr ob=>r=.bool true/\ob=oA k n s a o (g++Tm.vsL (l.drop i))):=by
 intro m;induction m with
 |zero =>
  intro i g hm hi _;rw[List.drop_eq_nil_of_le (by omega)];simp only[Tm.vsL,List.append_nil];cases g with
  |nil =>
   refine At.tree (Z2 Z1 (QM (.bool true) true [])) (Zif (Tm.cellsL l) l.length i 0 0 [] [] k n s a (strC o) true []) ?_;rw[Zs];refine⟨λh=>?_,λ_=>?_⟩
   ·have:=of_decide_eq_true h;omega
   ·rw[Z7];exact⟨rfl,rfl⟩
  |cons c r =>
   refine At.tree (Z2 Z1 (QM (.bool true) true [])) (Zie (Tm.cellsL l) l.length i 0 0 [] [] k n s a (strC (o++c::r)) true []) ?_;rw[Zs];refine⟨λh=>?_,λ_=>?_⟩
   ·have:=of_decide_eq_true h;omega
   ·rw[Z7];exact⟨rfl,rfl⟩
 |succ m w =>
  intro i g hm hi f;have h1:i<l.length:=by omega
  have hx:(Tm.cellsL l)[i]? = some l[i].cells:=by rw[Zn];simp[h1]
  have b:=HA _ (List.getElem_mem h1);have u:l.drop i=l[i]::l.drop (i+1):=List.drop_eq_getElem_cons h1;rw[u] at f ⊢;simp only[Tm.vsL,List.length_append] at f ⊢;have d:=w (i+1) (g++Tm.vs l[i]) (by omega) (by omega) (by rw[List.length_append];omega);rw[<- List.append_assoc];have b:=b (o++g) (by rw[List.length_append];omega);generalize Tm.vs l[i]=v at b d f ⊢;generalize l[i]=x at hx b;obtain⟨p,nx,q,j⟩:=x;cases g with
  |nil =>
   rw[List.append_nil] at b;rw[List.nil_append] at d ⊢;refine At.tree (Z2 Z1 (QM (.bool true) v.isEmpty (strC v))) (Zif (Tm.cellsL l) l.length i p nx q (Tm.cellsL j) k n s a (strC o) v.isEmpty (strC v)) ?_;rw[Zs];refine⟨λ_=>?_,λh=>?_⟩
   ·rw[Z4,Int.toNat_natCast];refine⟨⟨by omega,hx⟩,?_⟩;cases v with
    |nil =>
     rw[show List.isEmpty ([]:List (LU))=true from rfl,ZL,Z4,Z4,Z6];exact⟨b,by omega,d⟩
    |cons c r =>
     rw[show List.isEmpty (c::r)=false from rfl,Zx,Z4,Z4,Z6];simp only[oA,QP] at b;have e:oA k n s a o (c::r)=obA k n s a 5 (strC o++strC (c::r)):=by rw[<- QP];rfl
     rw[e] at d;exact⟨b,by omega,d⟩
   ·have:=of_decide_eq_false h;omega
  |cons c0 r0 =>
   refine At.tree (Z2 Z1 (QM (.bool true) v.isEmpty (strC v))) (Zie (Tm.cellsL l) l.length i p nx q (Tm.cellsL j) k n s a (strC (o++c0::r0)) v.isEmpty (strC v)) ?_;rw[Zs];refine⟨λ_=>?_,λh=>?_⟩
   ·rw[Z4,Int.toNat_natCast];refine⟨⟨by omega,hx⟩,?_⟩;cases v with
    |nil =>
     rw[List.append_nil] at d ⊢;rw[show List.isEmpty ([]:List (LU))=true from rfl,ZL,Z4,Z4,Z6];exact⟨b,by omega,d⟩
    |cons c r =>
     rw[show List.isEmpty (c::r)=false from rfl,Zx,Z4,Z4,Z6];have t:oA k n s a (o++c0::r0) (c::r)=obA k n s a 5 (strC (o++c0::r0)++strC (c::r)):=by rw[<- QP];rfl
     rw[t] at b;have e:oA k n s a o (c0::r0++c::r)=obA k n s a 5 (strC (o++c0::r0)++strC (c::r)):=by rw[<- QP,List.append_assoc];rfl
     rw[e] at d;exact⟨b,by omega,d⟩
   ·have:=of_decide_eq_false h;omega
theorem Z8P (k n:Int) (s:LU) (a:LD): ∀ x:Tm,x.wf 281474976710656->x.vs.length<=1073741824->VisN k n s a x/\VisA k n s a x
 |.mk d nx f l,hx,hv=>by
  have b:=ZiA k n s a (.mk d nx f l);have h:=Z7p k n s a (.mk d nx f l);simp only[Tm.wf] at hx;obtain⟨hk,j,m,hs,hl,q⟩:=hx;simp only[Tm.vs,List.length_append] at hv;have IH: ∀ y∈l,VisN k n s a y/\VisA k n s a y:=λy b=>Z8P k n s a y (Qe.1 q y b) (by have:=Z59 b;omega);have i:=ZtM k n s a l hl (λy b=>(IH y b).1) (λy b=>(IH y b).2) _ 0 (Tm.v1 (.mk d nx f l)) rfl (Nat.zero_le _) hv;have g:=λo=>ZtN k n s a l hl o (λy b=>(IH y b).2) _ 0 (Tm.v1 (.mk d nx f l)) rfl (Nat.zero_le _);unfold VisN VisA;simp only[Tm.vs,List.length_append];generalize Tm.v1 (.mk d nx f l)=v at *
  constructor
  ·refine CallL.tree Z3 Zgs (Z2 Z1 (QM (.bool true) v.isEmpty (strC v))) (Znr d nx f (Tm.cellsL l) k n s a v.isEmpty (strC v)) ?_;rw[Z5];cases v with
   |nil =>
    rw[show List.isEmpty ([]:List (LU))=true from rfl,ZL,Z4,Z6];exact⟨b,i⟩
   |cons c r =>
    rw[show List.isEmpty (c::r)=false from rfl,Zx,Z4,Z6];exact⟨b,i⟩
  ·intro o p;have b:=h o (by omega);have g:=g o p;refine CallL.tree Z3 Zgs (Z2 Z1 (QM (.bool true) v.isEmpty (strC v))) (Zns d nx f (Tm.cellsL l) k n s a (strC o) v.isEmpty (strC v)) ?_;rw[Z5];cases v with
   |nil =>
    rw[show List.isEmpty ([]:List (LU))=true from rfl,ZL,Z4,Z6];exact⟨b,g⟩
   |cons c r =>
    rw[show List.isEmpty (c::r)=false from rfl,Zx,Z4,Z6];have e:oA k n s a o (c::r)=obA k n s a 5 (strC o++strC (c::r)):=by rw[<- QP];rfl
    rw[e] at b g;exact⟨b,g⟩
termination_by x=>SizeOf.sizeOf x
decreasing_by
 have:=List.sizeOf_lt_of_mem b;simp only[Tm.mk.sizeOf_spec];omega
theorem Zl3 (x:Tm) (hx:x.wf 281474976710656) (hv:x.vs.length<=1073741824) (k n:Int) (s:LU) (a:LD) (e:tC k n s a=x.cells) :
  CallL Tryz.prog (.func (.func 113) [] [.ptr 0 0]) [.yld 1] (obS k n s a) λr ob=>r=.tuple []/\ob=match x.vs.isEmpty with
   |true=>obS k n s a
   |false=>addO (strC x.vs) (obS k n s a):=by
 have b:=(Z8P k n s a x hx hv).1;unfold VisN at b;rw[<- e] at b;generalize x.vs=v at b ⊢;refine CallL.tree Z3 Zlj (Z2 Z1 (QM (.bool true) v.isEmpty (strC v))) (Znq k n s a v.isEmpty (strC v)) ?_;cases v with
 |nil =>
  rw[show List.isEmpty ([]:List (LU))=true from rfl,ZL,Z4,Z7];exact⟨b,rfl,rfl⟩
 |cons c r =>
  rw[show List.isEmpty (c::r)=false from rfl,Zx,Z4,Z7];exact⟨b,rfl,rfl⟩
theorem Zfk (x:Tm) (hx:x.wf 281474976710656) (hv:x.vs.length<=1073741824):FK 70 [.agg x.cells] (if x.vs.isEmpty=true then .slice [] [] else .own 1 9 (strC (Lib.compact (srt x.vs)))):=by
 obtain⟨k,n,s,l⟩:=x;have b:=Zl3 (.mk k n s l) hx hv k n s (Tm.cellsL l) rfl;generalize Tm.vs (.mk k n s l)=v at b hv ⊢;refine FnOK.tree Z3 fpV (Z2 Z1 (QT.or_ok (QT.or_ok Z7y (QM (.tuple []) v.isEmpty (strC v))) (ZlU (strC (srt v)) (strC (Lib.compact (srt v)))))) (Zta k n s (Tm.cellsL l) v.isEmpty (strC v) (strC (srt v)) (strC (Lib.compact (srt v)))) ?_;rw[Z4];refine⟨trivial,?_⟩;cases v with
 |nil =>
  rw[show List.isEmpty ([]:List (LU))=true from rfl,ZL,Z4,Z4,Z4,Z7];exact⟨b,CallL.sortN fp72.2 λp cap w=>Tryz.slices_Sort_string_none p cap w,CallL.compactN Zlk.2 λp cap w=>Tryz.slices_Compact_string_empty p cap w,rfl⟩
 |cons c r =>
  rw[show List.isEmpty (c::r)=false from rfl,Zx,Z4,Z4,Z4,Z7];have hs:(srt (c::r)).length=(c::r).length:=by unfold srt;simp
  refine⟨b,CallL.sortS fp72.2 (λblk cap d w h1 h2 a=>Tryz.slices_Sort_string blk 0 cap d w h1 h2 a) _ _ (by simp) (by omega),CallL.compactS Zlk.2 (λblk cap zs w h1 h2 a=>Tryz.slices_Compact_string blk 0 cap zs w h1 h2 a) _ _ (λe=>by rw[e] at hs;simp at hs) (by omega),rfl⟩
theorem Z7r (x:Tm) (hx:x.wf 281474976710656) (hv:x.vs.length<=1073741824):FK 70 [.agg x.cells] (.slice (strC x.W) []):=by
 have h:=Zfk x hx hv;rw[<- V_eq];cases a:x.vs with
 |nil =>
  rw[a] at h;rw[show x.V=[] from Zsf.2 a];exact h
 |cons c r =>
  rw[show x.vs.isEmpty=false by rw[a];rfl,if_neg (by decide)] at h;exact h.freezeS (λe=>by have:=Zsf.1 e;rw[a] at this;cases this)
end Go.Proofs.YtaclfbhhekhflaaGreatDoor.S
/- Values,vars,Keys;set.add: trees. -/
namespace Go.Proofs.YtaclfbhhekhflaaGreatDoor.S
open Go.Sx
def asmP (r:D):PT:=λf xs=>some (.ok (FK f xs r) r [])
theorem Zm (r:D):(asmP r).OK:=by intro f xs rt h;cases h;exactλhp=>hp
def eOne (c:List D):Nat->Int->List D:=λ_ _=>c
def eMap (ks vs:List D) (r:D):Nat->Int->List D:=λ_ n=>if n= -1 then [.agg ks,.agg vs] else [r]
theorem Zc {α:Type} {l:List α} {i:Nat} (h:i<l.length):l.drop i=l[i]::l.drop (i+1):=List.drop_eq_getElem_cons h
theorem Znu (es ext:LD):gC (ctr libT) 0 rs30 sc30 [] [dL es ext] [] []=(Rt (dF 51 [] [dP 0 0]) [(0,oC [dL es ext])]:Tr):=by kernel_rfl
theorem Znt (es ext:LD):gC (ctr libT) 0 rs42 sc42 [] [dL es ext] [] []=(Rt (dF 69 [] [dP 0 0]) [(0,oC [dL es ext])]:Tr):=by kernel_rfl
theorem ZnH (ks cs:List D):let A:=(0,Ob.gen (Gen.mapC ks cs) []);gC (ctr libT) 1 rs45 sc45 [] [D.map 0] [] [A]=(Rt (dF 73 [] [dP 1 0]) [A,(1,oC [D.map 0])]:Tr):=by intro A;kernel_rfl
abbrev fV:FuncId:=51
abbrev fT:FuncId:=69
def ZkY:List Nat:=[5,2,0,1]
def dsA (f:FuncId) (a b c:Nat):List D:=[.func (.func f) [] [.ptr a 0],.ptr b 0,.map c,.func (.func f) [] [.ptr a 0]]
def recA (ds:List D):Ob:=.gen (.loop .ready none #[6] (sc29.rngA 0) (sc29.rngB 0) 10 ZkY) ds
def obAd (f:FuncId) (es:LD) (ks cs:List D):Obs:=[(0,.cells [.slice es []]),(1,recA (dsA f 0 2 3)),(2,.cells [.map 3]),(3,.gen (.mapC ks cs) [])]
def obAy (es:LD) (ks cs:List D):Obs:=[(1,.cells [.slice es []]),(2,.cells [.map 3]),(3,.gen (.mapC ks cs) [])]
def updM (ks vs:List D):Obs->Obs
 |[]=>[]
 |(i,.gen (.mapC _ _) [])::r=>(i,.gen (.mapC ks vs) [])::updM ks vs r
 |x::r=>x::updM ks vs r
theorem ZnS (ks cs a cs':List D) (es:LD):let A:=SC.block 1 (SC.reg [so 7 (AOp.load false 1) [xt 2],so 8 AOp.mv [xt 4],so 9 (AOp.build [] []) [],SOp.st none (SK.k none (xt 8)) (xt 7) (xt 9)]);let B:=[dF 51 [] [dP 0 0],dP 2 0,D.map 3,dF 51 [] [dP 0 0]];let C:=SC.reg [so 4 AOp.mv [xt 6]];let E:=[dL es []];let F:=Gen.mapC a cs';let G:=Gen.mapC ks cs;let H:=(2,oC [D.map 3]);let I:=D.tuple [];gC (ctr libT (asmA I (updM a cs'))) 2 rs29 sc29 [] [D.map 0,dF fV [] [dP 1 0]] [] [(0,Ob.gen G []),(1,oC E)]=(Ow (CallL Tryz.prog (dF 51 [] [dP 0 0]) [D.yld 1] [(0,oC E),(1,Ob.gen (Gen.loop LoopState.ready none #[6] C A 10 [5,2,0,1]) B),H,(3,Ob.gen G [])] λr0 ob0=>r0=D.tuple []/\ob0=[(0,oC E),(1,Ob.gen (Gen.loop LoopState.ready none #[6] C A 10 [5,2,0,1]) B),H,(3,Ob.gen F [])]) (Rt I [(0,Ob.gen F []),(1,oC E)]):Tr):=by intro A B C E F G H I;kernel_rfl
theorem ZnT (ks cs a cs':List D) (es:LD):let A:=SC.block 1 (SC.reg [so 7 (AOp.load false 1) [xt 2],so 8 AOp.mv [xt 4],so 9 (AOp.build [] []) [],SOp.st none (SK.k none (xt 8)) (xt 7) (xt 9)]);let B:=[dF 69 [] [dP 0 0],dP 2 0,D.map 3,dF 69 [] [dP 0 0]];let C:=SC.reg [so 4 AOp.mv [xt 6]];let E:=[dL es []];let F:=Gen.mapC a cs';let G:=Gen.mapC ks cs;let H:=(2,oC [D.map 3]);let I:=D.tuple [];gC (ctr libT (asmA I (updM a cs'))) 2 rs29 sc29 [] [D.map 0,dF fT [] [dP 1 0]] [] [(0,Ob.gen G []),(1,oC E)]=(Ow (CallL Tryz.prog (dF 69 [] [dP 0 0]) [D.yld 1] [(0,oC E),(1,Ob.gen (Gen.loop LoopState.ready none #[6] C A 10 [5,2,0,1]) B),H,(3,Ob.gen G [])] λr0 ob0=>r0=D.tuple []/\ob0=[(0,oC E),(1,Ob.gen (Gen.loop LoopState.ready none #[6] C A 10 [5,2,0,1]) B),H,(3,Ob.gen F [])]) (Rt I [(0,Ob.gen F []),(1,oC E)]):Tr):=by intro A B C E F G H I;kernel_rfl
theorem Zmb (f:FuncId) (x:LU) (es:LD) (ks cs a cs':List D):yldT Tryz.prog (ctr libT Qr (eMap a cs' D.undef)) 4 0 10 #[6] (SC.rngA sc29 0) (SC.rngB sc29 0) ZkY (dsA f 1 2 3) 2000 {tm:=putP (List.zip [6] [dS x]) (List.zip ZkY (dsA f 1 2 3)),ob:=obAy es ks cs}=(Ow (mput (dS x) (dA []) ks cs=some (a,cs')) (Rt (dB true) [(0,gL .ready none #[6] sc29 0 10 [5,2,0,1] [dF f [] [dP 1 0],dP 2 0,D.map 3,dF f [] [dP 1 0]]),(1,oC [dL es []]),(2,oC [D.map 3]),(3,Ob.gen (Gen.mapC a cs') [])]):Tr):=by kernel_rfl
theorem Ztc (es:LD) (ks cs a cs':List D):gC (ctr libT (asmA (dB true) (updM a cs'))) 4 rs51 sc51 [] [D.yld 1] [dP 0 0] (obAd fV es ks cs)=(Jm (cut sc51 0) {tm:=[(0,D.yld 1),(5,dL es []),(6,dI (↑(List.length es):Int)),(7,dI 0)],ob:=[(0,oC [dL es []]),(1,gL .ready none #[6] sc29 0 10 [5,2,0,1] [dF 51 [] [dP 0 0],dP 2 0,D.map 3,dF 51 [] [dP 0 0]]),(2,oC [D.map 3]),(3,Ob.gen (Gen.mapC ks cs) [])]}:Tr):=by kernel_rfl
def hdVl (es:LD) (m i:Int) (ob:Obs):St:=⟨[(0,.yld 1),(5,.slice es []),(6,.int .i64 m),(7,.int .i64 i)],ob⟩
theorem ZeZ (es:LD) (ks cs a cs':List D) (m i:Int) (x:LU):let A:=[dF 51 [] [dP 1 0],dP 2 0,D.map 3,dF 51 [] [dP 1 0]];let B:=[dF 51 [] [dP 0 0],dP 2 0,D.map 3,dF 51 [] [dP 0 0]];let C:=(2,oC [D.map 3]);let E:=(3,Ob.gen (Gen.mapC a cs') []);let F:=(3,Ob.gen (Gen.mapC ks cs) []);let G:=[dL es []];let H:=cut sc51 0;let I:=(i+(1:Int));gH (ctr libT (asmA (dB true) (updM a cs')) (eOne [dS x])) 4 false rs51 H (hdVl es m i (obAd fV es ks cs))=(brT (decide (i<m)) (Ow ((0:Int)<=i/\es[Int.toNat i]? = some [dS x]) (Ow (CallL Tryz.prog (D.yld 0) [dS x] [(0,gL .ready none #[6] sc29 0 10 [5,2,0,1] A),(1,oC G),C,F] λr0 ob0=>r0=dB true/\ob0=[(0,gL .ready none #[6] sc29 0 10 [5,2,0,1] A),(1,oC G),C,E]) (I8 I (Jm H {tm:=[(0,D.yld 1),(5,dL es []),(6,dI m),(7,dI I)],ob:=[(0,oC G),(1,gL .ready none #[6] sc29 0 10 [5,2,0,1] B),C,E]})))) (Rt (D.tuple []) [(0,oC G),(1,gL .ready none #[6] sc29 0 10 [5,2,0,1] B),C,F]):Tr):=by intro A B C E F G H I;kernel_rfl
theorem Ztb (es:LD) (ks cs a cs':List D):gC (ctr libT (asmA (dB true) (updM a cs'))) 4 rs69 sc69 [] [D.yld 1] [dP 0 0] (obAd fT es ks cs)=(Jm (cut sc69 0) {tm:=[(0,D.yld 1),(7,dL es []),(8,dI (↑(List.length es):Int)),(9,dI 0)],ob:=[(0,oC [dL es []]),(1,gL .ready none #[6] sc29 0 10 [5,2,0,1] [dF 69 [] [dP 0 0],dP 2 0,D.map 3,dF 69 [] [dP 0 0]]),(2,oC [D.map 3]),(3,Ob.gen (Gen.mapC ks cs) [])]}:Tr):=by kernel_rfl
def hdVr (es:LD) (m i:Int) (ob:Obs):St:=⟨[(0,.yld 1),(7,.slice es []),(8,.int .i64 m),(9,.int .i64 i)],ob⟩
theorem ZeY (es V:LD) (ks cs b cs':List D) (m i k n:Int) (s:LU) (a:LD):let A:=[dF 69 [] [dP 0 0],dP 2 0,D.map 3,dF 69 [] [dP 0 0]];let B:=(3,Ob.gen (Gen.mapC ks cs) []);let C:=tC k n s a;let E:=(0,oC [dL es []]);let F:=(2,oC [D.map 3]);gH (ctr (asmP (dL V [])) (asmA (dB true) (updM b cs')) (eOne C)) 4 false rs69 (cut sc69 0) (hdVr es m i (obAd fT es ks cs))=(brT (decide (i<m)) (Ow ((0:Int)<=i/\es[Int.toNat i]? = some C) (Ow (FK 70 [dA C] (dL V [])) (Jm (cut sc69 1) {tm:=[(0,D.yld 1),(7,dL es []),(8,dI m),(9,dI i),(14,dL V []),(15,dI (↑(List.length V):Int)),(16,dI 0)],ob:=[E,(1,gL .ready none #[6] sc29 0 10 [5,2,0,1] A),F,B]}))) (Rt (D.tuple []) [E,(1,gL .ready none #[6] sc29 0 10 [5,2,0,1] A),F,B]):Tr):=by intro A B C E F;kernel_rfl
def hdVj (es V:LD) (m i mv j:Int) (ob:Obs):St:=⟨[(0,.yld 1),(7,.slice es []),(8,.int .i64 m),(9,.int .i64 i),(14,.slice V []),(15,.int .i64 mv),(16,.int .i64 j)],ob⟩
theorem ZeX (es V:LD) (ks cs a cs':List D) (m i mv j:Int) (x:LU):let A:=[dF 69 [] [dP 1 0],dP 2 0,D.map 3,dF 69 [] [dP 1 0]];let B:=[dF 69 [] [dP 0 0],dP 2 0,D.map 3,dF 69 [] [dP 0 0]];let C:=(2,oC [D.map 3]);let E:=(3,Ob.gen (Gen.mapC a cs') []);let F:=(3,Ob.gen (Gen.mapC ks cs) []);let G:=[dL es []];let H:=cut sc69 1;let I:=(7,dL es []);let J:=(j+(1:Int));let K:=(0,D.yld 1);let L:=(i+(1:Int));gH (ctr libT (asmA (dB true) (updM a cs')) (eOne [dS x])) 4 false rs69 H (hdVj es V m i mv j (obAd fT es ks cs))=(brT (decide (j<mv)) (Ow ((0:Int)<=j/\V[Int.toNat j]? = some [dS x]) (Ow (CallL Tryz.prog (D.yld 0) [dS x] [(0,gL .ready none #[6] sc29 0 10 [5,2,0,1] A),(1,oC G),C,F] λr0 ob0=>r0=dB true/\ob0=[(0,gL .ready none #[6] sc29 0 10 [5,2,0,1] A),(1,oC G),C,E]) (I8 J (Jm H {tm:=[K,I,(8,dI m),(9,dI i),(14,dL V []),(15,dI mv),(16,dI J)],ob:=[(0,oC G),(1,gL .ready none #[6] sc29 0 10 [5,2,0,1] B),C,E]})))) (I8 L (Jm (cut sc69 0) {tm:=[K,I,(8,dI m),(9,dI L)],ob:=[(0,oC G),(1,gL .ready none #[6] sc29 0 10 [5,2,0,1] B),C,F]})):Tr):=by intro A B C E F G H I J K L;kernel_rfl
end Go.Proofs.YtaclfbhhekhflaaGreatDoor.S
/- set.add,over texts and over the variables of terms. -/
namespace Go.Proofs.YtaclfbhhekhflaaGreatDoor.S
open Go.Sx
theorem Z1O {l:List Nm} {i:Nat} (h:i<l.length):(strC l)[i]? = some [.str l[i]]:=by simp[strC,h]
theorem addY (f:FuncId) (x:Nm) (es:LD) (S:List Nm):CallL Tryz.prog (.yld 0) [.str x] ((0,recA (dsA f 1 2 3))::obAy es (kS S) (uS S)) λr ob=>r=.bool true/\ob=(0,recA (dsA f 1 2 3))::obAy es (kS (insS S x)) (uS (insS S x)):=by
 refine CallL.yldT Z3 (Z2 Z1 Z0) rfl (Zmb f x es (kS S) (uS S) (kS (insS S x)) (uS (insS S x))) ?_;rw[Z4,Z7];exact⟨Zg4 x S,rfl,rfl⟩
abbrev setO (S:List Nm):Ob:=.gen (.mapC (kS S) (uS S)) []
theorem Zm3 (l:List Nm) (hl:l.length<=281474976710656): ∀ (m i:Nat) (S:List Nm),l.length-i=m->i<=l.length →
  At Tryz.prog 4 (cut sc51 0) (hdVl (strC l) l.length i (obAd fV (strC l) (kS S) (uS S))) (FinQ false 4 rs51 λr ob=>r=.tuple []/\ob=obAd fV (strC l) (kS (addS S (l.drop i))) (uS (addS S (l.drop i)))):=by
 intro m;induction m with
 |zero =>
  intro i S hm hi;refine At.tree (Z2 Z1 (Za _ _)) (ZeZ (strC l) (kS S) (uS S) [] [] l.length i []) ?_;rw[List.drop_eq_nil_of_le (by omega:l.length<=i),Zs];refine⟨λh=>?_,λ_=>⟨rfl,rfl⟩⟩
  have:=of_decide_eq_true h;omega
 |succ m b =>
  intro i S hm hi;have h1:i<l.length:=by omega
  have a:=b (i+1) (insS S l[i]) (by omega) (by omega);rw[Zc h1];refine At.tree (Z2 Z1 (Za _ _)) (ZeZ (strC l) (kS S) (uS S) (kS (insS S l[i])) (uS (insS S l[i])) l.length i l[i]) ?_;rw[Zs];refine⟨λ_=>?_,λh=>?_⟩
  ·rw[Z4,Int.toNat_natCast,Z4,Z4,Z6];exact⟨⟨by omega,Z1O h1⟩,addY fV l[i] (strC l) S,by omega,a⟩
  ·have:=of_decide_eq_false h;omega
theorem Z4s (l:List Nm) (hl:l.length<=281474976710656) (S:List Nm):CF 29 [.map 0,.func (.func fV) [] [.ptr 1 0]] [(0,setO S),(1,.cells [.slice (strC l) []])] λr ob=>r=.tuple []/\ob=[(0,setO (addS S l)),(1,.cells [.slice (strC l) []])]:=by
 refine CallL.tree Z3 fp29 (Z2 Z1 (Za _ _)) (ZnS (kS S) (uS S) (kS (addS S l)) (uS (addS S l)) (strC l)) ?_;rw[Z4];refine⟨?_,rfl,rfl⟩;refine CallL.tree Z3 fp51 (Z2 Z1 (Za (.bool true) (updM [] []))) (Ztc (strC l) (kS S) (uS S) [] []) ?_;rw[Z6,Zp];exact Zm3 l hl _ 0 S rfl (Nat.zero_le _)
def okT (l:List Tm):Prop:=l.length<=281474976710656/\ ∀ x∈l,x.wf 281474976710656/\x.vs.length<=1073741824
theorem Zh1 (es:LD) (V:List Nm) (mm b:Int) (Q:List Nm->Prop) (f:V.length<=1073741824) (R:D->Obs->Prop)
  (hi: -9223372036854775808<=b+1/\b+1<=9223372036854775807) (T:List Nm) (K:At Tryz.prog 4 (cut sc69 0) (hdVr es mm (b+1) (obAd fT es (kS T) (uS T))) (FinQ false 4 rs69 R)): ∀ (m i:Nat) (S:List Nm),V.length-i=m->i<=V.length->addS S (V.drop i)=T →
  At Tryz.prog 4 (cut sc69 1) (hdVj es (strC V) mm b V.length i (obAd fT es (kS S) (uS S))) (FinQ false 4 rs69 R):=by
 intro m;induction m with
 |zero =>
  intro i S hm c a;refine At.tree (Z2 Z1 (Za _ _)) (ZeX es (strC V) (kS S) (uS S) [] [] mm b V.length i []) ?_;rw[List.drop_eq_nil_of_le (by omega:V.length<=i)] at a;have a:S=T:=a;subst a;rw[Zs];refine⟨λh=>?_,λ_=>?_⟩
  ·have:=of_decide_eq_true h;omega
  ·rw[Z4,Z6];exact⟨hi,K⟩
 |succ m e =>
  intro i S hm c a;have h1:i<V.length:=by omega
  rw[Zc h1] at a;have d:=e (i+1) (insS S V[i]) (by omega) (by omega) a;refine At.tree (Z2 Z1 (Za _ _)) (ZeX es (strC V) (kS S) (uS S) (kS (insS S V[i])) (uS (insS S V[i])) mm b V.length i V[i]) ?_;rw[Zs];refine⟨λ_=>?_,λh=>?_⟩
  ·rw[Z4,Int.toNat_natCast,Z4,Z4,Z6];exact⟨⟨by omega,Z1O h1⟩,addY fT V[i] es S,by omega,d⟩
  ·have:=of_decide_eq_false h;omega
theorem Zm4 (l:List Tm) (hl:okT l): ∀ (m i:Nat) (S:List Nm),l.length-i=m->i<=l.length →
  At Tryz.prog 4 (cut sc69 0) (hdVr (Tm.cellsL l) l.length i (obAd fT (Tm.cellsL l) (kS S) (uS S))) (FinQ false 4 rs69 λr ob=>r=.tuple []/\ob=obAd fT (Tm.cellsL l) (kS (addS S (Zj (l.drop i)))) (uS (addS S (Zj (l.drop i))))):=by
 intro m;have g:=hl.1;induction m with
 |zero =>
  intro i S hm hi;refine At.tree (Z2 (Zm _) (Za _ _)) (ZeY (Tm.cellsL l) [] (kS S) (uS S) [] [] l.length i 0 0 [] []) ?_;rw[List.drop_eq_nil_of_le (by omega:l.length<=i),Zs];refine⟨λh=>?_,λ_=>⟨rfl,rfl⟩⟩
  have:=of_decide_eq_true h;omega
 |succ m j =>
  intro i S hm hi;have h1:i<l.length:=by omega
  have hx:(Tm.cellsL l)[i]? = some l[i].cells:=by rw[Zn];simp[h1]
  have c:=hl.2 _ (List.getElem_mem h1);have hv:=Z7r l[i] c.1 c.2;have e:=Zm6 l[i];have d:=j (i+1) (addS S l[i].W) (by omega) (by omega);have f:addS S (Zj (l.drop i))=addS (addS S l[i].W) (Zj (l.drop (i+1))):=by
   rw[Zc h1];unfold Zj;rw[List.flatMap_cons,Zae]
  rw[f];have b:=Zh1 (Tm.cellsL l) l[i].W l.length i (λ_=>True) (by omega) _ (by omega) _ d _ 0 S rfl (Nat.zero_le _) rfl;generalize Tm.W l[i]=V at hv b;generalize l[i]=x at hx hv;obtain⟨k,n,s,a⟩:=x;refine At.tree (Z2 (Zm _) (Za (.bool true) (updM [] []))) (ZeY (Tm.cellsL l) (strC V) (kS S) (uS S) [] [] l.length i k n s (Tm.cellsL a)) ?_;rw[Zs];refine⟨λ_=>?_,λh=>?_⟩
  ·rw[Z4,Int.toNat_natCast,Z4,Z6,Zp];exact⟨⟨by omega,hx⟩,hv,b⟩
  ·have:=of_decide_eq_false h;omega
theorem Z2V (l:List Tm) (hl:okT l) (S:List Nm):CF 29 [.map 0,.func (.func fT) [] [.ptr 1 0]] [(0,setO S),(1,.cells [.slice (Tm.cellsL l) []])] λr ob=>r=.tuple []/\ob=[(0,setO (addS S (Zj l))),(1,.cells [.slice (Tm.cellsL l) []])]:=by
 refine CallL.tree Z3 fp29 (Z2 Z1 (Za _ _)) (ZnT (kS S) (uS S) (kS (addS S (Zj l))) (uS (addS S (Zj l))) (Tm.cellsL l)) ?_;rw[Z4];refine⟨?_,rfl,rfl⟩;refine CallL.tree Z3 fp69 (Z2 Z1 (Za (.bool true) (updM [] []))) (Ztb (Tm.cellsL l) (kS S) (uS S) [] []) ?_;rw[Z6,Z5];exact Zm4 l hl _ 0 S rfl (Nat.zero_le _)
end Go.Proofs.YtaclfbhhekhflaaGreatDoor.S
/- has,knows,equation,outer,step: trees. -/
namespace Go.Proofs.YtaclfbhhekhflaaGreatDoor.S
open Go.Sx
def onF (f:FuncId) (q:QT):QT:=λd xs ob=>match d with
 |.func (.func g) _ _=>if g=f then q d xs ob else none
 |_=>none
theorem Z16 {f:FuncId} {q:QT} (a:q.OK):(onF f q).OK:=by
 intro d xs ob rt h;unfold onF at h;split at h
 ·split at h
  ·exact a _ _ _ _ h
  ·cases h
 ·cases h
def valQ:QT:=λd xs ob=>match d,xs,ob with
 |.func (.func f) [] [],[.slice es ext],[]=>if f=30 then some (.ok True (.func (.func fV) [] [.ptr 0 0]) [(0,.cells [.slice es ext])]) else none
 |_,_,_=>none
theorem Z3s:valQ.OK:=by
 intro d xs ob rt h;unfold valQ at h;split at h
 ·split at h
  ·rename_i hf;subst hf;cases h;intro _;exact CallL.tree Z3 fp30 (Z2 Z1 Z0) (Znu _ _) ⟨rfl,rfl⟩
  ·cases h
 ·cases h
def varQ:QT:=λd xs ob=>match d,xs,ob with
 |.func (.func f) [] [],[.slice es ext],[]=>if f=42 then some (.ok True (.func (.func fT) [] [.ptr 0 0]) [(0,.cells [.slice es ext])]) else none
 |_,_,_=>none
theorem Z0W:varQ.OK:=by
 intro d xs ob rt h;unfold varQ at h;split at h
 ·split at h
  ·rename_i hf;subst hf;cases h;intro _;exact CallL.tree Z3 fp42 (Z2 Z1 Z0) (Znt _ _) ⟨rfl,rfl⟩
  ·cases h
 ·cases h
def ctrS (p:PT) (q:Nat->QT) (e:Nat->Int->List D:=noE):Ctr:=⟨λ_=>p,q,e⟩
theorem Qf {p:PT} {q:Nat->QT} {e:Nat->Int->List D} (hp:p.OK) (a: ∀ t,(q t).OK):(ctrS p q e).OK Tryz.prog:=⟨λ_=>hp,a⟩
def atT (t0:Nat) (q a:QT):Nat->QT:=λt=>if t=t0 then q else a
theorem Zi1 {t0:Nat} {q a:QT} (h:q.OK) (h':a.OK) (t:Nat):(atT t0 q a t).OK:=by
 unfold atT;split
 ·exact h
 ·exact h'
theorem ZnL (ks cs:List D) (x:LU):let A:=[(0,Ob.gen (Gen.mapC ks cs) [])];let B:=[]++[D.map 0,dS x]++[];let C:=xc (dB false);let E:=[dA [],dB true];let F:=[D.map 0,dS x];gC (ctr libT Qr (eOne [D.tuple E])) 1 rs74 sc74 [] F [] A=(Ow (extD (Ext.look2 none (dA [])) F (lk (St.ob (St.put (St.put (St.put {tm:=ZM 0 B,ob:=A} (some 4) (St.get {tm:=ZM 0 B,ob:=A} C)) (some 8) (St.get (St.put {tm:=ZM 0 B,ob:=A} (some 4) (St.get {tm:=ZM 0 B,ob:=A} C)) (xt 0))) (some 9) (St.get (St.put (St.put {tm:=ZM 0 B,ob:=A} (some 4) (St.get {tm:=ZM 0 B,ob:=A} C)) (some 8) (St.get (St.put {tm:=ZM 0 B,ob:=A} (some 4) (St.get {tm:=ZM 0 B,ob:=A} C)) (xt 0))) (xt 1)))))=some (D.tuple E)) (Rt (dB true) A):Tr):=by intro A B C E F;kernel_rfl
theorem ZnM (ks cs:List D) (x:LU):let A:=[(0,Ob.gen (Gen.mapC ks cs) [])];let B:=[]++[D.map 0,dS x]++[];let C:=xc (dB false);let E:=[dA [],dB false];let F:=[D.map 0,dS x];gC (ctr libT Qr (eOne [D.tuple E])) 1 rs74 sc74 [] F [] A=(Ow (extD (Ext.look2 none (dA [])) F (lk (St.ob (St.put (St.put (St.put {tm:=ZM 0 B,ob:=A} (some 4) (St.get {tm:=ZM 0 B,ob:=A} C)) (some 8) (St.get (St.put {tm:=ZM 0 B,ob:=A} (some 4) (St.get {tm:=ZM 0 B,ob:=A} C)) (xt 0))) (some 9) (St.get (St.put (St.put {tm:=ZM 0 B,ob:=A} (some 4) (St.get {tm:=ZM 0 B,ob:=A} C)) (some 8) (St.get (St.put {tm:=ZM 0 B,ob:=A} (some 4) (St.get {tm:=ZM 0 B,ob:=A} C)) (xt 0))) (xt 1)))))=some (D.tuple E)) (Rt (dB false) A):Tr):=by intro A B C E F;kernel_rfl
abbrev fK:FuncId:=206
theorem Ztu (ks cs:List D) (k n:Int) (s:LU) (a V:LD) (b:Bool):let A:=[(0,oC [D.map 1]),(1,Ob.gen (Gen.mapC ks cs) [])];let B:=[(0,Ob.gen (Gen.mapC ks cs) [])];let C:=tC k n s a;gC (ctr (asmP (dL V [])) (asmA (dB b) id)) 1 Zk6 Zjf [] [dA [D.map 0],dA C] [] B=(Ow (FK 70 [dA C] (dL V [])) (Ow (CQ 205 [dL V [],dF 206 [] [dP 0 0]] A (dB b) A) (Rt (D.bool !b) B)):Tr):=by intro A B C;kernel_rfl
def obK (ks cs:List D):Obs:=[(0,.cells [.map 1]),(1,.gen (.mapC ks cs) [])]
theorem ZtE (ks cs:List D) (V:LD) (r:Int):let A:=[(0,oC [D.map 1]),(1,Ob.gen (Gen.mapC ks cs) [])];gC (ctr libT (asmA (dI r) id)) 2 ZjX Zj6 [] [dL V [],dF fK [] [dP 0 0]] [] (obK ks cs)=(Ow (CQ 225 [dL V [],dF 206 [] [dP 0 0]] A (dI r) A) (Rt (dB (decide ((0:Int)<=r))) A):Tr):=by intro A;kernel_rfl
theorem Zty (ks cs:List D) (V:LD):gC (ctr libT) 2 Zcf ZaC [] [dL V [],dF fK [] [dP 0 0]] [] (obK ks cs)=(Jm (cut ZaC 0) {tm:=[(0,dL V []),(1,dF 206 [] [dP 0 0]),(7,dI (↑(List.length V):Int)),(8,dI 0)],ob:=[(0,oC [D.map 1]),(1,Ob.gen (Gen.mapC ks cs) [])]}:Tr):=by kernel_rfl
def hdIx (V:LD) (m i:Int) (ob:Obs):St:=⟨[(0,.slice V []),(1,.func (.func fK) [] [.ptr 0 0]),(7,.int .i64 m),(8,.int .i64 i)],ob⟩
theorem Zf6 (ks cs:List D) (V:LD) (m i:Int) (x:LU) (b:Bool):let A:=[(0,oC [D.map 1]),(1,Ob.gen (Gen.mapC ks cs) [])];let B:=cut ZaC 0;let C:=(i+(1:Int));gH (ctr libT (asmA (dB b) id) (eOne [dS x])) 2 false Zcf B (hdIx V m i (obK ks cs))=(brT (decide (i<m)) (Ow ((0:Int)<=i/\V[Int.toNat i]? = some [dS x]) (Ow (CallL Tryz.prog (dF 206 [] [dP 0 0]) [dS x] A λr0 ob0=>r0=dB b/\ob0=A) (brT b (Rt (dI i) A) (I8 C (Jm B {tm:=[(0,dL V []),(1,dF 206 [] [dP 0 0]),(7,dI m),(8,dI C)],ob:=A}))))) (Rt (dI (-1:Int)) A):Tr):=by intro A B C;kernel_rfl
theorem Ztx (ks cs:List D) (x:LU) (b:Bool):let A:=[(0,Ob.gen (Gen.mapC ks cs) [])];gC (ctr libT (asmA (dB b) id)) 2 ZjW Zj5 [] [dS x] [dP 0 0] (obK ks cs)=(Ow (CQ 74 [D.map 0,dS x] A (dB b) A) (Rt (D.bool !b) [(0,oC [D.map 1]),(1,Ob.gen (Gen.mapC ks cs) [])]):Tr):=by intro A;kernel_rfl
theorem Zss (es ext:LD):gP (ctr libT) Zcp ZaK [dL es ext]=(Jm (cut ZaK 0) {tm:=[(2,dV 0),(5,dL es ext),(6,dI (↑(List.length es):Int)),(7,dI 0)],ob:=[(0,oR true 1 9 [])]}:Tr):=by kernel_rfl
def hdOu (es ext rs:LD) (m i:Int):St:=⟨[(2,.vec 0),(5,.slice es ext),(6,.int .i64 m),(7,.int .i64 i)],[(0,.arr true 1 9 rs)]⟩
theorem Zes (es ext rs q:LD) (m i k n:Int) (s:LU) (a:LD):let A:=[(2,dV 0),(5,dL es ext),(6,dI m),(7,dI (i+(1:Int)))];let B:=FK 111 [dL a []] (dL q []);let C:=cut ZaK 0;let E:=(i+(1:Int));let F:=[(0,oR true 1 9 (rs++[[dS s]]++q))];let G:=[(0,oR true 1 9 (rs++q))];let H:=[(0,oR true 1 9 rs)];let I:=rs++[[dS s]];let J:=tC k n s a;gH (ctr (asmP (dL q [])) Qr (eOne J)) 0 true Zcp C (hdOu es ext rs m i)=(brT (decide (i<m)) (Ow ((0:Int)<=i/\es[Int.toNat i]? = some J) (brT (decide (k=(5:Int))) (brT (decide (k=(5:Int))) (I8 E (Jm C {tm:=A,ob:=H})) (brT (decide (k=(3:Int))) (Ow (Ze 1 [[dS s]]/\List.length rs+1<=1073741824) (Ow B (Ow (Ze 1 q/\List.length I+List.length q<=1073741824) (I8 E (Jm C {tm:=A,ob:=F}))))) (Ow B (Ow (Ze 1 q/\List.length rs+List.length q<=1073741824) (I8 E (Jm C {tm:=A,ob:=G})))))) (brT (decide (k=(6:Int))) (I8 E (Jm C {tm:=A,ob:=H})) (brT (decide (k=(3:Int))) (Ow (Ze 1 [[dS s]]/\List.length rs+1<=1073741824) (Ow B (Ow (Ze 1 q/\List.length I+List.length q<=1073741824) (I8 E (Jm C {tm:=A,ob:=F}))))) (Ow B (Ow (Ze 1 q/\List.length rs+List.length q<=1073741824) (I8 E (Jm C {tm:=A,ob:=G})))))))) (Rt (D.own 1 9 rs) []):Tr):=by intro A B C E F G H I J;kernel_rfl
theorem ZtC (ks cs c cs':List D) (d nx:Int) (e:LU) (f:LD) (k n:Int) (s:LU) (a:LD) (b:Bool):let A:=(0,Ob.gen (Gen.mapC ks cs) []);let B:=D.tuple [];let C:=(0,Ob.gen (Gen.mapC c cs') []);let E:=(1,oC [dL [[dS e]] []]);let F:=tC k n s a;gC (ctr libT (QT.or (QT.or (onF 171 (asmA (dB b) id)) valQ) (onF 29 (asmA B (updM c cs'))))) 1 Zkr ZjA [] [dA [D.map 0],dA (tC d nx e f),dA F] [] [A]=(brT (decide (d=(3:Int))) (Ow (CQ 171 [dA [D.map 0],dA F] [A] (dB b) [A]) (brT b (Ow True (Ow (CQ 29 [D.map 0,dF 51 [] [dP 1 0]] [A,E] B [C,E]) (Rt B [C]))) (Rt B [A]))) (Rt B [A]):Tr):=by intro A B C E F;kernel_rfl
abbrev lC (k:Int) (no:Bool) (p:LU) (a:LD) (op:Int) (d nx:Int) (g:LU) (b:LD) (e f:Int) (h:LU) (c:LD):List D:=[.int .u8 k,.bool no,.str p,.slice a [],.int .u8 op,.int .u8 d,.int .i64 nx,.str g,.slice b [],.int .u8 e,.int .i64 f,.str h,.slice c []]
theorem Ziu (ks cs d c1 k2 c2:List D) (k:Int) (no:Bool) (p:LU) (a:LD) (op e nx:Int) (h:LU) (b:LD) (f g:Int) (i:LU) (c q:LD):let A:=(0,Ob.gen (Gen.mapC ks cs) []);let B:=D.tuple [];let C:=(0,Ob.gen (Gen.mapC k2 c2) []);let E:=[(0,Ob.gen (Gen.mapC d c1) [])];let F:=Rt B [A];let G:=[D.map 0];let H:=(1,oC [dL q []]);let I:=tC e nx h b;let J:=tC f g i c;gC (ctrS (asmP (dL q [])) (atT 33 (asmA B (updM d c1)) (QT.or valQ (asmA B (updM k2 c2))))) 1 rs82 sc82 [] [dA G,dA (lC k no p a op e nx h b f g i c)] [] [A]=(brT no F (brT (decide (k=(1:Int))) (Ow (FK 111 [dL a []] (dL q [])) (Ow True (Ow (CQ 29 [D.map 0,dF 51 [] [dP 1 0]] [A,H] B [C,H]) (Rt B [C])))) (brT (decide (k=(2:Int))) (brT (decide (op=(1:Int))) (Ow (CQ 112 [dA G,dA I,dA J] [A] B E) (Ow (CQ 112 [dA G,dA J,dA I] E B [C]) (Rt B [C]))) F) F)):Tr):=by intro A B C E F G H I J;kernel_rfl
end Go.Proofs.YtaclfbhhekhflaaGreatDoor.S
