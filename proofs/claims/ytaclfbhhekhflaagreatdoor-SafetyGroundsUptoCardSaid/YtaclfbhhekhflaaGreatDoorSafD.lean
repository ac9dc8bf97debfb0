/- Own work: a layer over the kit: plain data,a walk over it,its soundness. -/
import Derived.Test.YtaclfbhhekhflaaGreatDoorVarsA
import Derived.Test.YtaclfbhhekhflaaGreatDoorSx11
import Derived.Test.YtaclfbhhekhflaaGreatDoorSx8
set_option linter.all false
set_option maxRecDepth 100000
/- has,knows,equation,outer,step. -/
noncomputable section
namespace Go.Proofs.YtaclfbhhekhflaaGreatDoor.S
open Go.Sx Go.RowKit
theorem Z5z (S:List Nm) (x:Nm):extD (.look2 none (.agg [])) [.map 0,.str x] (lk [(0,setO S)])=some (.tuple [.agg [],.bool (decide (x∈S))]):=by
 have h:=ZcV x S;simp only[extD,lk,if_true,unpk,isKD,h];by_cases hx:x∈S<;>simp[hx]
theorem Zdi (S:List Nm) (x:Nm):CF 74 [.map 0,.str x] [(0,setO S)] λr ob=>r=.bool (decide (x∈S))/\ob=[(0,setO S)]:=by
 have h:=Z5z S x;by_cases hx:x∈S
 ·rw[show decide (x∈S)=true from decide_eq_true hx] at h ⊢;refine CallL.tree Z3 fp74 (Z2 Z1 Z0) (ZnL (kS S) (uS S) x) ?_;rw[Z4];exact⟨h,rfl,rfl⟩
 ·rw[show decide (x∈S)=false from decide_eq_false hx] at h ⊢;refine CallL.tree Z3 fp74 (Z2 Z1 Z0) (ZnM (kS S) (uS S) x) ?_;rw[Z4];exact⟨h,rfl,rfl⟩
def idxW (p:Nm->Bool):List Nm->Int->Int
 |[],_=>-1
 |a::r,i=>if p a=true then i else idxW p r (i+1)
theorem Zdf (p:Nm->Bool): ∀ (l:List Nm) (i:Int),0<=i->decide (0<=idxW p l i)=l.any p
 |[],i,_=>by simp[idxW]
 |a::r,i,h=>by
  unfold idxW;by_cases hp:p a=true
  ·simp[hp,h]
  ·rw[if_neg hp,Zdf p r (i+1) (by omega)];simp[hp]
theorem Zuf (S:List Nm) (x:Nm):CallL Tryz.prog (.func (.func fK) [] [.ptr 0 0]) [.str x] (obK (kS S) (uS S)) λr ob=>r=.bool (!decide (x∈S))/\ob=obK (kS S) (uS S):=by
 refine CallL.tree Z3 ZqO (Z2 Z1 (Za _ _)) (Ztx (kS S) (uS S) x (decide (x∈S))) ?_;rw[Z4];exact⟨Zdi S x,rfl,rfl⟩
theorem Zl1 (S V:List Nm) (c:V.length<=1073741824): ∀ (m i:Nat),V.length-i=m->i<=V.length →
  At Tryz.prog 2 (cut ZaC 0) (hdIx (strC V) V.length i (obK (kS S) (uS S))) (FinQ false 2 Zcf λr ob=>r=.int .i64 (idxW (λx=>!decide (x∈S)) (V.drop i) i)/\ob=obK (kS S) (uS S)):=by
 intro m;induction m with
 |zero =>
  intro i hm hi;refine At.tree (Z2 Z1 (Za _ _)) (Zf6 (kS S) (uS S) (strC V) V.length i [] true) ?_;rw[List.drop_eq_nil_of_le (by omega:V.length<=i),Zs];refine⟨λh=>?_,λ_=>⟨rfl,rfl⟩⟩
  have:=of_decide_eq_true h;omega
 |succ m b =>
  intro i hm hi;have h1:i<V.length:=by omega
  have a:=b (i+1) (by omega) (by omega);rw[Zc h1];refine At.tree (Z2 Z1 (Za _ _)) (Zf6 (kS S) (uS S) (strC V) V.length i V[i] (!decide (V[i]∈S))) ?_;rw[Zs];refine⟨λ_=>?_,λh=>?_⟩
  ·rw[Z4,Int.toNat_natCast,Z4,Zs];refine⟨⟨by omega,Z1O h1⟩,Zuf S V[i],λh=>?_,λh=>?_⟩
   ·rw[Z7];unfold idxW;rw[if_pos h];exact⟨rfl,rfl⟩
   ·rw[Z4,Z6];refine⟨by omega,?_⟩;unfold idxW;rw[if_neg (by rw[h];decide)];exact a
  ·have:=of_decide_eq_false h;omega
theorem Zvl (S V:List Nm) (a:V.length<=1073741824):CF 205 [.slice (strC V) [],.func (.func fK) [] [.ptr 0 0]] (obK (kS S) (uS S)) λr ob=>r=.bool (V.any λx=>!decide (x∈S))/\ob=obK (kS S) (uS S):=by
 refine CallL.tree Z3 ZqP (Z2 Z1 (Za _ _)) (ZtE (kS S) (uS S) (strC V) (idxW (λx=>!decide (x∈S)) V 0)) ?_;rw[Z4,Z7,Zdf _ _ _ (by decide)];refine⟨?_,rfl,rfl⟩;refine CallL.tree Z3 ZqH (Z2 Z1 Z0) (Zty (kS S) (uS S) (strC V)) ?_;rw[Z6,Zp];exact Zl1 S V a _ 0 rfl (Nat.zero_le _)
def okt (x:Tm):Prop:=x.wf 281474976710656/\x.vs.length<=1073741824
theorem Zg9 (S:List Nm) (t:Tm) (b:okt t):CF 171 [.agg [.map 0],.agg t.cells] [(0,setO S)] λr ob=>r=.bool (Z2n S t)/\ob=[(0,setO S)]:=by
 have hv:=Z7r t b.1 b.2;have hl:=Zm6 t;have c:=b.2;have e:Z2n S t= !(t.W.any λx=>!decide (x∈S)):=by unfold Z2n;rw[List.all_eq_not_any_not]
 have hc:=Zvl S t.W (by omega);rw[e];generalize Tm.W t=V at hv hc ⊢;obtain⟨k,n,s,a⟩:=t;refine CallL.tree Z3 Zr1 (Z2 (Zm _) (Za _ _)) (Ztu (kS S) (uS S) k n s (Tm.cellsL a) (strC V) (V.any λx=>!decide (x∈S))) ?_;rw[Z4,Z4,Z7];exact⟨hv,hc,rfl,rfl⟩
theorem Z45 (S:List Nm) (x t:Tm) (j:okt t):CF 112 [.agg [.map 0],.agg x.cells,.agg t.cells] [(0,setO S)] λr ob=>r=.tuple []/\ob=[(0,setO (eqS S x t))]:=by
 have hk:=Zg9 S t j;have i:eqS S x t=if x.kd=3/\Z2n S t=true then insS S x.nm else S:=rfl;rw[i];generalize Z2n S t=b at hk ⊢;obtain⟨f,nx,c,g⟩:=x;have ha:=Z4s [c] (by simp) S;obtain⟨k,n,s,a⟩:=t;refine CallL.tree Z3 Zrp (Z2 Z1 (QT.or_ok (QT.or_ok (Z16 (Za _ _)) Z3s) (Z16 (Za _ _)))) (ZtC (kS S) (uS S) (kS (insS S c)) (uS (insS S c)) f nx c (Tm.cellsL g) k n s (Tm.cellsL a) b) ?_;rw[Zs];refine⟨λh=>?_,λh=>?_⟩
 ·have d:f=3:=by have:=of_decide_eq_true h;omega
  rw[Z4,Zs];refine⟨hk,λe=>?_,λe=>?_⟩
  ·rw[Z4,Z4,Z7,if_pos ⟨d,e⟩];exact⟨trivial,ha,rfl,rfl⟩
  ·rw[Z7,if_neg (λh=>by rw[e] at h;exact absurd h.2 (by decide))];exact⟨rfl,rfl⟩
 ·have d:f≠3:=by have:=of_decide_eq_false h;omega
  rw[Z7,if_neg (λh=>d h.1)];exact⟨rfl,rfl⟩
theorem FnOK.freezeE {f:FuncId} {args:List D} {ty:TypeId} (h:FK f args (.own 1 ty [])):FK f args (.slice [] []):=by
 intro φ hh w vs h1 h2 b c d;refine (h φ hh w vs h1 h2 b c d).mono ?_;rintro e w' ⟨v,φ',rfl,i,rest⟩;refine⟨v,φ',rfl,?_,rest⟩;obtain⟨_,_,xs,a,_⟩:=i;intro h';rcases a.2 with⟨rfl,_⟩|⟨g,cap,cur,rfl,_⟩
 ·exact .pure .nil
 ·exact .pure (.nilA _ _)
theorem FnOK.freezeT {f:FuncId} {args:List D} {ty:TypeId} {l:List Nm} (h:FK f args (.own 1 ty (strC l))):FK f args (.slice (strC l) []):=by
 cases l with
 |nil=>exact FnOK.freezeE h
 |cons a r=>exact h.freezeS (by simp)
theorem alS (l:List Nm):Ze 1 (strC l):=by
 intro q a;obtain⟨t,_,rfl⟩:=List.mem_map.1 a;rfl
theorem ZcA (a b:List Tm):Tm.ovL (a++b)=Tm.ovL a++Tm.ovL b:=by
 induction a with
 |nil=>rfl
 |cons x r c=>simp only[List.cons_append,Tm.ovL,c,List.append_assoc]
theorem Zg0 (l:List Tm) (hl:l.length<=281474976710656) (hv:(Tm.ovL l).length<=1073741824) (H: ∀ k n s a,Tm.mk k n s a∈l->k≠5->k≠6->FK 111 [.slice (Tm.cellsL a) []] (.slice (strC (Tm.ovL a)) [])): ∀ (m i:Nat),l.length-i=m->i<=l.length →
  At Tryz.prog 0 (cut ZaK 0) (hdOu (Tm.cellsL l) [] (strC (Tm.ovL (l.take i))) l.length i) (FinQ true 0 Zcp λr _=>r=.own 1 9 (strC (Tm.ovL l))):=by
 intro m;induction m with
 |zero =>
  intro i hm hi;refine At.tree (Z2 (Zm _) Z0) (Zes (Tm.cellsL l) [] (strC (Tm.ovL (l.take i))) [] l.length i 0 0 [] []) ?_;rw[List.take_of_length_le (by omega:l.length<=i),Zs];refine⟨λh=>?_,λ_=>rfl⟩
  have:=of_decide_eq_true h;omega
 |succ m y =>
  intro i hm hi;have h1:i<l.length:=by omega
  have hx:(Tm.cellsL l)[i]? = some l[i].cells:=by rw[Zn];simp[h1]
  have c:=y (i+1) (by omega) (by omega);have hm:l[i]∈l:=List.getElem_mem h1;have b:(Tm.ovL (l.take (i+1))).length<=1073741824:=by
   have e:Tm.ovL l=Tm.ovL (l.take (i+1))++Tm.ovL (l.drop (i+1)):=by rw[<- ZcA,List.take_append_drop]
   rw[e,List.length_append] at hv;omega
  have w:Tm.ovL (l.take (i+1))=Tm.ovL (l.take i)++l[i].ov:=by
   rw[List.take_add_one,List.getElem?_eq_getElem h1,ZcA];simp[Tm.ovL]
  rw[w] at c b;generalize l[i]=x at hx hm c b;generalize Tm.ovL (l.take i)=R at c b ⊢;obtain⟨k,n,s,a⟩:=x;have hH:=H k n s a hm;simp only[Tm.ov,List.length_append] at c b;refine At.tree (Z2 (Zm _) Z0) (Zes (Tm.cellsL l) [] (strC R) (strC (Tm.ovL a)) l.length i k n s (Tm.cellsL a)) ?_;simp only[SS,Zp];refine⟨λ_=>⟨⟨by omega,hx⟩,?_⟩,λh=>by omega⟩;have z: ∀ P:Prop,(k:Int)=5->k=5:=λ_ h=>by omega
  by_cases p:k=5\/k=6
  ·rw[if_pos p,List.append_nil] at c;exact⟨λo=>⟨λ_=>⟨by omega,c⟩,λg=>absurd o g⟩,λo=>⟨λt=>⟨by omega,c⟩,λt=>by omega⟩⟩
  ·have f:k≠5:=λe=>p (.inl e);have j:k≠6:=λe=>p (.inr e);have d:=hH f j;rw[if_neg p] at c b;have o: ¬ (k:Int)=5:=by omega
   have t: ¬ (k:Int)=6:=by omega
   simp only[o,t,false_implies,not_false_eq_true,true_implies,true_and];have al:=alS (Tm.ovL a);have q:Ze 1 [[dS s]]:=alS [s];by_cases u:k=3
   ·subst u;rw[if_pos rfl] at c b;simp only[List.length_cons] at b;rw[show strC (R++s::Tm.ovL a)=strC R++[[dS s]]++strC (Tm.ovL a) by simp[strC]] at c;refine⟨λ_=>?_,λh=>absurd rfl h⟩;simp only[List.length_append,Zp,List.length_cons,List.length_nil];exact⟨⟨q,by omega⟩,d,⟨al,by omega⟩,by omega,c⟩
   ·rw[if_neg u] at c b;rw[QP] at c;have v: ¬ (k:Int)=3:=by omega
    refine⟨λh=>absurd h v,λ_=>?_⟩;exact⟨d,⟨al,by omega⟩,by omega,c⟩
theorem Z9k: ∀ l:List Tm,l.length<=281474976710656->Tm.wfL 281474976710656 l->(Tm.vsL l).length<=1073741824->FK 111 [.slice (Tm.cellsL l) []] (.slice (strC (Tm.ovL l)) [])
 |l,hl,b,hv=>by
  refine FnOK.freezeT (ty:=9) (FnOK.tree Z3 Zrq (Z2 Z1 Z0) (Zss (Tm.cellsL l) []) ?_);rw[Z6,Z5];refine Zg0 l hl (Nat.le_trans (Z7O l) hv) (λk n s a hm _ _=>?_) _ 0 rfl (Nat.zero_le _);have h1:=Qe.1 b _ hm;have h2:=Z59 hm;simp only[Tm.wf] at h1;simp only[Tm.vs,List.length_append] at h2;exact Z9k a h1.2.2.2.2.1 h1.2.2.2.2.2 (by omega)
termination_by l=>SizeOf.sizeOf l
decreasing_by
 have:=List.sizeOf_lt_of_mem hm;simp only[Tm.mk.sizeOf_spec] at this;omega
def okL (x:Lt):Prop:=x.a.length<=281474976710656/\Tm.wfL 281474976710656 x.a/\(Tm.vsL x.a).length<=1073741824/\okt x.l/\okt x.r
theorem ZiR (S:List Nm) (x:Lt) (hx:okL x):CF 82 [.agg [.map 0],.agg x.c] [(0,setO S)] λr ob=>r=.tuple []/\ob=[(0,setO (Qt S x))]:=by
 obtain⟨h1,h2,d,j,l⟩:=hx;obtain⟨k,no,p,a,op,x,y⟩:=x;simp only at h1 h2 d j l;have m:=Z9k a h1 h2 d;have v:=Z7O a;have ha:=Z4s (Tm.ovL a) (by omega) S;have c:=Z45 S x y l;have b:=Z45 (eqS S x y) y x j;unfold Qt;simp only[Lt.c];generalize w:eqS S x y=T1 at c b ⊢;generalize z:eqS T1 y x=T2 at b ⊢;generalize Tm.ovL a=q at m ha ⊢;obtain⟨n,nx,t,g⟩:=x;obtain⟨o,s,u,i⟩:=y;by_cases hk:k=1
 ·refine CallL.tree Z3 fp82 (Qf (Zm _) (Zi1 (Za _ _) (QT.or_ok Z3s (Za _ _)))) (Ziu (kS S) (uS S) (kS T1) (uS T1) (kS (addS S q)) (uS (addS S q)) k no p (Tm.cellsL a) op n nx t (Tm.cellsL g) o s u (Tm.cellsL i) (strC q)) ?_;simp only[SS];refine⟨λh=>by simp[h],λh=>⟨λ_=>⟨m,ha,by simp[h,hk]⟩,λh=>absurd (by omega) h⟩⟩
 ·refine CallL.tree Z3 fp82 (Qf (Zm _) (Zi1 (Za _ _) (QT.or_ok Z3s (Za _ _)))) (Ziu (kS S) (uS S) (kS T1) (uS T1) (kS T2) (uS T2) k no p (Tm.cellsL a) op n nx t (Tm.cellsL g) o s u (Tm.cellsL i) (strC q)) ?_;simp only[SS];refine⟨λh=>by simp[h],λh=>⟨λh=>absurd (by omega) hk,λ_=>⟨λh2=>⟨λd=>⟨c,b,?_⟩,λd=>?_⟩,λh2=>?_⟩⟩⟩
  ·have e:k=2:=by omega
   have f:op=1:=by omega
   simp[h,e,f]
  ·have f:op≠1:=by omega
   simp[h,hk,f]
  ·have e:k≠2:=by omega
   simp[h,hk,e]
end Go.Proofs.YtaclfbhhekhflaaGreatDoor.S
/- close,bound,sorted: trees. -/
namespace Go.Proofs.YtaclfbhhekhflaaGreatDoor.S
open Go.Sx
theorem ZtF (ks cs:List D) (es:LD):let A:=(0,Ob.gen (Gen.mapC ks cs) []);gC (ctr libT) 1 rs53 sc53 [] [dA [D.map 0],dL es []] [] [A]=(Jm (cut sc53 0) {tm:=[(1,dL es []),(2,dP 1 0),(4,dI (-1:Int))],ob:=[A,(1,oC [D.map 0])]}:Tr):=by intro A;kernel_rfl
def hdCl (es:LD) (n:Int) (ks cs:List D):St:=⟨[(1,.slice es []),(2,.ptr 1 0),(4,.int .i64 n)],[(0,.gen (.mapC ks cs) []),(1,.cells [.map 0])]⟩
theorem Zfb (ks cs:List D) (es:LD) (n:Int):let A:=(0,Ob.gen (Gen.mapC ks cs) []);let B:=(↑(List.length ks):Int);gH (ctr libT) 1 false rs53 (cut sc53 0) (hdCl es n ks cs)=(brT (!decide (n=B)) (Jm (cut sc53 1) {tm:=[(1,dL es []),(2,dP 1 0),(4,dI B),(15,dL es []),(16,dI (↑(List.length es):Int)),(17,dI 0)],ob:=[A,(1,oC [D.map 0])]}) (Rt (D.tuple []) [A]):Tr):=by intro A B;kernel_rfl
def hdCi (es:LD) (n m i:Int) (ks cs:List D):St:=⟨[(1,.slice es []),(2,.ptr 1 0),(4,.int .i64 n),(15,.slice es []),(16,.int .i64 m),(17,.int .i64 i)],[(0,.gen (.mapC ks cs) []),(1,.cells [.map 0])]⟩
theorem Zfa (ks cs b cs':List D) (es:LD) (n m i k:Int) (no:Bool) (p:LU) (a:LD) (op e nx:Int) (h:LU) (c:LD) (f g:Int) (j:LU) (d:LD):let A:=[dU k,dB no,dS p,dL a [],dU op,dU e,dI nx,dS h,dL c [],dU f,dI g,dS j,dL d []];let B:=(0,Ob.gen (Gen.mapC b cs') []);let C:=(0,Ob.gen (Gen.mapC ks cs) []);let E:=[D.map 0];let F:=D.tuple [];let G:=cut sc53 1;let H:=(1,dL es []);let I:=(i+(1:Int));gH (ctr libT (asmA F (updM b cs')) (eOne (lC k no p a op e nx h c f g j d))) 1 false rs53 G (hdCi es n m i ks cs)=(brT (decide (i<m)) (Ow ((0:Int)<=i/\es[Int.toNat i]? = some A) (Ow (CQ 82 [dA E,dA A] [C] F [B]) (I8 I (Jm G {tm:=[H,(2,dP 1 0),(4,dI n),(15,dL es []),(16,dI m),(17,dI I)],ob:=[B,(1,oC E)]})))) (Jm (cut sc53 0) {tm:=[H,(2,dP 1 0),(4,dI n)],ob:=[C,(1,oC E)]}):Tr):=by intro A B C E F G H I;kernel_rfl
def asmO (r:D) (ob':Obs):QT:=λd xs ob=>some (.ok (CallL Tryz.prog d xs ob λr0 ob0=>r0=r/\ob0=ob') r ob')
theorem Zw (r:D) (ob':Obs):(asmO r ob').OK:=by intro d xs ob rt h;cases h;exactλhp=>hp
theorem ZtJ (ks cs a cs':List D) (es:LD):let A:=(0,Ob.gen (Gen.mapC ks cs) []);let B:=[A,(1,Ob.gen (Gen.mapC ks cs) [])];let C:=Gen.mapC a cs';let E:=D.map 1;let F:=D.tuple [];gC (ctr libT (QT.or (onF 52 (asmO E B)) (asmA F (updM a cs')))) 1 rs31 sc31 [] [D.map 0,dL es []] [] [A]=(Ow (CQ 52 [D.map 0] [A] E B) (Ow (CQ 53 [dA [D.map 0],dL es []] [A] F [(0,Ob.gen C [])]) (Rt E [A,(1,Ob.gen C [])])):Tr):=by intro A B C E F;kernel_rfl
abbrev fY:FuncId:=73
def keyQ:QT:=λd xs ob=>match d,xs,ob with
 |.func (.func f) [] [],[.map 0],[(0,.gen (.mapC ks cs) [])]=>if f=45 then some (.ok True (.func (.func fY) [] [.ptr 1 0]) [(0,.gen (.mapC ks cs) []),(1,.cells [.map 0])]) else none
 |_,_,_=>none
theorem Z80:keyQ.OK:=by
 intro d xs ob rt h;unfold keyQ at h;split at h
 ·split at h
  ·rename_i hf;subst hf;cases h;intro _;exact CallL.tree Z3 fp45 (Z2 Z1 Z0) (ZnH _ _) ⟨rfl,rfl⟩
  ·cases h
 ·cases h
theorem Zth (ks cs:List D) (r:LD):let A:=[(0,oC [D.map 1]),(1,Ob.gen (Gen.mapC ks cs) []),(2,oR false 1 9 r)];let B:=Gen.mapC ks cs;let C:=(0,Ob.gen B []);gC (ctr libT (QT.or keyQ (asmO (dV 2) A))) 1 rs18 sc18 [] [D.map 0] [] [C]=(Ow True (Ow (CQ 44 [dF 73 [] [dP 0 0]] [(0,oC [D.map 1]),(1,Ob.gen B [])] (dV 2) A) (Rt (dV 1) [C,(1,oR false 1 9 r)])):Tr):=by intro A B C;kernel_rfl
theorem Znv (ks cs:List D):let A:=[(0,oC [D.map 1]),(1,Ob.gen (Gen.mapC ks cs) [])];let B:=[(0,Ob.gen (Gen.mapC ks cs) [])];gC (ctr libT (QT.or keyQ (asmO D.nils A))) 1 rs18 sc18 [] [D.map 0] [] B=(Ow True (Ow (CQ 44 [dF 73 [] [dP 0 0]] A (D.nils) A) (Rt D.nils B)):Tr):=by intro A B;kernel_rfl
end Go.Proofs.YtaclfbhhekhflaaGreatDoor.S
/- close,bound. -/
namespace Go.Proofs.YtaclfbhhekhflaaGreatDoor.S
open Go.Sx Go.RowKit
section
variable (ls:List Lt) (hl:ls.length<=281474976710656) (hok: ∀ x∈ls,okL x)
include hl hok
theorem Ze3 (n:Int) (R:D->Obs->Prop) (T:List Nm) (K:At Tryz.prog 1 (cut sc53 0) (hdCl (ltL ls) n (kS T) (uS T)) (FinQ false 1 rs53 R)): ∀ (m i:Nat) (S:List Nm),ls.length-i=m->i<=ls.length->ZK S (ls.drop i)=T →
  At Tryz.prog 1 (cut sc53 1) (hdCi (ltL ls) n ls.length i (kS S) (uS S)) (FinQ false 1 rs53 R):=by
 intro m;induction m with
 |zero =>
  intro i S hm hi b;refine At.tree (Z2 Z1 (Za _ _)) (Zfa (kS S) (uS S) [] [] (ltL ls) n ls.length i 0 true [] [] 0 0 0 [] [] 0 0 [] []) ?_;rw[List.drop_eq_nil_of_le (by omega:ls.length<=i)] at b;have b:S=T:=b;subst b;rw[Zs];refine⟨λh=>?_,λ_=>?_⟩
  ·have:=of_decide_eq_true h;omega
  ·rw[Z6];exact K
 |succ m g =>
  intro i S hm hi b;have h1:i<ls.length:=by omega
  rw[Zc h1] at b;have c:=g (i+1) (Qt S ls[i]) (by omega) (by omega) b;have d:=Z7T h1;have hs:=ZiR S ls[i] (hok _ (List.getElem_mem h1));generalize Qt S ls[i]=S2 at c hs;generalize ls[i]=x at d hs;obtain⟨k,no,p,a,op,⟨j,nx,q,e⟩,⟨l,o,r,f⟩⟩:=x;refine At.tree (Z2 Z1 (Za _ _)) (Zfa (kS S) (uS S) (kS S2) (uS S2) (ltL ls) n ls.length i k no p (Tm.cellsL a) op j nx q (Tm.cellsL e) l o r (Tm.cellsL f)) ?_;rw[Zs];refine⟨λ_=>?_,λh=>?_⟩
  ·rw[Z4,Int.toNat_natCast,Z4,Z4,Z6];exact⟨⟨by omega,d⟩,hs,by omega,c⟩
  ·have:=of_decide_eq_false h;omega
theorem Ze1: ∀ (m:Nat) (S:List Nm) (n:Int),S.Nodup->gapS S ls<m->n≠(S.length:Int) →
  At Tryz.prog 1 (cut sc53 0) (hdCl (ltL ls) n (kS S) (uS S)) (FinQ false 1 rs53 λr ob=>r=.tuple []/\ob=[(0,setO (ZF S ls))]):=by
 intro m;induction m with
 |zero=>intro S n _ h;omega
 |succ m g =>
  intro S n c i f;have a:=Z8q ls c;have d:=Z9Q (ls:=ls) c;have e:=Z05 ls c;have K:At Tryz.prog 1 (cut sc53 0) (hdCl (ltL ls) S.length (kS (ZK S ls)) (uS (ZK S ls))) (FinQ false 1 rs53 λr ob=>r=.tuple []/\ob=[(0,setO (ZF S ls))]):=by
   by_cases b:(ZK S ls).length=S.length
   ·rw[if_pos b] at a;rw[a];refine At.tree (Z2 Z1 Z0) (Zfb (kS (ZK S ls)) (uS (ZK S ls)) (ltL ls) S.length) ?_;rw[Z9E,b,Zs];exact⟨λh=>by simp at h,λ_=>⟨rfl,rfl⟩⟩
   ·rw[if_neg b] at a;rw[a];exact g (ZK S ls) S.length e (by have:=d b;omega) (by omega)
  refine At.tree (Z2 Z1 Z0) (Zfb (kS S) (uS S) (ltL ls) n) ?_;rw[Z9E,Z0I,Zs];refine⟨λ_=>?_,λh=>?_⟩
  ·rw[Z6];exact Ze3 ls hl hok S.length _ _ K _ 0 S rfl (Nat.zero_le _) rfl
  ·simp only[Bool.not_eq_false',decide_eq_true_eq] at h;exact absurd h f
theorem ZgL (S:List Nm) (a:S.Nodup):CF 53 [.agg [.map 0],.slice (ltL ls) []] [(0,setO S)] λr ob=>r=.tuple []/\ob=[(0,setO (ZF S ls))]:=by
 refine CallL.tree Z3 fp53 (Z2 Z1 Z0) (ZtF (kS S) (uS S) (ltL ls)) ?_;rw[Z6];exact Ze1 ls hl hok _ S (-1) a (Nat.lt_succ_self _) (by omega)
theorem Z5Z (S:List Nm) (a:S.Nodup):CF 31 [.map 0,.slice (ltL ls) []] [(0,setO S)] λr ob=>r=.map 1/\ob=[(0,setO S),(1,setO (ZF S ls))]:=by
 refine CallL.tree Z3 fp31 (Z2 Z1 (QT.or_ok (Z16 (Zw _ _)) (Za _ _))) (ZtJ (kS S) (uS S) (kS (ZF S ls)) (uS (ZF S ls)) (ltL ls)) ?_;rw[Z4,Z4,Z7];exact⟨CallL.clone (by kernel_rfl) (λb es clock w h=>Tryz.maps_Clone b es clock w h) _ _,ZgL ls hl hok S a,rfl,rfl⟩
end
end Go.Proofs.YtaclfbhhekhflaaGreatDoor.S
/- Keys gathered: trees. -/
namespace Go.Proofs.YtaclfbhhekhflaaGreatDoor.S
open Go.Sx
theorem ZtK (ks cs:List D):let A:=(1,Ob.gen (Gen.mapC ks cs) []);let B:=AOp.load false 1;let C:=(0,oC [D.map 1]);gC (ctr libT) 2 Zcq QK [] [D.nils,dF fY [] [dP 0 0]] [] [C,A]=(Jm [Fr.sc (SC.rangeF 13 (xt 6) #[7] (SC.reg [so 5 AOp.mv [xt 7]]) (SC.block 1 (SC.reg [so 8 B [xt 2],so 9 AOp.mv [xt 5],so 10 (AOp.bslice true 1 1 9 [dS []] [(0,1)]) [xt 9],SOp.app 11 none false 1 9 (xt 8) (xt 10),SOp.st none (SK.c 1) (xt 2) (xt 11)]))),Fr.blk 0,Fr.sc (SC.seq (SC.reg [so 12 B [xt 2],so 4 AOp.mv [xt 12]]) SC.ret)] {tm:=[(6,dF 73 [] [dP 0 0]),(4,dV 6),(2,dP 4 0),(0,D.nils),(1,dF 73 [] [dP 0 0])],ob:=[(6,oR true 1 9 []),(4,oC [D.nils]),C,A]}:Tr):=by intro A B C;kernel_rfl
def Zd3:List Nat:=[6,4,2,0,1]
def dsP (a v c:Nat):List D:=[.func (.func fY) [] [.ptr a 0],.vec v,.ptr c 0,.nils,.func (.func fY) [] [.ptr a 0]]
def recP (ds:List D):Ob:=.gen (.loop .ready none #[7] (QK.rngA 0) (QK.rngB 0) 13 Zd3) ds
def obPN (m:Ob):Obs:=[(0,.cells [.map 2]),(1,recP (dsP 0 3 4)),(2,m),(3,.arr true 1 9 []),(4,.cells [.nils])]
def obPA (m:Ob) (j:Nat) (o:LD):Obs:=[(0,.cells [.map 2]),(1,recP (dsP 0 3 4)),(2,m),(3,.arr true 1 9 []),(4,.cells [.vec j]),(j,.arr false 1 9 o)]
theorem Zm8 (x:LU) (ks cs:List D) (l:List Nat) (cl:Nat):let A:=(4,Ob.gen (Gen.mapB ks cs l cl) []);let B:=(2,oR true 1 9 []);let C:=(1,oC [D.map 4]);let E:=dsP 1 2 3;yldT Tryz.prog (ctr libT) 5 0 13 #[7] (SC.rngA QK 0) (SC.rngB QK 0) Zd3 E 2000 {tm:=putP (List.zip [7] [dS x]) (List.zip Zd3 E),ob:=[C,B,(3,oC [D.nils]),A]}=(Ow (Ze 1 [[dS x]]/\1<=1073741824) (Rt (dB true) [(0,gL .ready none #[7] QK 0 13 [6,4,2,0,1] [dF 73 [] [dP 1 0],dV 2,dP 3 0,D.nils,dF 73 [] [dP 1 0]]),C,B,(3,oC [dV 5]),A,(5,oR false 1 9 [[dS x]])]):Tr):=by intro A B C E;kernel_rfl
theorem Zm9 (x:LU) (ks cs:List D) (l:List Nat) (cl:Nat) (o:LD):let A:=(4,Ob.gen (Gen.mapB ks cs l cl) []);let B:=(2,oR true 1 9 []);let C:=(1,oC [D.map 4]);let E:=dsP 1 2 3;yldT Tryz.prog (ctr libT) 6 0 13 #[7] (SC.rngA QK 0) (SC.rngB QK 0) Zd3 E 2000 {tm:=putP (List.zip [7] [dS x]) (List.zip Zd3 E),ob:=[C,B,(3,oC [dV 5]),A,(5,oR false 1 9 o)]}=(Ow (Ze 1 [[dS x]]/\List.length o+1<=1073741824) (Rt (dB true) [(0,gL .ready none #[7] QK 0 13 [6,4,2,0,1] [dF 73 [] [dP 1 0],dV 2,dP 3 0,D.nils,dF 73 [] [dP 1 0]]),C,B,(3,oC [dV 6]),A,(6,oR false 1 9 (o++[[dS x]]))]):Tr):=by intro A B C E;kernel_rfl
def addR (x:D):Obs->Obs
 |[(0,r),(1,c),(2,e),(3,.cells [.nils]),(4,m)]=>[(0,r),(1,c),(2,e),(3,.cells [.vec 5]),(4,m),(5,.arr false 1 9 [[x]])]
 |[(0,r),(1,c),(2,e),(3,.cells [.vec 5]),(4,m),(5,.arr fz sz ty o)]=>[(0,r),(1,c),(2,e),(3,.cells [.vec 6]),(4,m),(6,.arr fz sz ty (o++[[x]]))]
 |ob=>ob
theorem Ztt (ks cs:List D):gC (ctr libT) 5 rs73 sc73 [] [D.yld 1] [dP 0 0] (obPN (Ob.gen (Gen.mapC ks cs) []))=(Jm (spc sc73 0) {tm:=[(0,D.yld 1),(1,dP 0 0)],ob:=[(0,oC [D.map 2]),(1,gL .ready none #[7] QK 0 13 [6,4,2,0,1] [dF 73 [] [dP 0 0],dV 3,dP 4 0,D.nils,dF 73 [] [dP 0 0]]),(2,Ob.gen (Gen.mapC ks cs) []),(3,oR true 1 9 []),(4,oC [D.nils])]}:Tr):=by kernel_rfl
abbrev itO (l ix:List Nat) (cl a:Nat):Ob:=.gen (.iter l ix cl) [.map a]
abbrev mbO (ks cs:List D) (l:List Nat) (cl:Nat):Ob:=.gen (.mapB ks cs l cl) []
theorem Ztw (ks cs:List D) (l:List Nat) (cl:Nat):let A:=(3,oR true 1 9 []);let B:=[D.map 2];let C:=(4,oC [D.nils]);let E:=(0,D.yld 1);gH (ctr libT) 5 false rs73 (aft sc73 0) {tm:=[(5,dP 10 0),(4,D.map 2),E,(1,dP 0 0)],ob:=[(10,itO l [] cl 2),(2,mbO ks cs l cl),(0,oC B),(1,recP (dsP 0 3 4)),A,C]}=(Jm (cut sc73 0) {tm:=[E,(5,dP 5 0)],ob:=[(0,oC B),(1,gL .ready none #[7] QK 0 13 [6,4,2,0,1] [dF 73 [] [dP 0 0],dV 3,dP 4 0,D.nils,dF 73 [] [dP 0 0]]),(2,Ob.gen (Gen.mapB ks cs l cl) []),A,C,(5,Ob.gen (Gen.iter l [] cl) B)]}:Tr):=by intro A B C E;kernel_rfl
theorem Zf3 (ks cs:List D) (l ix:List Nat) (cl:Nat):let A:=[(0,D.yld 1),(5,dP 5 0)];gH (ctr libT) 5 false rs73 (cut sc73 0) {tm:=A,ob:=obPN (mbO ks cs l cl)++[(5,itO l ix cl 2)]}=(Jm (spc sc73 1) {tm:=A,ob:=[(0,oC [D.map 2]),(1,gL .ready none #[7] QK 0 13 [6,4,2,0,1] [dF 73 [] [dP 0 0],dV 3,dP 4 0,D.nils,dF 73 [] [dP 0 0]]),(2,Ob.gen (Gen.mapB ks cs l cl) []),(3,oR true 1 9 []),(4,oC [D.nils]),(5,Ob.gen (Gen.iter l ix cl) [D.map 2])]}:Tr):=by intro A;kernel_rfl
theorem ZnF (ks cs:List D) (l ix:List Nat) (cl:Nat):let A:=(2,Ob.gen (Gen.mapC ks cs) []);let B:=(3,oR true 1 9 []);let C:=(0,oC [D.map 2]);let E:=(4,oC [D.nils]);gH (ctr libT) 5 false rs73 (aft sc73 1) {tm:=[(7,dB false),(6,D.undef),(0,D.yld 1),(5,dP 5 0)],ob:=[A,C,(1,recP (dsP 0 3 4)),B,E,(5,itO l ix cl 2)]}=(Rt (D.tuple []) [C,(1,gL .ready none #[7] QK 0 13 [6,4,2,0,1] [dF 73 [] [dP 0 0],dV 3,dP 4 0,D.nils,dF 73 [] [dP 0 0]]),A,B,E]:Tr):=by intro A B C E;kernel_rfl
theorem ZnD (ks cs:List D) (l ix:List Nat) (cl:Nat) (x:LU):let A:=[(5,itO l ix cl 2),(0,oC [D.map 2]),(1,recP (dsP 0 3 4)),(2,mbO ks cs l cl),(3,oR true 1 9 []),(4,oC [D.nils])];let B:=[dF 73 [] [dP 1 0],dV 2,dP 3 0,D.nils,dF 73 [] [dP 1 0]];let C:=[(7,dB true),(6,D.undef),(0,D.yld 1),(5,dP 5 0)];let E:=Gen.mapB ks cs l cl;let F:=(2,oR true 1 9 []);let G:=(1,oC [D.map 4]);let H:=(4,Ob.gen E []);let I:=[dS x,dA []];gH (ctr libT (asmA (dB true) (addR (dS x))) (eOne [D.tuple I])) 5 false rs73 (aft sc73 1) {tm:=C,ob:=A}=(Ow (extD Ext.entry [dP 5 0] (lk (St.ob {tm:=C,ob:=A}))=some (D.tuple I)) (Ow (CallL Tryz.prog (D.yld 0) [dS x] [(0,gL .ready none #[7] QK 0 13 [6,4,2,0,1] B),G,F,(3,oC [D.nils]),H] λr0 ob0=>r0=dB true/\ob0=[(0,gL .ready none #[7] QK 0 13 [6,4,2,0,1] B),G,F,(3,oC [dV 5]),H,(5,oR false 1 9 [[dS x]])]) (Jm (cut sc73 0) {tm:=[(0,D.yld 1),(5,dP 5 0)],ob:=[(0,oC [D.map 2]),(1,gL .ready none #[7] QK 0 13 [6,4,2,0,1] [dF 73 [] [dP 0 0],dV 3,dP 4 0,D.nils,dF 73 [] [dP 0 0]]),(2,Ob.gen E []),(3,oR true 1 9 []),(4,oC [dV 6]),(5,Ob.gen (Gen.iter l ix cl) [D.map 2]),(6,oR false 1 9 [[dS x]])]})):Tr):=by intro A B C E F G H I;kernel_rfl
theorem Zf4 (ks cs:List D) (l ix:List Nat) (cl:Nat) (o:LD):let A:=[(0,D.yld 1),(5,dP 5 0)];let B:=(3,oR true 1 9 []);let C:=(6,oR false 1 9 o);let E:=[D.map 2];let F:=(4,oC [dV 6]);gH (ctr libT) 5 false rs73 (cut sc73 0) {tm:=A,ob:=[(0,oC E),(1,recP (dsP 0 3 4)),(2,mbO ks cs l cl),B,F,(5,itO l ix cl 2),C]}=(Jm (spc sc73 1) {tm:=A,ob:=[(0,oC E),(1,gL .ready none #[7] QK 0 13 [6,4,2,0,1] [dF 73 [] [dP 0 0],dV 3,dP 4 0,D.nils,dF 73 [] [dP 0 0]]),(2,Ob.gen (Gen.mapB ks cs l cl) []),B,F,(5,Ob.gen (Gen.iter l ix cl) E),C]}:Tr):=by intro A B C E F;kernel_rfl
theorem ZnG (ks cs:List D) (l ix:List Nat) (cl:Nat) (o:LD):let A:=(2,Ob.gen (Gen.mapC ks cs) []);let B:=(3,oR true 1 9 []);let C:=(0,oC [D.map 2]);gH (ctr libT) 5 false rs73 (aft sc73 1) {tm:=[(7,dB false),(6,D.undef),(0,D.yld 1),(5,dP 5 0)],ob:=[A,C,(1,recP (dsP 0 3 4)),B,(4,oC [dV 6]),(5,itO l ix cl 2),(6,oR false 1 9 o)]}=(Rt (D.tuple []) [C,(1,gL .ready none #[7] QK 0 13 [6,4,2,0,1] [dF 73 [] [dP 0 0],dV 3,dP 4 0,D.nils,dF 73 [] [dP 0 0]]),A,B,(4,oC [dV 5]),(5,oR false 1 9 o)]:Tr):=by intro A B C;kernel_rfl
theorem ZnE (ks cs:List D) (l ix:List Nat) (cl:Nat) (o:LD) (x:LU):let A:=[(5,itO l ix cl 2),(0,oC [D.map 2]),(1,recP (dsP 0 3 4)),(2,mbO ks cs l cl),(3,oR true 1 9 []),(4,oC [dV 6]),(6,oR false 1 9 o)];let B:=[dF 73 [] [dP 1 0],dV 2,dP 3 0,D.nils,dF 73 [] [dP 1 0]];let C:=[(7,dB true),(6,D.undef),(0,D.yld 1),(5,dP 5 0)];let E:=Gen.mapB ks cs l cl;let F:=(6,oR false 1 9 (o++[[dS x]]));let G:=(2,oR true 1 9 []);let H:=(1,oC [D.map 4]);let I:=(4,Ob.gen E []);let J:=[dS x,dA []];gH (ctr libT (asmA (dB true) (addR (dS x))) (eOne [D.tuple J])) 5 false rs73 (aft sc73 1) {tm:=C,ob:=A}=(Ow (extD Ext.entry [dP 5 0] (lk (St.ob {tm:=C,ob:=A}))=some (D.tuple J)) (Ow (CallL Tryz.prog (D.yld 0) [dS x] [(0,gL .ready none #[7] QK 0 13 [6,4,2,0,1] B),H,G,(3,oC [dV 5]),I,(5,oR false 1 9 o)] λr0 ob0=>r0=dB true/\ob0=[(0,gL .ready none #[7] QK 0 13 [6,4,2,0,1] B),H,G,(3,oC [dV 6]),I,F]) (Jm (cut sc73 0) {tm:=[(0,D.yld 1),(5,dP 5 0)],ob:=[(0,oC [D.map 2]),(1,gL .ready none #[7] QK 0 13 [6,4,2,0,1] [dF 73 [] [dP 0 0],dV 3,dP 4 0,D.nils,dF 73 [] [dP 0 0]]),(2,Ob.gen E []),(3,oR true 1 9 []),(4,oC [dV 6]),(5,Ob.gen (Gen.iter l ix cl) [D.map 2]),F]})):Tr):=by intro A B C E F G H I J;kernel_rfl
end Go.Proofs.YtaclfbhhekhflaaGreatDoor.S
/- Keys gathered. -/
namespace Go.Proofs.YtaclfbhhekhflaaGreatDoor.S
open Go.Sx Go.RowKit
theorem Zu9 (x:Nm) (ks cs:List D) (l:List Nat) (cl:Nat):CallL Tryz.prog (.yld 0) [.str x] [(0,recP (dsP 1 2 3)),(1,.cells [.map 4]),(2,.arr true 1 9 []),(3,.cells [.nils]),(4,mbO ks cs l cl)] λr ob=>r=.bool true/\ob=[(0,recP (dsP 1 2 3)),(1,.cells [.map 4]),(2,.arr true 1 9 []),(3,.cells [.vec 5]),(4,mbO ks cs l cl),(5,.arr false 1 9 [[.str x]])]:=by
 refine CallL.yldT Z3 (Z2 Z1 Z0) rfl (Zm8 x ks cs l cl) ?_;rw[Z4,Z7];exact⟨⟨alS [x],by decide⟩,rfl,rfl⟩
theorem Zua (x:Nm) (ks cs:List D) (l:List Nat) (cl:Nat) (o:List Nm) (a:o.length+1<=1073741824):CallL Tryz.prog (.yld 0) [.str x] [(0,recP (dsP 1 2 3)),(1,.cells [.map 4]),(2,.arr true 1 9 []),(3,.cells [.vec 5]),(4,mbO ks cs l cl),(5,.arr false 1 9 (strC o))] λr ob=>r=.bool true/\ob=[(0,recP (dsP 1 2 3)),(1,.cells [.map 4]),(2,.arr true 1 9 []),(3,.cells [.vec 6]),(4,mbO ks cs l cl),(6,.arr false 1 9 (strC o++[[.str x]]))]:=by
 refine CallL.yldT Z3 (Z2 Z1 Z0) rfl (Zm9 x ks cs l cl (strC o)) ?_;rw[Z4,Z7];exact⟨⟨alS [x],by rw[Zp];exact a⟩,rfl,rfl⟩
def QG (S:List Nm) (ix:List Nat):List Nm:=ix.map λi=>S.getD i []
theorem Z2k {S:List Nm} {ix:List Nat} (c:ix.Nodup) (b: ∀ i∈ix,i<S.length) (a: ∀ i,i<S.length->i∈ix):(QG S ix).Perm S:=by
 have h:ix.Perm (List.range S.length):=(List.perm_ext_iff_of_nodup c List.nodup_range).2 λi=>⟨λhi=>List.mem_range.2 (b i hi),λhi=>a i (List.mem_range.1 hi)⟩;refine (h.map _).trans ?_;have e:(List.range S.length).map (λi=>S.getD i [])=S:=by
  refine List.ext_getElem? λj=>?_;rw[List.getElem?_map];by_cases d:j<S.length
  ·simp[d]
  ·rw[List.getElem?_eq_none (by simpa using d),List.getElem?_eq_none (by omega)];rfl
 rw[e]
theorem Zgb {n:Nat} {ix:List Nat} (b:ix.Nodup) (a: ∀ i∈ix,i<n):ix.length<=n:=by
 have:=List.Nodup.length_le_of_subset b (l₂:=List.range n) (λi hi=>List.mem_range.2 (a i hi));simpa using this
theorem Zd9 {S:List Nm} {i:Nat} (h:i<S.length):(kS S)[i]? = some (.str (S.getD i [])):=by simp[kS,h]
theorem ZbG {S:List Nm} {i:Nat} (h:i<S.length):(uS S)[i]? = some (.agg []):=by simp[uS,h]
theorem spc0:spc sc73 0=.sc (.spec (.rng [so 4 (.load false 1) [xt 1]] 5 (xt 4)))::aft sc73 0:=rfl
theorem spc1:spc sc73 1=.sc (.spec (.nxt (xt 5) 6 7))::aft sc73 1:=rfl
def outP (S:List Nm):List Nm->Obs
 |[]=>obPN (setO S)
 |c::r=>obPA (setO S) 5 (strC (c::r))
def hdKs (S:List Nm) (l ix:List Nat) (cl:Nat):List Nm->St
 |[]=>⟨[(0,.yld 1),(5,.ptr 5 0)],obPN (mbO (kS S) (uS S) l cl)++[(5,itO l ix cl 2)]⟩
 |c::r=>⟨[(0,.yld 1),(5,.ptr 5 0)],[(0,.cells [.map 2]),(1,recP (dsP 0 3 4)),(2,mbO (kS S) (uS S) l cl),(3,.arr true 1 9 []),(4,.cells [.vec 6]),(5,itO l ix cl 2),(6,.arr false 1 9 (strC (c::r)))]⟩
abbrev RP (S:List Nm):D->Obs->Prop:=λr ob=>r=.tuple []/\ ∃ q:List Nm,q.Perm S/\ob=outP S q
theorem ZkX (S:List Nm) (B:S.length<=1073741823) (l:List Nat) (hl:l.length=S.length) (cl:Nat): ∀ (m:Nat) (ix:List Nat),ix.Nodup->(∀ i∈ix,i<S.length)->S.length-ix.length=m →
  swF Tryz.prog (6001+4001*m) 5 (cut sc73 0) (hdKs S l ix cl (QG S ix)) (FinQ false 5 rs73 (RP S)):=by
 intro m;induction m with
 |zero =>
  intro ix h f hm;have v:=Zgb h f;have y: ∀ (d: ∀ i,i<l.length->i∈ix),(QG S ix).Perm S:=λd=>Z2k h f λi hi=>d i (by omega);have o: ∀ i,i<l.length->i ∉ ix->False:=λi hi q=>q (Z8e h f (by omega) i (by omega));generalize C:QG S ix=g at y ⊢;cases g with
  |nil =>
   refine swF.tree (n0:=4001) (n:=2000) (Z2 Z1 Z0) (Zf3 (kS S) (uS S) l ix cl) ?_;rw[Z6,spc1];refine Qs ⟨5,l,ix,cl,2,kS S,uS S,rfl,rfl,rfl,by decide,λd=>⟨rfl,?_⟩,λi hi q=>(o i hi q).elim⟩;refine swF.tree (n0:=2000) (n:=2000) (Z2 Z1 Z0) (ZnF (kS S) (uS S) l ix cl) ?_;rw[Z7];exact⟨rfl,[],y d,rfl⟩
  |cons c r =>
   refine swF.tree (n0:=4001) (n:=2000) (Z2 Z1 Z0) (Zf4 (kS S) (uS S) l ix cl (strC (c::r))) ?_;rw[Z6,spc1];refine Qs ⟨5,l,ix,cl,2,kS S,uS S,rfl,rfl,rfl,by decide,λd=>⟨rfl,?_⟩,λi hi q=>(o i hi q).elim⟩;refine swF.tree (n0:=2000) (n:=2000) (Z2 Z1 Z0) (ZnG (kS S) (uS S) l ix cl (strC (c::r))) ?_;rw[Z7];exact⟨rfl,c::r,y d,rfl⟩
 |succ m A =>
  intro ix h f hm;have v:=Zgb h f;have s:(∀ i,i<l.length->i∈ix)->False:=λd=>by
   have hp:=Z2k h f λi hi=>d i (by omega)
   have:=hp.length_eq;simp only[QG,List.length_map] at this;omega
  have k: ∀ i,i<l.length->i ∉ ix->swF Tryz.prog (6001+4001*m) 5 (cut sc73 0) (hdKs S l (ix++[i]) cl (QG S ix++[S.getD i []])) (FinQ false 5 rs73 (RP S)):=λi hi q=>by
   have t:=A (ix++[i]) (by rw[List.nodup_append];exact⟨h,by simp,λa ha b z e=>by simp at z;subst z;subst e;exact q ha⟩) (λj u=>by
    rcases List.mem_append.1 u with u|u
    ·exact f j u
    ·simp at u;omega) (by simp;omega)
   have e:QG S (ix++[i])=QG S ix++[S.getD i []]:=by simp[QG]
   rw[e] at t;exact t
  have w:(QG S ix).length=ix.length:=by simp[QG]
  rw[show 6001+4001*(m+1)=(4000+4001*(m+1)+1)+2000 by omega];generalize QG S ix=g at k w ⊢;cases g with
  |nil =>
   refine swF.tree (n0:=4000+4001*(m+1)+1) (n:=2000) (Z2 Z1 Z0) (Zf3 (kS S) (uS S) l ix cl) ?_;rw[Z6,spc1];refine Qs ⟨5,l,ix,cl,2,kS S,uS S,rfl,rfl,rfl,by decide,λd=>(s d).elim,λi hi q=>⟨rfl,?_⟩⟩;have p:i<S.length:=by omega
   have t:=k i hi q;have h1:=Zd9 p;have h2:=ZbG p;rw[show 4000+4001*(m+1)=(6001+4001*m)+2000 by omega];refine swF.tree (n0:=6001+4001*m) (n:=2000) (Z2 Z1 (Za _ _)) (ZnD (kS S) (uS S) l (ix++[i]) cl (S.getD i [])) ?_;rw[Z4,Z4,Z6];refine⟨?_,Zu9 _ _ _ _ _,t⟩;simp[extD,lk,h1,h2,kOK]
  |cons c r =>
   refine swF.tree (n0:=4000+4001*(m+1)+1) (n:=2000) (Z2 Z1 Z0) (Zf4 (kS S) (uS S) l ix cl (strC (c::r))) ?_;rw[Z6,spc1];refine Qs ⟨5,l,ix,cl,2,kS S,uS S,rfl,rfl,rfl,by decide,λd=>(s d).elim,λi hi q=>⟨rfl,?_⟩⟩;have p:i<S.length:=by omega
   have t:=k i hi q;have h1:=Zd9 p;have h2:=ZbG p;rw[show 4000+4001*(m+1)=(6001+4001*m)+2000 by omega];refine swF.tree (n0:=6001+4001*m) (n:=2000) (Z2 Z1 (Za _ _)) (ZnE (kS S) (uS S) l (ix++[i]) cl (strC (c::r)) (S.getD i [])) ?_;rw[Z4,Z4,Z6];have e:strC (c::r)++[[dS (S.getD i [])]]=strC (c::(r++[S.getD i []])):=by simp[strC]
   refine⟨?_,Zua _ _ _ _ _ _ (by simp only[List.length_cons] at w ⊢;omega),?_⟩
   ·simp[extD,lk,h1,h2,kOK]
   ·rw[e];exact t
theorem ZkW (S:List Nm) (a:S.length<=1073741823):CallL Tryz.prog (.func (.func fY) [] [.ptr 0 0]) [.yld 1] (obPN (setO S)) (RP S):=by
 refine CallL.tree Z3 fp73 (Z2 Z1 Z0) (Ztt (kS S) (uS S)) ?_;rw[Z6,spc0];refine⟨_,Qs (n:=6001+4001*S.length+2000) ⟨2,kS S,uS S,rfl,rfl,rfl,(by show (2:Nat)≠10;decide),λl cl h1 h2 b=>⟨rfl,?_⟩⟩⟩;refine swF.tree (n0:=6001+4001*S.length) (n:=2000) (Z2 Z1 Z0) (Ztw (kS S) (uS S) l cl) ?_;rw[Z6];exact ZkX S a l (by rw[h1,Z9E]) cl _ [] List.nodup_nil (λi hi=>by simp at hi) rfl
end Go.Proofs.YtaclfbhhekhflaaGreatDoor.S
/- AppendSeq,Collect,Sorted over the keys of a set: trees. -/
namespace Go.Proofs.YtaclfbhhekhflaaGreatDoor.S
open Go.Sx Go.RowKit
def stAp (ks cs:List D):St:=⟨[(6,.func (.func fY) [] [.ptr 0 0]),(4,.vec 6),(2,.ptr 4 0),(0,.nils),(1,.func (.func fY) [] [.ptr 0 0])],[(6,.arr true 1 9 []),(4,.cells [.nils]),(0,.cells [.map 1]),(1,.gen (.mapC ks cs) [])]⟩
def frAp:List Fr:=[.blk 0,.sc (.seq (.reg [so 12 (.load false 1) [xt 2],so 4 .mv [xt 12]]) .ret)]
def Zu2 (ks cs:List D):Ob:=recd Tryz.prog .ready none 13 #[7] (QK.rngA 0) (QK.rngB 0) (stAp ks cs).tm
def bkAp (ks cs:List D) (ob':Obs):St:=⟨(stAp ks cs).tm,Z8 7 (St.back ⟨(stAp ks cs).tm,(7,Zu2 ks cs)::(stAp ks cs).ob⟩ 8 [0,7,1,6,4] ob').ob⟩
theorem ZnQ (ks cs:List D):gH (ctr libT) 2 false Zcq frAp (bkAp ks cs (obPN (Ob.gen (Gen.mapC ks cs) [])))=(Rt D.nils [(0,oC [D.map 1]),(1,Ob.gen (Gen.mapC ks cs) [])]:Tr):=by kernel_rfl
theorem ZnR (ks cs:List D) (o:LD):gH (ctr libT) 2 false Zcq frAp (bkAp ks cs (obPA (Ob.gen (Gen.mapC ks cs) []) 5 o))=(Rt (dV 2) [(0,oC [D.map 1]),(1,Ob.gen (Gen.mapC ks cs) []),(2,oR false 1 9 o)]:Tr):=by kernel_rfl
def obC (ks cs:List D):Obs:=[(0,.cells [.map 1]),(1,.gen (.mapC ks cs) [])]
def obCA (ks cs:List D) (o:LD):Obs:=[(0,.cells [.map 1]),(1,.gen (.mapC ks cs) []),(2,.arr false 1 9 o)]
theorem ZtI (ks cs:List D):gC (ctr libT) 2 rs71 sc71 [] [dF fY [] [dP 0 0]] [] (obC ks cs)=(Jm (frg sc71 0) {tm:=[(0,dF 73 [] [dP 0 0])],ob:=[(0,oC [D.map 1]),(1,Ob.gen (Gen.mapC ks cs) [])]}:Tr):=by kernel_rfl
def stC (ks cs:List D):St:=⟨[(3,.func (.func fY) [] [.ptr 0 0]),(0,.func (.func fY) [] [.ptr 0 0])],obC ks cs⟩
theorem ZtG (ks cs:List D):gH (ctr libT) 2 false rs71 [Fr.sc SC.ret] (St.put (St.put (St.back (stC ks cs) 4098 [0,1] (obC ks cs)) (some 4) D.nils) (some 2) D.nils)=(Rt D.nils [(0,oC [D.map 1]),(1,Ob.gen (Gen.mapC ks cs) [])]:Tr):=by kernel_rfl
theorem ZtH (ks cs:List D) (o:LD):gH (ctr libT) 2 false rs71 [Fr.sc SC.ret] (St.put (St.put (St.back (stC ks cs) 4098 [0,1] (obCA ks cs o)) (some 4) (dV 4100)) (some 2) (dV 4100))=(Rt (dV 2) [(0,oC [D.map 1]),(1,Ob.gen (Gen.mapC ks cs) []),(2,oR false 1 9 o)]:Tr):=by kernel_rfl
theorem Ztq (ks cs:List D):gC (ctr libT) 2 rs44 sc44 [] [dF fY [] [dP 0 0]] [] (obC ks cs)=(Jm (frg sc44 0) {tm:=[(0,dF 73 [] [dP 0 0])],ob:=[(0,oC [D.map 1]),(1,Ob.gen (Gen.mapC ks cs) [])]}:Tr):=by kernel_rfl
def stS (ks cs:List D):St:=⟨[(4,.func (.func fY) [] [.ptr 0 0]),(0,.func (.func fY) [] [.ptr 0 0])],obC ks cs⟩
def frS:List Fr:=[.sc (.seq (.spec (.frg [3])) (.seq (.reg [so 6 .mv [xt 3],.cd (some 7) none (xc (.func (.func 72) [] [])) [xt 6]]) (.seq (.spec (.frg [3])) (.seq (.reg [so 8 .mv [xt 3],so 2 .mv [xt 8]]) .ret))))]
theorem Zti (ks cs:List D):gH (ctr libT) 2 false rs44 frS (St.put (St.put (St.back (stS ks cs) 4098 [0,1] (obC ks cs)) (some 5) D.nils) (some 3) D.nils)=(Jm (frg sc44 1) {tm:=[(3,D.nils)],ob:=[(0,oC [D.map 1]),(1,Ob.gen (Gen.mapC ks cs) [])]}:Tr):=by kernel_rfl
theorem Ztj (ks cs:List D) (o:LD):gH (ctr libT) 2 false rs44 frS (St.put (St.put (St.back (stS ks cs) 4098 [0,1] (obCA ks cs o)) (some 5) (dV 4100)) (some 3) (dV 4100))=(Jm (frg sc44 1) {tm:=[(3,dV 2)],ob:=[(0,oC [D.map 1]),(1,Ob.gen (Gen.mapC ks cs) []),(2,oR false 1 9 o)]}:Tr):=by kernel_rfl
theorem Zny (ks cs:List D):gH (ctr libT (asmO (D.tuple []) [])) 2 false rs44 (frg sc44 1) {tm:=[(3,D.nils)],ob:=obC ks cs}=(Ow (CQ 72 [dL [] []] [] (D.tuple []) []) (Jm (frg sc44 2) {tm:=[(3,D.nils)],ob:=[(0,oC [D.map 1]),(1,Ob.gen (Gen.mapC ks cs) [])]}):Tr):=by kernel_rfl
theorem ZnA (ks cs:List D) (o o2:LD):let A:=[(0,oR false 1 9 o2)];let B:=D.tuple [];gH (ctr libT (asmO B A)) 2 false rs44 (frg sc44 1) {tm:=[(3,dV 2)],ob:=obCA ks cs o}=(Ow (CQ 72 [dV 0] [(0,oR false 1 9 o)] B A) (Jm (frg sc44 2) {tm:=[(3,dV 2)],ob:=[(0,oC [D.map 1]),(1,Ob.gen (Gen.mapC ks cs) []),(2,oR false 1 9 o2)]}):Tr):=by intro A B;kernel_rfl
theorem Znx (ks cs:List D):gH (ctr libT) 2 false rs44 (frg sc44 2) {tm:=[(3,D.nils)],ob:=obC ks cs}=(Rt D.nils [(0,oC [D.map 1]),(1,Ob.gen (Gen.mapC ks cs) [])]:Tr):=by kernel_rfl
theorem Znz (ks cs:List D) (o:LD):gH (ctr libT) 2 false rs44 (frg sc44 2) {tm:=[(3,dV 2)],ob:=obCA ks cs o}=(Rt (dV 2) [(0,oC [D.map 1]),(1,Ob.gen (Gen.mapC ks cs) []),(2,oR false 1 9 o)]:Tr):=by kernel_rfl
end Go.Proofs.YtaclfbhhekhflaaGreatDoor.S
