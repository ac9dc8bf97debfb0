/- Own work: a layer over the kit: plain data,a walk over it,its soundness. -/
import Derived.Test.YtaclfbhhekhflaaGreatDoorMtC
import Derived.Test.YtaclfbhhekhflaaGreatDoorArOp
import Derived.Test.YtaclfbhhekhflaaGreatDoorShape
import Derived.Test.YtaclfbhhekhflaaGreatDoorArA
import Derived.Test.YtaclfbhhekhflaaGreatDoorSx8
set_option linter.all false
set_option maxRecDepth 100000
/- Bindings: binding a name. -/
noncomputable section
namespace Go.Proofs.YtaclfbhhekhflaaGreatDoor
open Go.Sx
abbrev zB:List D:=[.str [],.int .u8 0,.int .i64 0,.str [],.slice [] []]
abbrev nRow (es:LD):Obs:=[(0,.cells [.vec 1]),(1,.arr false 5 108 es)]
theorem ZgW (l:List Bd) (i:Nat):bdL (l.take i)=(bdL l).take i:=by simp[bdL,List.map_take]
theorem ZgX (l:List Bd) (i:Nat):bdL (l.drop i)=(bdL l).drop i:=by simp[bdL,List.map_drop]
theorem Z8y (l m:List Bd):bdL (l++m)=bdL l++bdL m:=by simp[bdL]
theorem Zu4 (l:List Bd) (hl:l.length<=1000000) (hf: ∀ x∈l,x.v.few 1000): ∀ (m i:Nat),l.length-i=m->i<=l.length →
  At Tryz.prog 1 (cut sc35 0) (hdR0 (bdL l) (bdL (l.take i)) l.length i) (FinQ false 1 rs35 λr ob=>r=.vec 1/\ob=obT (bdL l)++[(1,.arr true 5 108 (bdL l))]):=by
 intro m;induction m with
 |zero =>
  intro i hm hi;refine At.tree Zf (ZeH (bdL l) (bdL (l.take i)) l.length i [] 0 0 [] []) ?_;rw[List.take_of_length_le (show l.length<=i by omega)];simp only[SS];exact⟨λh=>by omega,λ_=>by first|rfl|exact⟨rfl,rfl⟩|trivial⟩
 |succ m d =>
  intro i hm hi;have h1:i<l.length:=by omega
  have hx:=Z1f h1;have hc:=Z3O l[i].v (hf _ (List.getElem_mem h1));have b:=d (i+1) (by omega) (by omega);have c:bdL (l.take (i+1))=bdL (l.take i)++[l[i].c]:=by
   rw[List.take_add_one,List.getElem?_eq_getElem h1,Z8y];rfl
  rw[c] at b;generalize l[i]=x at hx hc b;obtain⟨e,⟨k,n,s,a⟩⟩:=x;refine At.tree Zf (ZeH (bdL l) (bdL (l.take i)) l.length i e k n s (Tm.cellsL a)) ?_;simp only[SS,Z1e,List.length_take];exact⟨λ_=>⟨⟨by omega,hx⟩,hc,⟨by simp[Ze],by omega⟩,by omega,b⟩,λh=>by omega⟩
theorem Zkw (l:List Bd) (hl:l.length<=1000000) (hf: ∀ x∈l,x.v.few 1000):CF 35 [.ptr 0 0] (obT (bdL l)) λr ob=>r=.slice (bdL l) []/\ob=obT (bdL l):=by
 refine CallL.vecR (ob0:=obT (bdL l)) (k:=1) (sz:=5) (e:=108) rfl ?_;refine CallL.tree Z3 fp35 Zf (ZsJ (bdL l)) ?_;rw[Z6,Z1e];exact Zu4 l hl hf _ 0 rfl (Nat.zero_le _)
theorem Zu3 (l:List Bd) (hl:l.length<=1000001) (hf: ∀ x∈l,x.v.few 1000): ∀ (m i:Nat),l.length-i=m->i<=l.length →
  At Tryz.prog 2 (cut sc35 0) (hdR1 (bdL l) (bdL (l.take i)) l.length i) (FinQ false 2 rs35 λr ob=>r=.vec 2/\ob=nRow (bdL l)++[(2,.arr true 5 108 (bdL l))]):=by
 intro m;induction m with
 |zero =>
  intro i hm hi;refine At.tree Zf (ZeG (bdL l) (bdL (l.take i)) l.length i [] 0 0 [] []) ?_;rw[List.take_of_length_le (show l.length<=i by omega)];simp only[SS];exact⟨λh=>by omega,λ_=>by first|rfl|exact⟨rfl,rfl⟩|trivial⟩
 |succ m d =>
  intro i hm hi;have h1:i<l.length:=by omega
  have hx:=Z1f h1;have hc:=Z3O l[i].v (hf _ (List.getElem_mem h1));have b:=d (i+1) (by omega) (by omega);have c:bdL (l.take (i+1))=bdL (l.take i)++[l[i].c]:=by
   rw[List.take_add_one,List.getElem?_eq_getElem h1,Z8y];rfl
  rw[c] at b;generalize l[i]=x at hx hc b;obtain⟨e,⟨k,n,s,a⟩⟩:=x;refine At.tree Zf (ZeG (bdL l) (bdL (l.take i)) l.length i e k n s (Tm.cellsL a)) ?_;simp only[SS,Z1e,List.length_take];exact⟨λ_=>⟨by omega,hx,hc,⟨by simp[Ze],by omega⟩,by omega,b⟩,λh=>by omega⟩
theorem Zkv (l:List Bd) (hl:l.length<=1000001) (hf: ∀ x∈l,x.v.few 1000):CF 35 [.ptr 0 0] (nRow (bdL l)) λr ob=>r=.slice (bdL l) []/\ob=nRow (bdL l):=by
 refine CallL.vecR (ob0:=nRow (bdL l)) (k:=2) (sz:=5) (e:=108) rfl ?_;refine CallL.tree Z3 fp35 Zf (ZsI (bdL l)) ?_;rw[Z6,Z1e];exact Zu3 l hl hf _ 0 rfl (Nat.zero_le _)
theorem Zo3 (l:List Bd) (t:LU) (v w:Tm) (hl:l.length<=1000000) (hs:srtB l) (p: ∀ x∈l,x.v.wf 281474976710656) (hv:v.wf 281474976710656) (m:getB l t=some w):CF 34 [.ptr 0 0,.str t,.agg v.cells] (obT (bdL l)) λr ob=>r=.bool (w.eqb v)/\ob=obT (bdL l):=by
 have c:=Z8g l t hl hs;unfold fndD at c;have b:=Z3m (s:=t) hs;have d:posB l t<l.length:=Nat.lt_of_not_le λh=>by
  rw[List.getElem?_eq_none h,m] at b;cases b
 have hx:=Z1f d;rw[List.getElem?_eq_getElem d,m] at b;simp only at b;have o:=Zgx l[posB l t].v v (p _ (List.getElem_mem d)) hv;by_cases e:l[posB l t].n=t
 ·rw[if_pos e] at b;have b:w=l[posB l t].v:=Option.some.inj b;rw[<- b] at o;rw[m] at c;have hx:(bdL l)[posB l t]? = some (Bd.c ⟨l[posB l t].n,w⟩):=by rw[hx,b]
  generalize l[posB l t].n=nm at hx;obtain⟨k,n,s,a⟩:=w;obtain⟨g,i,j,f⟩:=v;refine CallL.tree Z3 fp34 Zf (Zi9 (bdL l) t g i j (Tm.cellsL f)) ?_;rw[Z6];refine At.tree Zf (Zib (bdL l) t g i j (Tm.cellsL f) (posB l t) true) ?_;refine⟨c,?_⟩;rw[Z6];refine At.tree Zf (Zia (bdL l) t g i j (Tm.cellsL f) (posB l t) true (Tm.eqb (.mk k n s a) (.mk g i j f)) nm k n s (Tm.cellsL a)) ?_;exact⟨⟨by omega,by rw[Int.toNat_natCast];exact hx⟩,o,rfl,rfl⟩
 ·rw[if_neg e] at b;cases b
theorem ZlD {es:LD} {c z:List D} {i:Nat} (hi:i<=es.length):cpyL ((cpyL (List.replicate (es.length+1) z) 0 (es.take i)).set i c) (i+1) (es.drop i)=es.take i++c::es.drop i:=by
 have d:cpyL (List.replicate (es.length+1) z) 0 (es.take i)=es.take i++z::List.replicate (es.length-i) z:=by
  have h1:(es.take i).take (es.length+1)=es.take i:=List.take_of_length_le (by rw[List.length_take];omega);have h2:es.length+1-i=(es.length-i)+1:=by omega
  unfold cpyL;rw[List.length_replicate,Nat.sub_zero,h1,List.length_take,Nat.min_eq_left hi,List.drop_replicate,Nat.zero_add,h2];rfl
 have a:(es.take i).length=i:=by rw[List.length_take];omega
 rw[d];have e:(es.take i++z::List.replicate (es.length-i) z).set i c=es.take i++c::List.replicate (es.length-i) z:=by
  rw[List.set_append_right _ _ (by omega),a,Nat.sub_self];rfl
 rw[e];unfold cpyL;have f:(es.take i++c::List.replicate (es.length-i) z).take (i+1)=es.take i++[c]:=by
  rw[List.take_append,a,List.take_of_length_le (show (es.take i).length<=i+1 by omega)];have:i+1-i=1:=by omega
  rw[this];rfl
 have b:(es.take i++c::List.replicate (es.length-i) z).length=es.length+1:=by
  rw[List.length_append,a,List.length_cons,List.length_replicate];omega
 have g:(es.drop i).take (es.length+1-(i+1))=es.drop i:=List.take_of_length_le (by rw[List.length_drop];omega);have h:(es.take i++c::List.replicate (es.length-i) z).drop (i+1+(es.drop i).length)=[]:=List.drop_eq_nil_of_le (by rw[b,List.length_drop];omega);rw[f,b,g,h];simp
theorem Zeh (l:List Bd): ∀ q∈bdL l,q.length=5:=λq a=>by
 obtain⟨x,_,rfl⟩:=List.mem_map.1 a;exact ZlR x
theorem Zbo (l:List Bd):Ze 5 (bdL l++[]):=by
 rw[List.append_nil];intro q a;exact Zeh l q a
theorem Zn9 (es:LD) (t:LU) (b c:Int) (d:LU) (a:LD) (i:Int):MB2 es t b c d a i=.owe ((-9223372036854775808:Int)<=(es.length:Int)+1/\(es.length:Int)+1<=9223372036854775807) (.owe ((0:Int)<=(es.length:Int)+1/\((es.length:Int)+1)*72<=281474976710656/\(es.length:Int)+1<=1073741824) (.jmp (frg sc34 3) ⟨[(0,.ptr 0 0),(1,.str t),(5,.ptr 1 0),(7,.int .i64 i),(9,.vec 2)],[(0,.cells [.slice es []]),(1,.cells (tC b c d a)),(2,.arr false 5 108 (List.replicate (es.length+1) zB))]⟩)):=by kernel_rfl
theorem Zo2 (l:List Bd) (t:LU) (v:Tm) (hl:l.length<=1000000) (hs:srtB l) (u:getB l t=none):CF 34 [.ptr 0 0,.str t,.agg v.cells] (obT (bdL l)) λr ob=>r=.bool true/\ob=nRow (bdL (Z1J l t v)):=by
 have f:=Z8g l t hl hs;unfold fndD at f;rw[u] at f;have hp:=Zcy l t;generalize hi:posB l t=i at f hp;have hr:bdL (Z1J l t v)=(bdL l).take i++Bd.c ⟨t,v⟩::(bdL l).drop i:=by
  unfold Z1J;rw[hi,Z8y,ZgW];show _++Bd.c ⟨t,v⟩::bdL (l.drop i)=_;rw[ZgX]
 rw[hr,<- ZlD (z:=zB) (by rw[Z1e];exact hp)];have hL:=Z1e l;have n:=Zeh l;have e:=Zbo l;generalize bdL l=es at f hL n e;obtain⟨b,c,d,a⟩:=v;refine CallL.tree Z3 fp34 Zf (Zi9 es t b c d (Tm.cellsL a)) ?_;rw[Z6];refine At.tree Zf (Zib es t b c d (Tm.cellsL a) i false) ?_;refine⟨f,?_⟩;rw[Z6];refine At.tree Zf (Zia es t b c d (Tm.cellsL a) i false false [] 0 0 [] []) ?_;have h2: ∀ row:LD,row.length=es.length+1->At Tryz.prog 1 (frg sc34 4) ⟨[(0,.ptr 0 0),(1,.str t),(5,.ptr 1 0),(7,.int .i64 i),(9,.vec 2)],[(0,.cells [.slice es []]),(1,.cells (tC b c d (Tm.cellsL a))),(2,.arr false 5 108 row)]⟩ (FinQ false 1 rs34 λr ob=>r=.bool true/\ob=nRow (cpyL (row.set i (Bd.c ⟨t,.mk b c d a⟩)) (i+1) (es.drop i))):=λrow g=>by
  refine At.tree Zf (ZsS es t b c d (Tm.cellsL a) row i) ?_;refine⟨⟨by omega,by omega⟩,by rw[Int.toNat_natCast];omega,?_⟩;rw[Z6];have m:(row.set i (Bd.c ⟨t,.mk b c d a⟩)).length=es.length+1:=by rw[List.length_set];exact g
  show At Tryz.prog 1 (frg sc34 5) ⟨[(0,.ptr 0 0),(7,.int .i64 i),(9,.vec 1)],[(0,.cells [.slice es []]),(1,.arr false 5 108 (row.set i (Bd.c ⟨t,.mk b c d a⟩)))]⟩ _;generalize row.set i (Bd.c ⟨t,.mk b c d a⟩)=j at m ⊢;refine At.tree Zf (ZsR es j (es.drop i) [] i) ?_;have p:((i:Int)+1).toNat=i+1:=by omega
  rw[List.append_nil,Int.toNat_natCast,Int.toNat_natCast,List.take_length,List.drop_length,p];rw[List.append_nil] at e;refine⟨by omega,⟨λh=>by rw[h] at m;simp at m,by omega,by omega⟩,⟨e,by omega,by omega,by omega⟩,⟨rfl,rfl⟩,Z2v.2 λq o=>n q (List.mem_of_mem_drop o),?_⟩;rw[Z6];generalize cpyL j (i+1) (es.drop i)=k;refine At.tree Zf (ZsQ es k) ?_;rw[Z6];refine At.tree Zf (ZsP k) ?_;exact⟨rfl,rfl⟩
 have h1: ∀ row:LD,row.length=es.length+1->At Tryz.prog 1 (frg sc34 3) ⟨[(0,.ptr 0 0),(1,.str t),(5,.ptr 1 0),(7,.int .i64 i),(9,.vec 2)],[(0,.cells [.slice es []]),(1,.cells (tC b c d (Tm.cellsL a))),(2,.arr false 5 108 row)]⟩ (FinQ false 1 rs34 λr ob=>r=.bool true/\ob=nRow (cpyL ((cpyL row 0 (es.take i)).set i (Bd.c ⟨t,.mk b c d a⟩)) (i+1) (es.drop i))):=λrow g=>by
  refine At.tree Zf (ZsT es t b c d (Tm.cellsL a) row (es.take i) (es.drop i) i) ?_;rw[List.append_nil,Int.toNat_natCast];rw[List.append_nil] at e;refine⟨⟨e,by omega,by omega,by omega⟩,⟨rfl,rfl⟩,Z2v.2 λq o=>n q (List.mem_of_mem_take o),?_⟩;rw[Z6];exact h2 _ (by rw[Z9Y _ _ _ (Nat.zero_le _)];exact g)
 refine At.tree Zf (ZsU es t b c d (Tm.cellsL a) i) ?_;rw[Zn9];refine⟨by omega,by omega,?_⟩;rw[Z6];exact h1 (List.replicate (es.length+1) zB) (List.length_replicate ..)
def bndD:Option (List Bd)->D
 |some c=>.tuple [.slice (bdL c) [],.bool true]
 |none=>.tuple [.slice [] [],.bool false]
theorem Z9y (b:List Bd) (hl:b.length<=1000000) (y: ∀ x∈b,x.wf 281474976710656) (z: ∀ x∈b,x.v.depth<=1000000000) (hf: ∀ x∈b,x.v.few 1000) (t:LU) (A:t.length<=281474976710656) (v:Tm) (hv:v.wf 281474976710656) (p:v.depth<=1000000000) (r:v.few 1000):FK 12 [.slice (bdL b) [],.str t,.agg v.cells] (bndD (QV b t v)):=by
 have h1:=ZcS b hl y z;have h2:=Z0D t (by omega);have a:=Z8R v hv p;have o:(v.all Tm.plain && v.valid)=v.value:=rfl;rw[o] at a;unfold QV;by_cases f:ZP b=true
 ·have hs:=(Q8.1 f).1;cases u:getB b t with
  |some w =>
   dsimp only;have d:=Zo3 b t v w hl hs (λx hx=>(y x hx).2) hv u;have n:=Zkw b hl hf;rw[f] at h1 ⊢;generalize Lx.Zk t=k at h2 ⊢;generalize v.value=m at a ⊢;generalize w.eqb v=e at d ⊢;obtain⟨h,i,j,g⟩:=v;refine FnOK.tree Z3 fp12 (Z9 (Z8x _ _ _)) (ZeK (bdL b) t h i j (Tm.cellsL g) true k m e (bdL b)) ?_;cases k
   ·exact⟨h1,h2,rfl⟩
   ·cases m
    ·exact⟨h1,h2,a,rfl⟩
    ·cases e
     ·exact⟨h1,h2,a,d,rfl⟩
     ·exact⟨h1,h2,a,d,n,rfl⟩
  |none =>
   have d:=Zo2 b t v hl hs u;have n:=Zkv (Z1J b t v) (by rw[Z9M];omega) λx hx=>by
    rcases Z1y.1 hx with rfl|hx
    ·exact r
    ·exact hf x hx
   rw[f] at h1 ⊢;generalize Lx.Zk t=k at h2 ⊢;generalize v.value=m at a ⊢;generalize Z1J b t v=c at d n ⊢;obtain⟨h,i,j,g⟩:=v;refine FnOK.tree Z3 fp12 (Z9 (Z8x _ _ _)) (Zn8 (bdL b) t h i j (Tm.cellsL g) true k m (bdL c) (bdL c)) ?_;cases k
   ·exact⟨h1,h2,rfl⟩
   ·cases m
    ·exact⟨h1,h2,a,rfl⟩
    ·exact⟨h1,h2,a,d,n,rfl⟩
 ·have f:=Bool.eq_false_iff.2 f;rw[f] at h1 ⊢;obtain⟨h,i,j,g⟩:=v;refine FnOK.tree Z3 fp12 (Z9 (Z8x _ _ _)) (ZeK (bdL b) t h i j (Tm.cellsL g) false false false false []) ?_;exact⟨h1,rfl⟩
end Go.Proofs.YtaclfbhhekhflaaGreatDoor
/- arith.integers,arith.operation. -/
namespace Go.Proofs.YtaclfbhhekhflaaGreatDoor
open Go.Sx
theorem ZmG (es ext:LD):gP (ctr libT) rs94 sc94 [dL es ext]=(Jm (cut sc94 0) {tm:=[(2,dV 0),(5,dL es ext),(6,dI (↑(List.length es):Int)),(7,dI 0)],ob:=[(0,oR true 1 3 [])]}:Tr):=by kernel_rfl
def Zqu (es ext:LD) (row:LD) (m i:Int):St:=⟨[(2,.vec 0),(5,.slice es ext),(6,.int .i64 m),(7,.int .i64 i)],[(0,.arr true 1 3 row)]⟩
theorem Zak (es ext row:LD) (m:Int) (i:Nat) (k n:Int) (s:LU) (a:LD):let A:=[(2,dV 0),(5,dL es ext),(6,dI m),(7,dI ((↑i:Int)+(1:Int)))];let B:=[dU k,dI n,dS s,dL a []];let C:=cut sc94 0;let E:=((↑i:Int)+(1:Int));gH (ctr libT Qr (eOne B)) 0 true rs94 C (Zqu es ext row m (↑i:Int))=(brT (decide ((↑i:Int)<m)) (Ow ((0:Int)<=(↑i:Int)/\es[Int.toNat (↑i:Int)]? = some B) (brT (decide (k=(1:Int))) (Ow (Ze 1 [[dI n]]/\List.length row+1<=1073741824) (I8 E (Jm C {tm:=A,ob:=[(0,oR true 1 3 (row++[[dI n]]))]}))) (I8 E (Jm C {tm:=A,ob:=[(0,oR true 1 3 row)]})))) (Rt (D.own 1 3 row) []):Tr):=by intro A B C E;kernel_rfl
theorem Zms (s:LU) (es ext:LD):gP (ctr libT) rs95 sc95 [dS s,dL es ext]=(Jm (frg sc95 0) {tm:=[(1,dL es ext),(2,dP 0 0)],ob:=[(0,oC [dS s])]}:Tr):=by kernel_rfl
theorem Zmy (s:LU) (es ext:LD):gH (ctr libT) 0 true rs95 (frg sc95 0) {tm:=[(1,dL es ext),(2,dP 0 0)],ob:=[(0,oC [dS s])]}=(Jm (frg sc95 1) {tm:=[(1,dL es ext),(2,dP 0 0),(5,dV 1)],ob:=[(0,oC [dS s]),(1,oR true 1 29 [])]}:Tr):=by kernel_rfl
theorem Zmx (s:LU) (es ext:LD):let A:=[(0,oC [dS s]),(1,oR true 1 29 [])];gH (ctr libT) 0 true rs95 (frg sc95 1) {tm:=[(1,dL es ext),(2,dP 0 0),(5,dV 1)],ob:=A}=(Jm (cut sc95 0) {tm:=[(2,dP 0 0),(5,dV 1),(14,dL es ext),(15,dI (↑(List.length es):Int)),(16,dI 0)],ob:=A}:Tr):=by intro A;kernel_rfl
def hdOp (s:LU) (es ext row:LD) (m i:Int):St:=⟨[(2,.ptr 0 0),(5,.vec 1),(14,.slice es ext),(15,.int .i64 m),(16,.int .i64 i)],[(0,.cells [.str s]),(1,.arr true 1 29 row)]⟩
theorem Zev (s:LU) (es ext row xs:LD) (m:Int) (i:Nat) (q:LD):let A:=[dL xs []];let B:=((↑i:Int)+(1:Int));let C:=D.own 1 3 q;let E:=(0,oC [dS s]);let F:=cut sc95 0;let G:=[[dL q []]];gH (ctr (asmP C) Qr (eOne A)) 0 true rs95 F (hdOp s es ext row m (↑i:Int))=(brT (decide ((↑i:Int)<m)) (Ow ((0:Int)<=(↑i:Int)/\es[Int.toNat (↑i:Int)]? = some A) (Ow (FK 94 A C) (Ow (Ze 1 G/\List.length row+1<=1073741824) (I8 B (Jm F {tm:=[(2,dP 0 0),(5,dV 1),(14,dL es ext),(15,dI m),(16,dI B)],ob:=[E,(1,oR true 1 29 (row++G))]}))))) (Jm (frg sc95 2) {tm:=[(2,dP 0 0),(5,dV 1)],ob:=[E,(1,oR true 1 29 row)]}):Tr):=by intro A B C E F G;kernel_rfl
theorem Zmw (s:LU) (row:LD):let A:=(1,oR true 1 29 row);let B:=(0,oC [dS s]);gH (ctr libT) 0 true rs95 (frg sc95 2) {tm:=[(2,dP 0 0),(5,dV 1)],ob:=[B,A]}=(Jm (frg sc95 3) {tm:=[(2,dP 0 0),(5,dV 1),(8,dP 2 0)],ob:=[B,A,(2,oC [D.map 3]),(3,Ob.gen (Gen.mapC [] []) [])]}:Tr):=by intro A B;kernel_rfl
theorem Zmp (s:LU) (row:LD) (ks vs:List D):let A:=SC.block 3 (SC.seq (SC.reg [so 31 (AOp.load false 1) [xt 2],so 32 AOp.mv [xt 9],SOp.cd (some 33) none (xc (dF 135 [] [])) [xt 31,xt 32],so 30 AOp.mv [xt 33],so 34 (AOp.extract 0) [xt 30],so 35 (AOp.extract 1) [xt 30],so 10 AOp.mv [xt 34],so 11 AOp.mv [xt 35]]) (SC.seq (SC.reg [so 36 AOp.mv [xt 11]]) (SC.cond (xt 36) (SC.seq (SC.reg [so 37 (AOp.load false 1) [xt 8],so 38 AOp.mv [xt 10],so 39 AOp.mv [xt 10],SOp.st none (SK.k (some IntKind.i64) (xt 38)) (xt 37) (xt 39)]) (SC.reg [so 40 (AOp.load false 1) [xt 8],so 41 (AOp.ext Ext.lenm) [xt 40],so 42 (AOp.call 132) [xt 41]])) SC.skip)));let B:=[dF 176 [] [dP 0 0],dV 2,dP 3 0,dV 2,dP 4 0];let C:=SC.reg [so 9 AOp.mv [xt 29]];let E:=(2,oR true 1 29 row);let F:=(0,oC [dL row []]);let G:=Gen.mapC [] [];let H:=(4,oC [D.map 5]);let I:=Gen.mapC ks vs;let J:=(3,oC [dS s]);gH (ctr libT (QT.or ZfO (asmA (D.tuple []) (updO [] ks vs)))) 0 true rs95 (frg sc95 3) {tm:=[(2,dP 0 0),(5,dV 1),(8,dP 2 0)],ob:=[(0,oC [dS s]),(1,oR true 1 29 row),(2,oC [D.map 3]),(3,Ob.gen G [])]}=(Ow True (Ow (CallL Tryz.prog (dF 176 [] [dP 0 0]) [D.yld 1] [F,(1,Ob.gen (Gen.loop LoopState.ready none #[29] C A 56 [28,27,2,5,8]) B),E,J,H,(5,Ob.gen G [])] λr0 ob0=>r0=D.tuple []/\ob0=[F,(1,Ob.gen (Gen.loop LoopState.ready none #[29] C A 56 [28,27,2,5,8]) B),E,J,H,(5,Ob.gen I [])]) (Jm (frg sc95 4) {tm:=[(8,dP 0 0)],ob:=[(0,oC [D.map 1]),(1,Ob.gen I [])]})):Tr):=by intro A B C E F G H I J;kernel_rfl
theorem Zmv (ks vs:List D):gH (ctr libT) 0 true rs95 (frg sc95 4) {tm:=[(8,dP 0 0)],ob:=[(0,oC [D.map 1]),(1,Ob.gen (Gen.mapC ks vs) [])]}=(Jm (frg sc95 5) {tm:=[(8,dP 0 0),(12,dV 1)],ob:=[(0,oC [D.map 2]),(1,oR false 4 25 []),(2,Ob.gen (Gen.mapC ks vs) [])]}:Tr):=by kernel_rfl
theorem Zmu (ks vs:List D):let A:=[(0,oC [D.map 2]),(1,oR false 4 25 []),(2,Ob.gen (Gen.mapC ks vs) [])];let B:=[(8,dP 0 0),(12,dV 1)];gH (ctr libT) 0 true rs95 (frg sc95 5) {tm:=B,ob:=A}=(Jm (spc sc95 6) {tm:=B,ob:=A}:Tr):=by intro A B;kernel_rfl
theorem Zmt (ks vs:List D) (l:List Nat) (cl:Nat):let A:=(2,Ob.gen (Gen.mapB ks vs l cl) []);let B:=Gen.iter l [] cl;let C:=[D.map 2];gH (ctr libT) 0 true rs95 (aft sc95 6) {tm:=[(44,dP 47 0),(43,D.map 2),(8,dP 0 0),(12,dV 1)],ob:=[(47,Ob.gen B C),A,(0,oC C),(1,oR false 4 25 [])]}=(Jm (cut sc95 1) {tm:=[(12,dV 0),(44,dP 1 0)],ob:=[(0,oR false 4 25 []),(1,Ob.gen B C),A]}:Tr):=by intro A B C;kernel_rfl
theorem Zeu (ks vs:List D) (l ix:List Nat) (cl:Nat) (out:LD):let A:=[(0,oR false 4 25 out),(1,Ob.gen (Gen.iter l ix cl) [D.map 2]),(2,Ob.gen (Gen.mapB ks vs l cl) [])];let B:=[(12,dV 0),(44,dP 1 0)];gH (ctr libT) 0 true rs95 (cut sc95 1) {tm:=B,ob:=A}=(Jm (spc sc95 7) {tm:=B,ob:=A}:Tr):=by intro A B;kernel_rfl
theorem Zmq (ks vs:List D) (l ix:List Nat) (cl:Nat) (out:LD):let A:=(0,oR false 4 25 out);gH (ctr libT) 0 true rs95 (aft sc95 7) {tm:=[(46,dB false),(45,D.undef),(12,dV 0),(44,dP 1 0)],ob:=[(2,Ob.gen (Gen.mapC ks vs) []),A,(1,Ob.gen (Gen.iter l ix cl) [D.map 2])]}=(Jm (frg sc95 6) {tm:=[(12,dV 0)],ob:=[A]}:Tr):=by intro A;kernel_rfl
theorem Zmo (ks vs:List D) (l ix:List Nat) (cl:Nat) (out:LD) (n:Int):let A:=[(1,Ob.gen (Gen.iter l ix cl) [D.map 2]),(0,oR false 4 25 out),(2,Ob.gen (Gen.mapB ks vs l cl) [])];let B:=[dU 1,dI n,dS [],dL [] []];let C:=[(46,dB true),(45,D.undef),(12,dV 0),(44,dP 1 0)];let E:=[dI n,dI n];gH (ctr (asmP (dA B)) Qr (eOne [D.tuple E])) 0 true rs95 (aft sc95 7) {tm:=C,ob:=A}=(Ow (extD Ext.entry [dP 1 0] (lk (St.ob {tm:=C,ob:=A}))=some (D.tuple E)) (Ow (FK 133 [dI n] (dA B)) (Ow (Ze 4 [B]/\List.length out+1<=1073741824) (Jm (cut sc95 1) {tm:=[(12,dV 0),(44,dP 1 0)],ob:=[(0,oR false 4 25 (out++[B])),(1,Ob.gen (Gen.iter l ix cl) [D.map 2]),(2,Ob.gen (Gen.mapB ks vs l cl) [])]}))):Tr):=by intro A B C E;kernel_rfl
theorem Zmr (out res:LD):let A:=[(0,oR false 4 25 out)];let B:=[(0,oR true 4 25 res)];gH (ctr libT (asmO (dV 0) B)) 0 true rs95 (frg sc95 6) {tm:=[(12,dV 0)],ob:=A}=(Ow (CQ 136 [dV 0] A (dV 0) B) (Rt (D.own 4 25 res) []):Tr):=by intro A B;kernel_rfl
theorem Zmz (n:Int):gP (ctr libT) Zke Zjn [dI n]=(Rt (dA [dU 1,dI n,dS [],dL [] []]) []:Tr):=by kernel_rfl
theorem ZhF (n:Int):FK 133 [.int .i64 n] (.agg [.int .u8 1,.int .i64 n,.str [],.slice [] []]):=by
 refine FnOK.tree Z3 Zr9 (Z2 Z1 Z0) (Zmz n) ?_;simp only[SS]
theorem Zqq (ext:LD) (l:List Tm) (hl:l.length<=1073741823): ∀ (m i:Nat) (row:List Int),l.length-i=m->i<=l.length->row.length<=i →
  At Tryz.prog 0 (cut sc94 0) (Zqu (Tm.cellsL l) ext (intC .i64 row) l.length i) (FinQ true 0 rs94 λr _=>r=.own 1 3 (intC .i64 (row++Zl (l.drop i)))):=by
 intro m;induction m with
 |zero =>
  intro i row hm hi hr;refine At.tree (Z2 Z1 Z0) (Zak (Tm.cellsL l) ext (intC .i64 row) l.length i 0 0 [] []) ?_;have e:l.drop i=[]:=List.drop_eq_nil_of_le (by omega);rw[e];simp only[SS,Zl,List.filterMap_nil,List.append_nil];exact⟨λh=>by omega,λ_=>trivial⟩
 |succ m b =>
  intro i row hm hi hr;have h1:i<l.length:=by omega
  have hx:(Tm.cellsL l)[i]? = some l[i].cells:=by rw[Zn];simp[h1]
  rw[Zc h1];generalize l[i]=x at hx;obtain⟨k,n,s,a⟩:=x;refine At.tree (Z2 Z1 Z0) (Zak (Tm.cellsL l) ext (intC .i64 row) l.length i k n s (Tm.cellsL a)) ?_;have al: ∀ n:Int,Ze 1 [[dI n]]:=λn=>by simp[Ze]
  simp only[SS,ZR];refine⟨λ_=>⟨⟨by omega,hx⟩,λhk=>⟨⟨al n,by omega⟩,by omega,?_⟩,λhk=>⟨by omega,?_⟩⟩,λh=>by omega⟩
  ·have:=b (i+1) (row++[n]) (by omega) (by omega) (by simp;omega);have e:Zl (Tm.mk k n s a::l.drop (i+1))=n::Zl (l.drop (i+1)):=by rw[Z4P,if_pos (by omega)]
   have c:intC .i64 (row++[n])=intC .i64 row++[[.int .i64 n]]:=by simp[intC]
   rw[e];rw[c,List.append_assoc] at this;exact this
  ·have:=b (i+1) row (by omega) (by omega) (by omega);have e:Zl (Tm.mk k n s a::l.drop (i+1))=Zl (l.drop (i+1)):=by rw[Z4P,if_neg (by omega)]
   rw[e];exact this
theorem Zdc (ext:LD) (l:List Tm) (hl:l.length<=1073741823):FK 94 [.slice (Tm.cellsL l) ext] (.own 1 3 (intC .i64 (Zl l))):=by
 refine FnOK.tree Z3 fp94 (Z2 Z1 Z0) (ZmG (Tm.cellsL l) ext) ?_;simp only[SS,Z5];exact Zqq ext l hl _ 0 [] rfl (Nat.zero_le _) (Nat.zero_le _)
def SetC (q res:List Int):Prop:=CF 136 [.vec 0] [(0,.arr false 4 25 (numC q))] λr ob=>r=.vec 0/\ob=[(0,.arr true 4 25 (numC res))]
theorem spc7:spc sc95 7=.sc (.spec (.nxt (xt 44) 45 46))::aft sc95 7:=rfl
theorem spc6:spc sc95 6=.sc (.spec (.rng [so 43 (.load false 1) [xt 8]] 44 (xt 43)))::aft sc95 6:=rfl
theorem Z1w (l:List Int):(numC l).length=l.length:=by simp[numC]
theorem Zqe (acc res:List Int) (hset: ∀ q:List Int,q.Perm acc->SetC q res) (hacc:acc.length<=1000) (l:List Nat) (hl:l.length=acc.length) (cl:Nat): ∀ (m:Nat) (ix:List Nat),ix.Nodup->(∀ i∈ix,i<acc.length)->acc.length-ix.length=m →
  swF Tryz.prog (6001+4001*m) 0 (cut sc95 1) ⟨[(12,.vec 0),(44,.ptr 1 0)],[(0,.arr false 4 25 (numC (ix.map λi=>acc.getD i 0))),(1,.gen (.iter l ix cl) [.map 2]),(2,.gen (.mapB (intD acc) (intD acc) l cl) [])]⟩
   (FinQ true 0 rs95 λr _=>r=.own 4 25 (numC res)):=by
 intro m;induction m with
 |zero =>
  intro ix d c hm;have h:ix.length<=acc.length:=by
   have:=List.Nodup.length_le_of_subset d (l₂:=List.range acc.length) (λi hi=>List.mem_range.2 (c i hi));simpa using this
  refine swF.tree (n0:=4001) (n:=2000) (Z2 Z1 Z0) (Zeu (intD acc) (intD acc) l ix cl (numC (ix.map λi=>acc.getD i 0))) ?_;rw[Z6,spc7];refine Qs ⟨1,l,ix,cl,2,intD acc,intD acc,rfl,rfl,rfl,by decide,λf=>⟨rfl,?_⟩,λi hi o=>⟨rfl,?_⟩⟩
  ·refine swF.tree (n0:=2000) (n:=2000) (Z2 Z1 Z0) (Zmq (intD acc) (intD acc) l ix cl (numC (ix.map λi=>acc.getD i 0))) ?_;rw[Z6];refine swF.tree (n0:=0) (n:=2000) (Z2 Z1 (Zw _ _)) (Zmr (numC (ix.map λi=>acc.getD i 0)) (numC res)) ?_;simp only[SS];exact hset _ (Zcz d c λi hi=>f i (by omega))
  ·exact absurd (Z8e d c (by omega) i (by omega)) o
 |succ m v =>
  intro ix d c hm;rw[show 6001+4001*(m+1)=(4000+4001*(m+1)+1)+2000 by omega];refine swF.tree (n0:=4000+4001*(m+1)+1) (n:=2000) (Z2 Z1 Z0) (Zeu (intD acc) (intD acc) l ix cl (numC (ix.map λi=>acc.getD i 0))) ?_;rw[Z6,spc7];refine Qs ⟨1,l,ix,cl,2,intD acc,intD acc,rfl,rfl,rfl,by decide,λf=>⟨rfl,?_⟩,λi hi o=>⟨rfl,?_⟩⟩
  ·have hp:=Zcz d c λi hi=>f i (by omega)
   have:=hp.length_eq;simp only[List.length_map] at this;omega
  ·have k:i<acc.length:=by omega
   have t:=v (ix++[i]) (by rw[List.nodup_append];exact⟨d,by simp,λa ha b p e=>by simp at p;subst p;subst e;exact o ha⟩) (λj g=>by
    rcases List.mem_append.1 g with g|g
    ·exact c j g
    ·simp at g;omega) (by simp;omega)
   rw[show 4000+4001*(m+1)=(6001+4001*m)+2000 by omega];refine swF.tree (n0:=6001+4001*m) (n:=2000) (Z2 (Zm _) Z0) (Zmo (intD acc) (intD acc) l (ix++[i]) cl (numC (ix.map λi=>acc.getD i 0)) (acc.getD i 0)) ?_;have h:ix.length<=acc.length:=by
    have:=List.Nodup.length_le_of_subset d (l₂:=List.range acc.length) (λi hi=>List.mem_range.2 (c i hi));simpa using this
   have e:numC (ix.map λi=>acc.getD i 0)++[[dU 1,dI (acc.getD i 0),dS [],dL [] []]]=numC ((ix++[i]).map λi=>acc.getD i 0):=by simp[numC]
   have u:(intD acc)[i]? = some (.int .i64 (acc.getD i 0)):=by simp[intD,k]
   simp only[SS,Z1w,List.length_map];rw[e];refine⟨?_,ZhF _,⟨by simp[Ze],by omega⟩,t⟩;simp[extD,lk,u,kOK]
def Zg (L:List (List Tm)):LD:=L.map λl=>[.slice (Tm.cellsL l) []]
theorem ZX (L:List (List Tm)):(Zg L).length=L.length:=by simp[Zg]
theorem Z06 {L:List (List Tm)} {i:Nat} (h:i<L.length):(Zg L)[i]? = some [.slice (Tm.cellsL L[i]) []]:=by simp[Zg,h]
section
variable (s:LU) (L:List (List Tm)) (ext:LD) (acc res:List Int) (hL:L.length<=1073741823) (hl: ∀ l∈L,l.length<=1073741823) (hacc:(Zh (opB s) (L.map Zl) 0 (List.replicate L.length 0,[])).2=acc) (hz:acc.length<=1000) (hset: ∀ q:List Int,q.Perm acc->SetC q res)
abbrev QOp (res:List Int):Exit->St->Prop:=FinQ true 0 rs95 λr _=>r=.own 4 25 (numC res)
include hL hl hacc hz hset
theorem Zq8:At Tryz.prog 0 (frg sc95 2) ⟨[(2,.ptr 0 0),(5,.vec 1)],[(0,.cells [.str s]),(1,.arr true 1 29 (lisD (L.map Zl)))]⟩ (QOp res):=by
 refine At.tree (Z2 Z1 Z0) (Zmw s (lisD (L.map Zl))) ?_;rw[Z6];refine At.tree (Z2 Z1 (QT.or_ok Z9f (Za _ _))) (Zmp s (lisD (L.map Zl)) (intD acc) (intD acc)) ?_;have c: ∀ l∈L.map Zl,l.length<=1073741824:=by
  intro l h;obtain⟨b,h',rfl⟩:=List.mem_map.1 h
  have:=hl b h'
  have:=List.length_filterMap_le Tm.int? b;unfold Zl;omega
 have a:=ZjL s (L.map Zl) (by simp;omega) c (by rw[List.length_map,hacc];exact hz);rw[List.length_map,hacc] at a;simp only[SS];refine⟨a,?_⟩;refine At.tree (Z2 Z1 Z0) (Zmv (intD acc) (intD acc)) ?_;rw[Z6];refine At.tree (Z2 Z1 Z0) (Zmu (intD acc) (intD acc)) ?_;rw[Z6,spc6];refine⟨_,Qs (n:=6001+4001*acc.length+2000) ⟨2,intD acc,intD acc,rfl,rfl,rfl,(by show (2:Nat)≠47;decide),λl cl h1 h2 d=>⟨rfl,?_⟩⟩⟩;refine swF.tree (n0:=6001+4001*acc.length) (n:=2000) (Z2 Z1 Z0) (Zmt (intD acc) (intD acc) l cl) ?_;rw[Z6];exact Zqe acc res hset hz l (by rw[h1,Z5G]) cl _ [] List.nodup_nil (λi hi=>by simp at hi) rfl
theorem Zq2: ∀ (m i:Nat),L.length-i=m->i<=L.length →
  At Tryz.prog 0 (cut sc95 0) (hdOp s (Zg L) ext (lisD ((L.take i).map Zl)) L.length i) (QOp res):=by
 intro m;induction m with
 |zero =>
  intro i hm hi;refine At.tree (Z2 (Zm _) Z0) (Zev s (Zg L) ext (lisD ((L.take i).map Zl)) [] L.length i []) ?_;have e:L.take i=L:=List.take_of_length_le (by omega);rw[e];simp only[SS];exact⟨λh=>by omega,λ_=>Zq8 s L acc res hL hl hacc hz hset⟩
 |succ m a =>
  intro i hm hi;have h1:i<L.length:=by omega
  have e:lisD ((L.take i).map Zl)++[[.slice (intC .i64 (Zl L[i])) []]]=lisD ((L.take (i+1)).map Zl):=by
   rw[List.take_add_one,List.getElem?_eq_getElem h1];simp only[lisD,List.map_append,Option.toList_some,List.map_cons,List.map_nil]
  refine At.tree (Z2 (Zm _) Z0) (Zev s (Zg L) ext (lisD ((L.take i).map Zl)) (Tm.cellsL L[i]) L.length i (intC .i64 (Zl L[i]))) ?_;simp only[SS,Z0f,List.length_map,List.length_take];rw[e];refine⟨λ_=>⟨⟨by omega,Z06 h1⟩,Zdc [] L[i] (hl _ (List.getElem_mem h1)),⟨by simp[Ze],by omega⟩,by omega,a (i+1) (by omega) (by omega)⟩,λh=>by omega⟩
theorem Zuc:FK 95 [.str s,.slice (Zg L) ext] (.own 4 25 (numC res)):=by
 refine FnOK.tree Z3 fp95 (Z2 Z1 Z0) (Zms s (Zg L) ext) ?_;rw[Z6];refine At.tree (Z2 Z1 Z0) (Zmy s (Zg L) ext) ?_;rw[Z6];refine At.tree (Z2 Z1 Z0) (Zmx s (Zg L) ext) ?_;rw[Z6,ZX];exact Zq2 s L ext acc res hL hl hacc hz hset _ 0 rfl (Nat.zero_le _)
end
end Go.Proofs.YtaclfbhhekhflaaGreatDoor
/- The Match seat has no arith.spans. -/
namespace Go.Proofs.YtaclfbhhekhflaaGreatDoor
open Go.Sx
end Go.Proofs.YtaclfbhhekhflaaGreatDoor
/- arith.functions: its trees. -/
namespace Go.Proofs.YtaclfbhhekhflaaGreatDoor
open Go.Sx
theorem Zt0 (es ext:LD):gC (ctr libT) 0 Zk8 Zjh [] [dL es ext] [] []=(Rt (dF 186 [] [dP 0 0]) [(0,oC [dL es ext])]:Tr):=by kernel_rfl
theorem Zi6 (s:LU) (es ext:LD):gP (ctr libT) rs96 sc96 [dS s,dL es ext]=(Jm (frg sc96 0) {tm:=[(1,dL es ext),(2,dP 0 0),(4,dP 1 0)],ob:=[(0,oC [dS s]),(1,oC [D.nils])]}:Tr):=by kernel_rfl
theorem Zez (s:LU) (es ext:LD) (b:Bool):let A:=[(1,dL es ext),(2,dP 0 0),(4,dP 1 0)];let B:=[(0,oC [dS s]),(1,oC [D.nils])];gH (ctr libT (asmA (dB b) id)) 0 true rs96 (frg sc96 0) {tm:=A,ob:=B}=(Ow (CQ 137 [dL es ext,dF 138 [] []] [] (dB b) []) (brT b (Rt (dL [] []) []) (Jm (frg sc96 1) {tm:=A,ob:=B})):Tr):=by intro A B;kernel_rfl
theorem ZmO (s:LU) (es ext:LD):let A:=[(0,oC [dS s]),(1,oC [D.nils])];let B:=(1,dL es ext);gH (ctr libT) 0 true rs96 (frg sc96 1) {tm:=[B,(2,dP 0 0),(4,dP 1 0)],ob:=A}=(Jm (frg sc96 2) {tm:=[B,(2,dP 0 0),(4,dP 1 0),(5,dI 1)],ob:=A}:Tr):=by intro A B;kernel_rfl
theorem ZmN (s:LU) (es ext:LD):let A:=[(0,oC [dS s]),(1,oC [D.nils])];let B:=(1,dL es ext);gH (ctr libT) 0 true rs96 (frg sc96 2) {tm:=[B,(2,dP 0 0),(4,dP 1 0),(5,dI 1)],ob:=A}=(Jm (cut sc96 0) {tm:=[B,(2,dP 0 0),(4,dP 1 0),(5,dI 1),(11,dL es ext),(12,dI (↑(List.length es):Int)),(13,dI 0)],ob:=A}:Tr):=by intro A B;kernel_rfl
def hdFn (s:LU) (es ext:LD) (p m i:Int):St:=⟨[(1,.slice es ext),(2,.ptr 0 0),(4,.ptr 1 0),(5,.int .i64 p),(11,.slice es ext),(12,.int .i64 m),(13,.int .i64 i)],[(0,.cells [.str s]),(1,.cells [.nils])]⟩
theorem Zey (s:LU) (es ext:LD) (p m:Int) (i:Nat) (xs:LD):let A:=(↑(List.length xs):Int);let B:=[(0,oC [dS s]),(1,oC [D.nils])];let C:=((↑i:Int)+(1:Int));let E:=(1,dL es ext);let F:=cut sc96 0;gH (ctr limP Qr (eOne [dL xs []])) 0 true rs96 F (hdFn s es ext p m (↑i:Int))=(brT (decide ((↑i:Int)<m)) (Ow ((0:Int)<=(↑i:Int)/\es[Int.toNat (↑i:Int)]? = some [dL xs []]) (I8 (p*A) (Ow (p*A<=(1000:Int)) (I8 C (Jm F {tm:=[E,(2,dP 0 0),(4,dP 1 0),(5,dI (p*A)),(11,dL es ext),(12,dI m),(13,dI C)],ob:=B}))))) (Jm (frg sc96 3) {tm:=[E,(2,dP 0 0),(4,dP 1 0)],ob:=B}):Tr):=by intro A B C E F;kernel_rfl
def Zks:QT:=λd xs ob=>match d,xs,ob with
 |.func (.func f) [] [],[.slice es ext],[]=>if f=139 then some (.ok True (.func (.func 186) [] [.ptr 0 0]) [(0,.cells [.slice es ext])]) else none
 |_,_,_=>none
theorem ZfN:Zks.OK:=by
 intro d xs ob rt h;unfold Zks at h;split at h
 ·split at h
  ·rename_i hf;subst hf;cases h;intro _;exact CallL.tree Z3 Zr3 (Z2 Z1 Z0) (Zt0 _ _) ⟨rfl,rfl⟩
  ·cases h
 ·cases h
def Zfn (row out:LD) (n:Nat):Obs->Obs
 |[]=>[]
 |(i,.arr false sz e _)::r=>(if i+1=n then (n,.arr false sz e out) else (i,.arr false sz e row))::Zfn row out n r
 |(i,.cells [.vec j])::r=>(i,.cells [.vec (if j+1=n then n else j)])::Zfn row out n r
 |x::r=>x::Zfn row out n r
def Zfo (row out:LD) (n:Nat):Obs->Obs
 |[]=>[(n,.arr false 4 25 out)]
 |(i,.arr false sz e _)::r=>(i,.arr false sz e row)::Zfo row out n r
 |(i,.cells [.nils])::r=>(i,.cells [.vec n])::Zfo row out n r
 |x::r=>x::Zfo row out n r
def uA (row out:LD) (ob:Obs):Obs:=Zfo row out ob.length ob
def uB (row out:LD) (ob:Obs):Obs:=Zfn row out ob.length ob
def Zd2:List Nat:=[24,23,1,2,4]
def dsT (es:LD) (a c d:Nat):List D:=[.func (.func 186) [] [.ptr a 0],.slice es [],.slice es [],.ptr c 0,.ptr d 0]
def recT (st:LoopState) (pend:Option Code) (ds:List D):Ob:=.gen (.loop st pend #[25] (sc96.rngA 0) (sc96.rngB 0) 36 Zd2) ds
def obTA (s:LU) (es:LD):Obs:=[(0,.cells [.slice es []]),(1,recT .ready none (dsT es 0 2 3)),(2,.cells [.str s]),(3,.cells [.nils])]
def obTB (s:LU) (es out:LD):Obs:=[(0,.cells [.slice es []]),(1,recT .ready none (dsT es 0 2 3)),(2,.cells [.str s]),(3,.cells [.vec 4]),(4,.arr false 4 25 out)]
def obFA (s:LU) (es row:LD):Obs:=[(0,.cells [.slice es []]),(1,.cells [.yld 4]),(2,.cells [.vec 5]),(3,.cells [.func (.func 187) [] [.ptr 0 0,.ptr 1 0,.ptr 2 0,.ptr 3 0]]),
 (4,recT .ready none (dsT es 0 6 7)),(5,.arr false 4 25 row),(6,.cells [.str s]),(7,.cells [.nils])]
def obFN (nm:Nat) (s:LU) (es row out:LD):Obs:=[(0,.cells [.slice es []]),(1,.cells [.yld 4]),(2,.cells [.vec 5]),(3,.cells [.func (.func 187) [] [.ptr 0 0,.ptr 1 0,.ptr 2 0,.ptr 3 0]]),
 (4,recT .ready none (dsT es 0 6 7)),(5,.arr false 4 25 row),(6,.cells [.str s]),(7,.cells [.vec nm]),(nm,.arr false 4 25 out)]
def obYA (s:LU) (es row:LD):Obs:=[(1,.arr false 4 25 row),(2,.cells [.slice es []]),(3,.cells [.str s]),(4,.cells [.nils])]
def obYB (s:LU) (es row out:LD):Obs:=[(1,.arr false 4 25 row),(2,.cells [.slice es []]),(3,.cells [.str s]),(4,.cells [.vec 5]),(5,.arr false 4 25 out)]
theorem ZmM (s:LU) (es row out:LD):let A:=[dF 186 [] [dP 0 0],dL es [],dL es [],dP 2 0,dP 3 0];let B:=[dU 0,dI 0,dS [],dL [] []];let C:=AOp.load false 1;let E:=(0,oC [dL es []]);let F:=(2,oC [dS s]);gH (ctr libT (QT.or Zks (asmA (D.tuple []) λx=>obTB s es out))) 0 true rs96 (frg sc96 3) {tm:=[(1,dL es []),(2,dP 0 0),(4,dP 1 0)],ob:=[(0,oC [dS s]),(1,oC [D.nils])]}=(Ow True (Ow (CallL Tryz.prog (dF 186 [] [dP 0 0]) [D.yld 1] [E,(1,Ob.gen (Gen.loop LoopState.ready none #[25] (SC.reg [so 8 AOp.mv [xt 25]]) (SC.block 3 (SC.drw [0,0,0,4,14,1,0,127,255,511,255] [so 26 C [xt 4],so 27 C [xt 2],so 28 AOp.mv [xt 8],SOp.cd (some 29) none (xc (dF 140 [] [])) [xt 28],so 30 (AOp.build B [(0,1),(2,1),(3,1)]) [xc (dU 4),xt 27,xt 29],so 31 (AOp.len false) [xt 26],so 32 (AOp.bslice true 4 1 25 B [(0,4)]) [xc (dA B)],SOp.app 33 none false 4 25 (xt 26) (xt 32),so 34 (AOp.iaddr 4) [xt 33,xt 31],SOp.st none (SK.c 4) (xt 34) (xt 30),SOp.st none (SK.c 1) (xt 4) (xt 33)])) 36 [24,23,1,2,4]) A),F,(3,oC [D.nils])] λr0 ob0=>r0=D.tuple []/\ob0=[E,(1,gL .ready none #[25] sc96 0 36 [24,23,1,2,4] A),F,(3,oC [dV 4]),(4,oR false 4 25 out)]) (Jm (frg sc96 4) {tm:=[(4,dP 0 0)],ob:=[(0,oC [dV 1]),(1,oR false 4 25 out)]})):Tr):=by intro A B C E F;kernel_rfl
theorem Zt1 (s:LU) (es row out:LD):let A:=(↑(List.length es):Int);let B:=[dP 0 0,dP 1 0,dP 2 0,dP 3 0];let C:=[dF 186 [] [dP 0 0],dL es [],dL es [],dP 6 0,dP 7 0];let E:=(0,oC [dL es []]);let F:=(3,oC [dF 187 [] B]);let G:=(1,oC [D.yld 4]);let H:=(2,oC [dV 5]);let I:=(6,oC [dS s]);gC (ctr libT (asmA (dB true) (uA row out))) 4 ZjY Zj7 [] [D.yld 1] [dP 0 0] (obTA s es)=(Ow ((0:Int)<=A/\A*(56:Int)<=(281474976710656:Int)/\A<=(1073741824:Int)) (Ow (CallL Tryz.prog (dF 187 [] B) [dI 0] [E,G,H,F,(4,gL .ready none #[25] sc96 0 36 [24,23,1,2,4] C),(5,oR false 4 25 (List.replicate (Int.toNat A) [dU 0,dI 0,dS [],dL [] []])),I,(7,oC [D.nils])] λr0 ob0=>r0=dB true/\ob0=[E,G,H,F,(4,gL .ready none #[25] sc96 0 36 [24,23,1,2,4] C),(5,oR false 4 25 row),I,(7,oC [dV 8]),(8,oR false 4 25 out)]) (Rt (D.tuple []) [E,(1,gL .ready none #[25] sc96 0 36 [24,23,1,2,4] [dF 186 [] [dP 0 0],dL es [],dL es [],dP 2 0,dP 3 0]),(2,oC [dS s]),(3,oC [dV 4]),(4,oR false 4 25 out)])):Tr):=by intro A B C E F G H I;kernel_rfl
theorem Zim (s:LU) (es row xs b a:LD) (k:Int):let A:=[dP 0 0,dP 1 0,dP 2 0,dP 3 0];let B:=[dF 186 [] [dP 2 0],dL es [],dL es [],dP 3 0,dP 4 0];let C:=[dF 186 [] [dP 0 0],dL es [],dL es [],dP 6 0,dP 7 0];let E:=[dL es []];let F:=(3,oC [dF 187 [] A]);let G:=(1,oC [D.yld 4]);let H:=(3,oC [dS s]);let I:=(2,oC [dV 5]);let J:=(6,oC [dS s]);gC (ctr libT (asmA (dB true) (uA b a)) (eOne [dL xs []])) 8 Z4v Z38 [] [dI k] A (obFA s es row)=(brT (decide (k=(↑(List.length es):Int))) (Ow (CallL Tryz.prog (D.yld 0) [dV 1] [(0,gL .ready none #[25] sc96 0 36 [24,23,1,2,4] B),(1,oR false 4 25 row),(2,oC E),H,(4,oC [D.nils])] λr0 ob0=>r0=dB true/\ob0=[(0,gL .ready none #[25] sc96 0 36 [24,23,1,2,4] B),(1,oR false 4 25 b),(2,oC E),H,(4,oC [dV 5]),(5,oR false 4 25 a)]) (Rt (dB true) [(0,oC E),G,I,F,(4,gL .ready none #[25] sc96 0 36 [24,23,1,2,4] C),(5,oR false 4 25 b),J,(7,oC [dV 8]),(8,oR false 4 25 a)])) (Ow ((0:Int)<=k/\es[Int.toNat k]? = some [dL xs []]) (Jm (cut Z38 0) {tm:=[(0,dI k),(3,dP 2 0),(4,dP 3 0),(19,dL xs []),(20,dI (↑(List.length xs):Int)),(21,dI 0)],ob:=[(0,oC E),G,I,F,(4,gL .ready none #[25] sc96 0 36 [24,23,1,2,4] C),(5,oR false 4 25 row),J,(7,oC [D.nils])]})):Tr):=by intro A B C E F G H I J;kernel_rfl
theorem Zil (s:LU) (es row out xs b a:LD) (k:Int):let A:=[dP 0 0,dP 1 0,dP 2 0,dP 3 0];let B:=[dF 186 [] [dP 2 0],dL es [],dL es [],dP 3 0,dP 4 0];let C:=[dF 186 [] [dP 0 0],dL es [],dL es [],dP 6 0,dP 7 0];let E:=[dL es []];let F:=(3,oC [dF 187 [] A]);let G:=(1,oC [D.yld 4]);let H:=(3,oC [dS s]);let I:=(2,oC [dV 5]);let J:=(6,oC [dS s]);gC (ctr libT (asmA (dB true) (uB b a)) (eOne [dL xs []])) 9 Z4v Z38 [] [dI k] A (obFN 8 s es row out)=(brT (decide (k=(↑(List.length es):Int))) (Ow (CallL Tryz.prog (D.yld 0) [dV 1] [(0,gL .ready none #[25] sc96 0 36 [24,23,1,2,4] B),(1,oR false 4 25 row),(2,oC E),H,(4,oC [dV 5]),(5,oR false 4 25 out)] λr0 ob0=>r0=dB true/\ob0=[(0,gL .ready none #[25] sc96 0 36 [24,23,1,2,4] B),(1,oR false 4 25 b),(2,oC E),H,(4,oC [dV 6]),(6,oR false 4 25 a)]) (Rt (dB true) [(0,oC E),G,I,F,(4,gL .ready none #[25] sc96 0 36 [24,23,1,2,4] C),(5,oR false 4 25 b),J,(7,oC [dV 9]),(9,oR false 4 25 a)])) (Ow ((0:Int)<=k/\es[Int.toNat k]? = some [dL xs []]) (Jm (cut Z38 0) {tm:=[(0,dI k),(3,dP 2 0),(4,dP 3 0),(19,dL xs []),(20,dI (↑(List.length xs):Int)),(21,dI 0)],ob:=[(0,oC E),G,I,F,(4,gL .ready none #[25] sc96 0 36 [24,23,1,2,4] C),(5,oR false 4 25 row),J,(7,oC [dV 8]),(8,oR false 4 25 out)]})):Tr):=by intro A B C E F G H I J;kernel_rfl
theorem Znh (s:LU) (es row xs b a:LD) (k m:Int) (i:Nat) (d nx:Int) (e:LU) (c:LD):let A:=[dF 186 [] [dP 0 0],dL es [],dL es [],dP 6 0,dP 7 0];let B:=(3,oC [dF 187 [] [dP 0 0,dP 1 0,dP 2 0,dP 3 0]]);let C:=(0,oC [dL es []]);let E:=(1,oC [D.yld 4]);let F:=(2,oC [dV 5]);let G:=(6,oC [dS s]);let H:=[dU d,dI nx,dS e,dL c []];let I:=(5,oR false 4 25 b);let J:=(8,oR false 4 25 a);let K:=((↑i:Int)+(1:Int));let L:=(7,oC [D.nils]);let M:=cut Z38 0;let N:=(7,oC [dV 8]);let O:=(k+(1:Int));gH (ctr libT (asmA (dB true) (uA b a)) (eOne (tC d nx e c))) 8 false Z4v M (hdF k m (↑i:Int) xs (obFA s es row))=(brT (decide ((↑i:Int)<m)) (Ow ((0:Int)<=(↑i:Int)/\xs[Int.toNat (↑i:Int)]? = some H) (Ow ((0:Int)<=k/\k<(↑(List.length row):Int)) (Ow (Int.toNat k<List.length row) (I8 O (Ow (CallL Tryz.prog (dF 187 [] [dP 0 0,dP 1 0,dP 2 0,dP 3 0]) [dI O] [C,E,F,B,(4,gL .ready none #[25] sc96 0 36 [24,23,1,2,4] A),(5,oR false 4 25 (List.set row (Int.toNat k) H)),G,L] λr0 ob0=>r0=dB true/\ob0=[C,E,F,B,(4,gL .ready none #[25] sc96 0 36 [24,23,1,2,4] A),I,G,N,J]) (I8 K (Jm M {tm:=[(0,dI k),(3,dP 2 0),(4,dP 3 0),(19,dL xs []),(20,dI m),(21,dI K)],ob:=[C,E,F,B,(4,gL .ready none #[25] sc96 0 36 [24,23,1,2,4] A),I,G,N,J]}))))))) (Rt (dB true) [C,E,F,B,(4,gL .ready none #[25] sc96 0 36 [24,23,1,2,4] A),(5,oR false 4 25 row),G,L]):Tr):=by intro A B C E F G H I J K L M N O;kernel_rfl
theorem Zng (s:LU) (es row out xs b a:LD) (k m:Int) (i:Nat) (d nx:Int) (e:LU) (c:LD):let A:=[dF 186 [] [dP 0 0],dL es [],dL es [],dP 6 0,dP 7 0];let B:=(3,oC [dF 187 [] [dP 0 0,dP 1 0,dP 2 0,dP 3 0]]);let C:=(0,oC [dL es []]);let E:=(1,oC [D.yld 4]);let F:=(2,oC [dV 5]);let G:=(6,oC [dS s]);let H:=[dU d,dI nx,dS e,dL c []];let I:=(5,oR false 4 25 b);let J:=(9,oR false 4 25 a);let K:=(8,oR false 4 25 out);let L:=((↑i:Int)+(1:Int));let M:=cut Z38 0;let N:=(7,oC [dV 8]);let O:=(7,oC [dV 9]);let P:=(k+(1:Int));gH (ctr libT (asmA (dB true) (uB b a)) (eOne (tC d nx e c))) 9 false Z4v M (hdF k m (↑i:Int) xs (obFN 8 s es row out))=(brT (decide ((↑i:Int)<m)) (Ow ((0:Int)<=(↑i:Int)/\xs[Int.toNat (↑i:Int)]? = some H) (Ow ((0:Int)<=k/\k<(↑(List.length row):Int)) (Ow (Int.toNat k<List.length row) (I8 P (Ow (CallL Tryz.prog (dF 187 [] [dP 0 0,dP 1 0,dP 2 0,dP 3 0]) [dI P] [C,E,F,B,(4,gL .ready none #[25] sc96 0 36 [24,23,1,2,4] A),(5,oR false 4 25 (List.set row (Int.toNat k) H)),G,N,K] λr0 ob0=>r0=dB true/\ob0=[C,E,F,B,(4,gL .ready none #[25] sc96 0 36 [24,23,1,2,4] A),I,G,O,J]) (I8 L (Jm M {tm:=[(0,dI k),(3,dP 2 0),(4,dP 3 0),(19,dL xs []),(20,dI m),(21,dI L)],ob:=[C,E,F,B,(4,gL .ready none #[25] sc96 0 36 [24,23,1,2,4] A),I,G,O,J]}))))))) (Rt (dB true) [C,E,F,B,(4,gL .ready none #[25] sc96 0 36 [24,23,1,2,4] A),(5,oR false 4 25 row),G,N,K]):Tr):=by intro A B C E F G H I J K L M N O P;kernel_rfl
theorem ZeR (s:LU) (es row out xs b a:LD) (k m:Int) (i:Nat) (d nx:Int) (e:LU) (c:LD):let A:=[dF 186 [] [dP 0 0],dL es [],dL es [],dP 6 0,dP 7 0];let B:=(3,oC [dF 187 [] [dP 0 0,dP 1 0,dP 2 0,dP 3 0]]);let C:=(0,oC [dL es []]);let E:=(1,oC [D.yld 4]);let F:=(2,oC [dV 5]);let G:=(6,oC [dS s]);let H:=[dU d,dI nx,dS e,dL c []];let I:=(7,oC [dV 8]);let J:=(5,oR false 4 25 b);let K:=(8,oR false 4 25 out);let L:=((↑i:Int)+(1:Int));let M:=cut Z38 0;let N:=(k+(1:Int));gH (ctr libT (asmA (dB true) (uB b a)) (eOne (tC d nx e c))) 8 false Z4v M (hdF k m (↑i:Int) xs (obFN 8 s es row out))=(brT (decide ((↑i:Int)<m)) (Ow ((0:Int)<=(↑i:Int)/\xs[Int.toNat (↑i:Int)]? = some H) (Ow ((0:Int)<=k/\k<(↑(List.length row):Int)) (Ow (Int.toNat k<List.length row) (I8 N (Ow (CallL Tryz.prog (dF 187 [] [dP 0 0,dP 1 0,dP 2 0,dP 3 0]) [dI N] [C,E,F,B,(4,gL .ready none #[25] sc96 0 36 [24,23,1,2,4] A),(5,oR false 4 25 (List.set row (Int.toNat k) H)),G,I,K] λr0 ob0=>r0=dB true/\ob0=[C,E,F,B,(4,gL .ready none #[25] sc96 0 36 [24,23,1,2,4] A),J,G,(7,oC [dV 9]),(9,oR false 4 25 a)]) (I8 L (Jm M {tm:=[(0,dI k),(3,dP 2 0),(4,dP 3 0),(19,dL xs []),(20,dI m),(21,dI L)],ob:=[C,E,F,B,(4,gL .ready none #[25] sc96 0 36 [24,23,1,2,4] A),J,G,I,(8,oR false 4 25 a)]}))))))) (Rt (dB true) [C,E,F,B,(4,gL .ready none #[25] sc96 0 36 [24,23,1,2,4] A),(5,oR false 4 25 row),G,I,K]):Tr):=by intro A B C E F G H I J K L M N;kernel_rfl
theorem ZeQ (s:LU) (es row out xs b a:LD) (k m:Int) (i:Nat) (d nx:Int) (e:LU) (c:LD):let A:=[dF 186 [] [dP 0 0],dL es [],dL es [],dP 6 0,dP 7 0];let B:=(3,oC [dF 187 [] [dP 0 0,dP 1 0,dP 2 0,dP 3 0]]);let C:=(0,oC [dL es []]);let E:=(1,oC [D.yld 4]);let F:=(2,oC [dV 5]);let G:=(6,oC [dS s]);let H:=[dU d,dI nx,dS e,dL c []];let I:=(7,oC [dV 9]);let J:=(5,oR false 4 25 b);let K:=(9,oR false 4 25 a);let L:=((↑i:Int)+(1:Int));let M:=cut Z38 0;let N:=(k+(1:Int));gH (ctr libT (asmA (dB true) (uB b a)) (eOne (tC d nx e c))) 9 false Z4v M (hdF k m (↑i:Int) xs (obFN 9 s es row out))=(brT (decide ((↑i:Int)<m)) (Ow ((0:Int)<=(↑i:Int)/\xs[Int.toNat (↑i:Int)]? = some H) (Ow ((0:Int)<=k/\k<(↑(List.length row):Int)) (Ow (Int.toNat k<List.length row) (I8 N (Ow (CallL Tryz.prog (dF 187 [] [dP 0 0,dP 1 0,dP 2 0,dP 3 0]) [dI N] [C,E,F,B,(4,gL .ready none #[25] sc96 0 36 [24,23,1,2,4] A),(5,oR false 4 25 (List.set row (Int.toNat k) H)),G,(7,oC [dV 8]),(8,oR false 4 25 out)] λr0 ob0=>r0=dB true/\ob0=[C,E,F,B,(4,gL .ready none #[25] sc96 0 36 [24,23,1,2,4] A),J,G,I,K]) (I8 L (Jm M {tm:=[(0,dI k),(3,dP 2 0),(4,dP 3 0),(19,dL xs []),(20,dI m),(21,dI L)],ob:=[C,E,F,B,(4,gL .ready none #[25] sc96 0 36 [24,23,1,2,4] A),J,G,I,K]}))))))) (Rt (dB true) [C,E,F,B,(4,gL .ready none #[25] sc96 0 36 [24,23,1,2,4] A),(5,oR false 4 25 row),G,I,(9,oR false 4 25 out)]):Tr):=by intro A B C E F G H I J K L M N;kernel_rfl
theorem Zt2 (e:List D) (es:LD):let A:=(0,oR false 4 25 (e::es));gC (ctr libT) 1 Zk7 Zjg [] [dV 0] [] [A]=(Ow (Ze 4 (e::es)/\0+List.length (e::es)<=1073741824) (Rt (dV 1) [A,(1,oR true 4 25 (e::es))]):Tr):=by intro A;kernel_rfl
def cloT (row:LD):QT:=asmO (.vec 1) [(0,.arr false 4 25 row),(1,.arr true 4 25 row)]
theorem Zen (s:LU) (es row:LD):let A:=(0,oR false 4 25 row);let B:=dsT es 2 3 4;yldT Tryz.prog (ctr limP (cloT row)) 5 0 36 #[25] (SC.rngA sc96 0) (SC.rngB sc96 0) Zd2 B 2000 {tm:=putP (List.zip [25] [dV 1]) (List.zip Zd2 B),ob:=obYA s es row}=(Ow (CQ 140 [dV 0] [A] (dV 1) [A,(1,oR true 4 25 row)]) (Ow (Ze 4 [[dU 0,dI 0,dS [],dL [] []]]/\1<=1073741824) (Ow ((0:Int)<=(0:Int)/\(0:Int)<(↑(1:Nat):Int)) (Ow (0<1) (Rt (dB true) [(0,gL .ready none #[25] sc96 0 36 [24,23,1,2,4] [dF 186 [] [dP 2 0],dL es [],dL es [],dP 3 0,dP 4 0]),(1,oR false 4 25 row),(2,oC [dL es []]),(3,oC [dS s]),(4,oC [dV 5]),(5,oR false 4 25 [[dU 4,dI 0,dS s,dL row []]])])))):Tr):=by intro A B;kernel_rfl
theorem Zsj (s:LU) (es row out:LD):let A:=[[dU 0,dI 0,dS [],dL [] []]];let B:=(↑(List.length out):Int);let C:=(0,oR false 4 25 row);let E:=dsT es 2 3 4;yldT Tryz.prog (ctr limP (cloT row)) 6 0 36 #[25] (SC.rngA sc96 0) (SC.rngB sc96 0) Zd2 E 2000 {tm:=putP (List.zip [25] [dV 1]) (List.zip Zd2 E),ob:=obYB s es row out}=(Ow (CQ 140 [dV 0] [C] (dV 1) [C,(1,oR true 4 25 row)]) (Ow (Ze 4 A/\List.length out+1<=1073741824) (Ow ((0:Int)<=B/\B<(↑(List.length (out++A)):Int)) (Ow (Int.toNat B<List.length (out++A)) (Rt (dB true) [(0,gL .ready none #[25] sc96 0 36 [24,23,1,2,4] [dF 186 [] [dP 2 0],dL es [],dL es [],dP 3 0,dP 4 0]),(1,oR false 4 25 row),(2,oC [dL es []]),(3,oC [dS s]),(4,oC [dV 6]),(6,oR false 4 25 (List.set (out++A) (Int.toNat B) [dU 4,dI 0,dS s,dL row []]))])))):Tr):=by intro A B C E;kernel_rfl
theorem ZmL (out:LD):gH (ctr libT) 0 true rs96 (frg sc96 4) {tm:=[(4,dP 0 0)],ob:=[(0,oC [dV 1]),(1,oR false 4 25 out)]}=(Rt (D.own 4 25 out) []:Tr):=by kernel_rfl
end Go.Proofs.YtaclfbhhekhflaaGreatDoor
