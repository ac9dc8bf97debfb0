/- Own work: a layer over the kit: plain data,a walk over it,its soundness. -/
import Derived.Test.YtaclfbhhekhflaaGreatDoorTextP
import Derived.Test.YtaclfbhhekhflaaGreatDoorSx10
import Derived.Test.YtaclfbhhekhflaaGreatDoorLibT
import Derived.Test.YtaclfbhhekhflaaGreatDoorSx8
import Derived.Test.YtaclfbhhekhflaaGreatDoorShelfS
import Derived.Test.YtaclfbhhekhflaaGreatDoorSx9
import Derived.Test.YtaclfbhhekhflaaGreatDoorSx11
set_option linter.all false
set_option maxRecDepth 100000
/- Too many: operation,functions,expand. -/
noncomputable section
namespace Go.Proofs.YtaclfbhhekhflaaGreatDoor
open Go.Sx
theorem Zn4 (s:LU) (es ext:LD):gC (ctr libT) 0 Z6y Q2 [] [dS s,dL es ext] [] []=(Jm (frg Q2 0) {tm:=[(1,dL es ext),(2,dP 0 0)],ob:=[(0,oC [dS s])]}:Tr):=by kernel_rfl
theorem Zn7 (s:LU) (es ext:LD):gH (ctr libT) 0 false Z6y (frg Q2 0) {tm:=[(1,dL es ext),(2,dP 0 0)],ob:=[(0,oC [dS s])]}=(Jm (frg Q2 1) {tm:=[(1,dL es ext),(2,dP 0 0),(5,dV 1)],ob:=[(0,oC [dS s]),(1,oR true 1 29 [])]}:Tr):=by kernel_rfl
theorem Zn6 (s:LU) (es ext:LD):let A:=[(0,oC [dS s]),(1,oR true 1 29 [])];gH (ctr libT) 0 false Z6y (frg Q2 1) {tm:=[(1,dL es ext),(2,dP 0 0),(5,dV 1)],ob:=A}=(Jm (cut Q2 0) {tm:=[(2,dP 0 0),(5,dV 1),(14,dL es ext),(15,dI (↑(List.length es):Int)),(16,dI 0)],ob:=A}:Tr):=by intro A;kernel_rfl
theorem ZeD (s:LU) (es ext row xs:LD) (m:Int) (i:Nat) (q:LD):let A:=[dL xs []];let B:=((↑i:Int)+(1:Int));let C:=D.own 1 3 q;let E:=cut Q2 0;let F:=(0,oC [dS s]);let G:=[[dL q []]];gH (ctr (asmP C) Qr (eOne A)) 0 false Z6y E (hdOp s es ext row m (↑i:Int))=(brT (decide ((↑i:Int)<m)) (Ow ((0:Int)<=(↑i:Int)/\es[Int.toNat (↑i:Int)]? = some A) (Ow (FK 94 A C) (Ow (Ze 1 G/\List.length row+1<=1073741824) (I8 B (Jm E {tm:=[(2,dP 0 0),(5,dV 1),(14,dL es ext),(15,dI m),(16,dI B)],ob:=[F,(1,oR true 1 29 (row++G))]}))))) (Jm (frg Q2 2) {tm:=[(2,dP 0 0),(5,dV 1)],ob:=[F,(1,oR true 1 29 row)]}):Tr):=by intro A B C E F G;kernel_rfl
theorem Zn5 (s:LU) (row:LD):let A:=(1,oR true 1 29 row);let B:=(0,oC [dS s]);gH (ctr libT) 0 false Z6y (frg Q2 2) {tm:=[(2,dP 0 0),(5,dV 1)],ob:=[B,A]}=(Jm (frg Q2 3) {tm:=[(2,dP 0 0),(5,dV 1),(8,dP 2 0)],ob:=[B,A,(2,oC [D.map 3]),(3,Ob.gen (Gen.mapC [] []) [])]}:Tr):=by intro A B;kernel_rfl
theorem Zn3 (s:LU) (row:LD) (ks vs:List D):let A:=AOp.load false 1;let B:=Gen.mapC [] [];gH (ctr libT (QT.or ZfO Zei)) 0 false Z6y (frg Q2 3) {tm:=[(2,dP 0 0),(5,dV 1),(8,dP 2 0)],ob:=[(0,oC [dS s]),(1,oR true 1 29 row),(2,oC [D.map 3]),(3,Ob.gen B [])]}=(Ow True (Ow (CallL Tryz.prog (dF 176 [] [dP 0 0]) [D.yld 1] [(0,oC [dL row []]),(1,Ob.gen (Gen.loop LoopState.ready none #[29] (SC.reg [so 9 AOp.mv [xt 29]]) (SC.block 3 (SC.seq (SC.reg [so 31 A [xt 2],so 32 AOp.mv [xt 9],SOp.cd (some 33) none (xc (dF 135 [] [])) [xt 31,xt 32],so 30 AOp.mv [xt 33],so 34 (AOp.extract 0) [xt 30],so 35 (AOp.extract 1) [xt 30],so 10 AOp.mv [xt 34],so 11 AOp.mv [xt 35]]) (SC.seq (SC.reg [so 36 AOp.mv [xt 11]]) (SC.cond (xt 36) (SC.seq (SC.reg [so 37 A [xt 8],so 38 AOp.mv [xt 10],so 39 AOp.mv [xt 10],SOp.st none (SK.k (some IntKind.i64) (xt 38)) (xt 37) (xt 39)]) (SC.spec (Sp.pan [so 40 A [xt 8],so 41 (AOp.ext Ext.lenm) [xt 40],SOp.cd (some 42) none (xc (dF 132 [] [])) [xt 41]]))) SC.skip)))) 56 [28,27,2,5,8]) [dF 176 [] [dP 0 0],dV 2,dP 3 0,dV 2,dP 4 0]),(2,oR true 1 29 row),(3,oC [dS s]),(4,oC [D.map 5]),(5,Ob.gen B [])] λr0 ob0=>r0=D.pan Qa/\ob0=[]) (Rt (D.pan Qa) [])):Tr):=by intro A B;kernel_rfl
theorem Znc (s:LU) (es ext:LD):gC (ctr libT) 0 Z7G Z37 [] [dS s,dL es ext] [] []=(Jm (frg Z37 0) {tm:=[(1,dL es ext),(2,dP 0 0),(4,dP 1 0)],ob:=[(0,oC [dS s]),(1,oC [D.nils])]}:Tr):=by kernel_rfl
theorem Znf (s:LU) (es ext:LD) (b:Bool):let A:=[(1,dL es ext),(2,dP 0 0),(4,dP 1 0)];let B:=[(0,oC [dS s]),(1,oC [D.nils])];gH (ctr libT (asmA (dB b) id)) 0 false Z7G (frg Z37 0) {tm:=A,ob:=B}=(Ow (CQ 137 [dL es ext,dF 138 [] []] [] (dB b) []) (brT b (Rt D.nils []) (Jm (frg Z37 1) {tm:=A,ob:=B})):Tr):=by intro A B;kernel_rfl
theorem Zne (s:LU) (es ext:LD):let A:=[(0,oC [dS s]),(1,oC [D.nils])];let B:=(1,dL es ext);gH (ctr libT) 0 false Z7G (frg Z37 1) {tm:=[B,(2,dP 0 0),(4,dP 1 0)],ob:=A}=(Jm (frg Z37 2) {tm:=[B,(2,dP 0 0),(4,dP 1 0),(5,dI 1)],ob:=A}:Tr):=by intro A B;kernel_rfl
theorem Znd (s:LU) (es ext:LD):let A:=[(0,oC [dS s]),(1,oC [D.nils])];let B:=(1,dL es ext);gH (ctr libT) 0 false Z7G (frg Z37 2) {tm:=[B,(2,dP 0 0),(4,dP 1 0),(5,dI 1)],ob:=A}=(Jm (cut Z37 0) {tm:=[B,(2,dP 0 0),(4,dP 1 0),(5,dI 1),(11,dL es ext),(12,dI (↑(List.length es):Int)),(13,dI 0)],ob:=A}:Tr):=by intro A B;kernel_rfl
theorem Znb (s:LU) (es ext:LD) (p m:Int) (i:Nat) (xs:LD):let A:=(↑(List.length xs):Int);let B:=[(0,oC [dS s]),(1,oC [D.nils])];let C:=(1000:Int);let E:=((↑i:Int)+(1:Int));let F:=cut Z37 0;let G:=(1,dL es ext);gH (ctr libT limQ (eOne [dL xs []])) 0 false Z7G F (hdFn s es ext p m (↑i:Int))=(brT (decide ((↑i:Int)<m)) (Ow ((0:Int)<=(↑i:Int)/\es[Int.toNat (↑i:Int)]? = some [dL xs []]) (I8 (p*A) (brT (decide (C<p*A)) (Ow (C<p*A) (Rt (D.pan Qa) [])) (Ow (p*A<=C) (I8 E (Jm F {tm:=[G,(2,dP 0 0),(4,dP 1 0),(5,dI (p*A)),(11,dL es ext),(12,dI m),(13,dI E)],ob:=B})))))) (Jm (frg Z37 3) {tm:=[G,(2,dP 0 0),(4,dP 1 0)],ob:=B}):Tr):=by intro A B C E F G;kernel_rfl
theorem Zm5 (k n:Int) (s:LU) (x:List D) (a:LD):gC (ctr libT) 0 ZfL Zc5 [] [dA (tC k n s (x::a))] [] []=(Jm (cut Zc5 0) {tm:=[(1,dP 0 0),(3,dV 1),(14,dL (x::a) []),(15,dI (↑(List.length (x::a)):Int)),(16,dI 0)],ob:=[(0,oC [dU k,dI n,dS s,dL (x::a) []]),(1,oR true 1 23 [])]}:Tr):=by kernel_rfl
def xpQ (b:Bool) (r:D):Nat->QT:=λt=>if t=22 then asmJ b r id else Zei
theorem Zbs (l:List (Nat × D)) (b:Bool) (r:D) (E:Nat->Int->List D):(⟨(sCtr l).F,xpQ b r,E⟩:Ctr).OK Tryz.prog:=by
 refine⟨(Zc9 l).F,λt=>?_⟩;show QT.OK (xpQ b r t);unfold xpQ;split
 ·exact Z1g _ _ _
 ·exact Z7g
theorem Z8B (k n:Int) (s:LU) (a row:LD) (m:Int) (i:Nat) (f nx:Int) (g:LU) (e es d vs is c:LD) (b:Bool):let A:=D.pan Qa;let B:=[dU f,dI nx,dS g,dL e []];let G:=Rt A [];let H:=((↑i:Int)+(1:Int));let I:=[dS s,dL row []];let J:=cut Zc5 0;let K:=[[dL es []]];goT Tryz.prog {F:=Ctr.F (sCtr [(33,dL is []),(37,dL c [])]),C:=xpQ b (dL es []),E:=xpE f nx g e d vs} 0 (finF false 0 ZfL) 2000 J (hdEx k n s a row m (↑i:Int))=(brT (decide ((↑i:Int)<m)) (Ow ((0:Int)<=(↑i:Int)/\a[Int.toNat (↑i:Int)]? = some B) (brT b (Ow (CQ 63 [dA B] [] (dL es []) []) (Ow (Ze 1 K/\List.length row+1<=1073741824) (I8 H (Jm J {tm:=[(1,dP 0 0),(3,dV 1),(14,dL a []),(15,dI m),(16,dI H)],ob:=[(0,oC [dU k,dI n,dS s,dL a []]),(1,oR true 1 23 (row++K))]})))) (Ow (CQ 63 [dA B] [] A []) G))) (brT (decide (k=(6:Int))) (Ow ((0:Int)<=(0:Int)/\row[0]? = some [dL d []]) (Ow (FK 94 [dL d []] (dL is [])) (Ow ((0:Int)<=(1:Int)/\row[1]? = some [dL vs []]) (Ow (FK 94 [dL vs []] (dL c [])) (Ow (CQ 93 [dL is [],dL c []] [] A []) G))))) (brT (decide (k=(5:Int))) (Ow (CQ 95 I [] A []) G) (Ow (CQ 96 I [] A []) G))):Tr):=by intro A B G H I J K;kernel_rfl
abbrev RP:D->Obs->Prop:=λr _=>r=.pan Qa
theorem Zq6 (s:LU) (L:List (List Tm)) (ext:LD) (k:L.length<=1000) (hl: ∀ l∈L,l.length<=1000) (g:1000<(opF s (ZJ (L.map Zl))).length): ∀ (m i:Nat),L.length-i=m->i<=L.length →
  At Tryz.prog 0 (cut Q2 0) (hdOp s (Zg L) ext (lisD ((L.take i).map Zl)) L.length i) (FinQ false 0 Z6y RP):=by
 intro m;induction m with
 |zero =>
  intro i hm hi;refine At.tree (Z2 (Zm _) Z0) (ZeD s (Zg L) ext (lisD ((L.take i).map Zl)) [] L.length i []) ?_;have e:L.take i=L:=List.take_of_length_le (by omega);rw[e];simp only[SS];refine⟨λh=>by omega,λ_=>?_⟩;refine At.tree (Z2 Z1 Z0) (Zn5 s (lisD (L.map Zl))) ?_;rw[Z6];refine At.tree (Z2 Z1 (QT.or_ok Z9f Z7g)) (Zn3 s (lisD (L.map Zl)) [] []) ?_;have c: ∀ l∈L.map Zl,l.length<=1073741824:=by
   intro l h;obtain⟨b,h',rfl⟩:=List.mem_map.1 h
   have:=hl b h'
   have:=List.length_filterMap_le Tm.int? b;unfold Zl;omega
  have a:(Zh (opB s) (L.map Zl) 0 (List.replicate (L.map Zl).length 0,[])).2=opF s (ZJ (L.map Zl)):=by
   rw[(Z1C (opB s) _ 0 _ [] (by simp)).1];simp[opF]
  have d:=ZjM s (L.map Zl) (by simp;omega) c (by rw[a];exact g);rw[Z4,Z4,Z7];exact⟨trivial,d,rfl⟩
 |succ m j =>
  intro i hm hi;have h1:i<L.length:=by omega
  have e:lisD ((L.take i).map Zl)++[[.slice (intC .i64 (Zl L[i])) []]]=lisD ((L.take (i+1)).map Zl):=by
   rw[List.take_add_one,List.getElem?_eq_getElem h1];simp only[lisD,List.map_append,Option.toList_some,List.map_cons,List.map_nil]
  have f:=hl _ (List.getElem_mem h1);refine At.tree (Z2 (Zm _) Z0) (ZeD s (Zg L) ext (lisD ((L.take i).map Zl)) (Tm.cellsL L[i]) L.length i (intC .i64 (Zl L[i]))) ?_;simp only[SS,Z0f,List.length_map,List.length_take];rw[e];exact⟨λ_=>⟨⟨by omega,Z06 h1⟩,Zdc [] L[i] (by omega),⟨by simp[Ze],by omega⟩,by omega,j (i+1) (by omega) (by omega)⟩,λh=>by omega⟩
theorem Zq5 (s:LU) (L:List (List Tm)) (a:L.length<=1000) (hl: ∀ l∈L,l.length<=1000) (h:opX s L=none):CF 95 [.str s,.slice (Zg L) []] [] λr ob=>r=.pan Qa/\ob=[]:=by
 have b:1000<(opF s (ZJ (L.map Zl))).length:=by
  unfold opX at h;split at h
  ·cases h
  ·omega
 refine CallL.pdrop (R:=RP) ?_ λ_ _ h=>h;refine CallL.tree Z3 Zur (Z2 Z1 Z0) (Zn4 s (Zg L) []) ?_;rw[Z6];refine At.tree (Z2 Z1 Z0) (Zn7 s (Zg L) []) ?_;rw[Z6];refine At.tree (Z2 Z1 Z0) (Zn6 s (Zg L) []) ?_;rw[Z6,ZX];exact Zq6 s L [] a hl b _ 0 rfl (Nat.zero_le _)
theorem Zrw (s:LU) (L:List (List Tm)) (b:L.length<=1000) (hl: ∀ l∈L,l≠[]/\l.length<=1000) (d:1000<(ZJ L).length): ∀ (m i:Nat),L.length-i=m->i<=L.length->prdL L i<=1000 →
  At Tryz.prog 0 (cut Z37 0) (hdFn s (Zg L) [] (prdL L i) L.length i) (FinQ false 0 Z7G RP):=by
 intro m;induction m with
 |zero =>
  intro i hm hi hp;have:prdL L i=(ZJ L).length:=by
   unfold prdL;rw[Z0u,List.take_of_length_le (show L.length<=i by omega)]
  omega
 |succ m a =>
  intro i hm hi hp;have h1:i<L.length:=by omega
  have e:((prdL L (i+1):Nat):Int)=(prdL L i:Int)*(L[i].length:Int):=by rw[Z3I h1];exact Int.natCast_mul _ _
  have c:prdL L (i+1)<=1000*1000:=by
   rw[Z3I h1];exact Nat.mul_le_mul hp (hl _ (List.getElem_mem h1)).2
  refine At.tree (Z2 Z1 Z7Y) (Znb s (Zg L) [] (prdL L i) L.length i (Tm.cellsL L[i])) ?_;rw[Z5,<- e];simp only[SS];exact⟨λ_=>⟨⟨by omega,Z06 h1⟩,by omega,λh=>by omega,λh=>⟨by omega,by omega,a (i+1) (by omega) (by omega) (by omega)⟩⟩,λh=>by omega⟩
theorem Zrv (s:LU) (L:List (List Tm)) (c:L.length<=1000) (hl: ∀ l∈L,l.length<=1000) (h:fnX s L=none):CF 96 [.str s,.slice (Zg L) []] [] λr ob=>r=.pan Qa/\ob=[]:=by
 unfold fnX at h;split at h
 ·cases h
 ·rename_i a;split at h
  ·cases h
  ·rename_i d;have a:=Bool.eq_false_iff.2 a;have b: ∀ l∈L,l≠[]/\l.length<=1000:=λl hx=>⟨λe=>by
    have:=List.any_eq_false.1 a l hx;rw[e] at this;exact this rfl,hl l hx⟩
   refine CallL.pdrop (R:=RP) ?_ λ_ _ h=>h;refine CallL.tree Z3 Zuq (Z2 Z1 Z0) (Znc s (Zg L) []) ?_;rw[Z6];refine At.tree (Z2 Z1 (Za _ _)) (Znf s (Zg L) [] (L.any List.isEmpty)) ?_;rw[Z4,Zs,Z7,Z6];refine⟨ZdT [] L c,λh=>absurd h (by rw[a];decide),λ_=>?_⟩;refine At.tree (Z2 Z1 Z0) (Zne s (Zg L) []) ?_;rw[Z6];refine At.tree (Z2 Z1 Z0) (Znd s (Zg L) []) ?_;rw[Z6,ZX];exact Zrw s L c b (by omega) _ 0 rfl (Nat.zero_le _) (by simp[prdL])
theorem Zbt: ∀ {a b:List Tm} {p q:List (List Tm)},Tm.xpL a=some p->Tm.xpL b=some q->Tm.xpL (a++b)=some (p++q)
 |[],_,_,_,h,h'=>by cases h;exact h'
 |x::r,b,p,q,h,h'=>by
  rw[Tm.xpL] at h;unfold ZgJ at h;split at h
  ·rename_i u v h1 h2;cases h;rw[List.cons_append,Tm.xpL,Zbt h2 h',h1];rfl
  ·cases h
def ExpN (x:Tm):Prop:=CF 63 [.agg x.cells] [] λr ob=>r=.pan Qa/\ob=[]
theorem ZpY:ZC Tryz.prog 63=true:=by kernel_rfl
theorem ZnV (k:Nat) (n:Int) (s:LU) (l:List Tm) (hl:l.length<=1000) (z:(Tm.mk k n s l).all Tm.shape=true) (w:(Tm.mk k n s l).all Tm.gr=true) (L:Tm.fewL 1000 l) (HN: ∀ x∈l,x.xp=none->ExpN x): ∀ (m i:Nat) (ps:List (List Tm)),l.length-i=m->i<=l.length →
  Tm.xpL (l.take i)=some ps->(Tm.xpL (l.drop i)=none\/ ∃ qs,Tm.xpL (l.drop i)=some qs/\xpK k s (some (ps++qs))=none) →
  At Tryz.prog 0 (cut Zc5 0) (hdEx k n s (Tm.cellsL l) (Zg ps) l.length i) (FinQ false 0 ZfL RP):=by
 have I:((k:Int)=6)=(k=6):=propext (by omega);have H:((k:Int)=5)=(k=5):=propext (by omega);have hs:=ZI.1 z;have F:=ZI.1 w;intro m;induction m with
 |zero =>
  intro i ps hm hi a b;rw[List.take_of_length_le (show l.length<=i by omega)] at a;rw[List.drop_eq_nil_of_le (by omega)] at b;have hx:xpK k s (some ps)=none:=by
   rcases b with b|⟨qs,h1,h2⟩
   ·cases b
   ·cases h1;rwa [List.append_nil] at h2
  have j:=Z2x a;have hp: ∀ p∈ps,p.length<=1000:=λp hp=>(Z2w a hp).elim λx hx=>Zbr hx.2;have g: ∀ i,∀ c∈Zl (ps.getD i []),Zu c=true:=λi c hc=>by
   obtain⟨x,hx,A⟩:=Z3S.1 hc;rw[List.getD_eq_getElem?_getD] at hx;cases d:ps[i]? with
   |none=>rw[d] at hx;cases hx
   |some p =>
    rw[d] at hx;obtain⟨y,G,B⟩:=Z2w a (List.mem_of_getElem? d);exact Z3T (Z1i y p x (hs.2 y G) (F.2 y G) B hx).2.1 A
  have gl: ∀ i,(ps.getD i []).length<=1000:=λi=>by
   rw[List.getD_eq_getElem?_getD];cases d:ps[i]? with
   |none=>simp
   |some p=>exact hp p (List.mem_of_getElem? d)
  have r: ∀ i,(Zl (ps.getD i [])).length<=1000:=λi=>Nat.le_trans (Z9H _) (gl i);refine At.tree (Zbs _ _ _ _) (Z8B k n s (Tm.cellsL l) (Zg ps) l.length i 0 0 [] [] [] (Tm.cellsL (ps.getD 0 [])) (Tm.cellsL (ps.getD 1 [])) (intC .i64 (Zl (ps.getD 0 []))) (intC .i64 (Zl (ps.getD 1 []))) true) ?_;simp only[xpK] at hx;simp only[SS,I,H];refine⟨λh=>by omega,λ_=>⟨λv=>?_,λv=>⟨λu=>?_,λu=>?_⟩⟩⟩
  ·subst v;rw[if_pos rfl] at hx;have hv:ivl (Zl (ps.getD 0 [])) (Zl (ps.getD 1 []))=none:=by
    cases hv:ivl (Zl (ps.getD 0 [])) (Zl (ps.getD 1 [])) with
    |none=>rfl
    |some q=>rw[hv] at hx;cases hx
   have h2:=Z6r hs.1;exact⟨Z1u (by omega),Z5E _ (gl 0),⟨by decide,Z1u (by omega)⟩,Z5E _ (gl 1),Zqp _ _ (r 0) (r 1) (g 0) (g 1) hv⟩
  ·subst u;rw[if_neg (by decide),if_pos rfl] at hx;exact Zq5 s ps (by omega) hp hx
  ·rw[if_neg v,if_neg u] at hx;exact Zrv s ps (by omega) hp hx
 |succ m M =>
  intro i ps hm hi a b;have h1:i<l.length:=by omega
  have hx:=ZN h1;have f:l[i]∈l:=List.getElem_mem h1;have j:=Z2x a;rw[List.length_take] at j;rw[Zc h1,Tm.xpL] at b;cases d:l[i].xp with
  |none =>
   have o:=HN _ f d;unfold ExpN at o;generalize l[i]=x at hx o;obtain⟨C,nx,D,t⟩:=x;refine At.tree (Zbs _ _ _ _) (Z8B k n s (Tm.cellsL l) (Zg ps) l.length i C nx D (Tm.cellsL t) [] [] [] [] [] false) ?_;simp only[SS];exact⟨λ_=>⟨⟨by omega,hx⟩,λh=>(Bool.noConfusion h),o⟩,λh=>by omega⟩
  |some p =>
   have o:=FnOK.callS ZpY (Z8j l[i] p (Qu.1 L _ f) (hs.2 _ f) (F.2 _ f) d);have K:Tm.xpL (l.take (i+1))=some (ps++[p]):=by
    rw[List.take_add_one,List.getElem?_eq_getElem h1,Option.toList_some];exact Zbt a (by rw[Tm.xpL,d];rfl)
   have E:=M (i+1) (ps++[p]) (by omega) (by omega) K (by
    rw[d] at b;cases hr:Tm.xpL (l.drop (i+1)) with
    |none=>exact .inl rfl
    |some qs =>
     rw[hr] at b;rcases b with b|⟨N,h2,J⟩
     ·cases b
     ·cases h2;exact .inr ⟨qs,rfl,by rw[List.append_assoc];exact J⟩)
   have e:Zg (ps++[p])=Zg ps++[[.slice (Tm.cellsL p) []]]:=by simp[Zg]
   rw[e] at E;generalize l[i]=x at hx o;obtain⟨C,nx,D,t⟩:=x;refine At.tree (Zbs _ _ _ _) (Z8B k n s (Tm.cellsL l) (Zg ps) l.length i C nx D (Tm.cellsL t) (Tm.cellsL p) [] [] [] [] true) ?_;simp only[SS,ZX];exact⟨λ_=>⟨⟨by omega,hx⟩,⟨o,⟨by simp[Ze],by omega⟩,by omega,E⟩,λh=>(Bool.noConfusion h)⟩,λh=>by omega⟩
theorem Zdx: ∀ (x:Tm),x.few 1000->x.all Tm.shape=true->x.all Tm.gr=true->x.xp=none->ExpN x
 |.mk k n s l,hx,b,a,h=>by
  have hs:=ZI.1 b;have f:=ZI.1 a;simp only[Tm.few] at hx;obtain⟨hl,d⟩:=hx;have HN: ∀ x∈l,x.xp=none->ExpN x:=λx hm h=>Zdx x (Qu.1 d _ hm) (hs.2 _ hm) (f.2 _ hm) h;rw[Tm.xp] at h;split at h
  ·cases h
  ·rename_i c;have c:l≠[]:=λe=>c (by rw[e];rfl);have g:=ZnV k n s l hl b a d HN _ 0 [] rfl (Nat.zero_le _) rfl (by
    rw[List.drop_zero];cases i:Tm.xpL l with
    |none=>exact .inl rfl
    |some qs=>rw[i] at h;exact .inr ⟨qs,rfl,h⟩)
   clear HN hs f b a h d;unfold ExpN;refine CallL.pdrop (R:=RP) ?_ λ_ _ h=>h;cases l with
   |nil=>exact absurd rfl c
   |cons x r =>
    refine CallL.tree Z3 Zut (Z2 Z1 Z0) (Zm5 k n s x.cells (Tm.cellsL r)) ?_;rw[Z6];have e:(x.cells::Tm.cellsL r).length=(x::r).length:=by simp[Z5]
    rw[e];exact g
termination_by x=>SizeOf.sizeOf x
decreasing_by
 have:=List.sizeOf_lt_of_mem hm;simp only[Tm.mk.sizeOf_spec];omega
end Go.Proofs.YtaclfbhhekhflaaGreatDoor
/- arith.Expand. -/
namespace Go.Proofs.YtaclfbhhekhflaaGreatDoor
open Go.Sx
def dfrB:SC->SC
 |.seq (.spec (.dfr _ _)) b=>b
 |.seq _ b=>dfrB b
 |c=>c
def clE:D:=.func (.func 62) [] [.ptr 1 0,.ptr 2 0]
def tDE:FrameMode->Obs->Option (FrameMode × Obs):=λu ob=>match u with
 |.returning=>some (.returning,ob)
 |.panicking [⟨v,false,false⟩]=>some (.panicking [⟨v,true,false⟩],[(0,.cells [.nils]),(1,.cells [.int .i64 5])])
 |_=>none
theorem Zt4 (k n:Int) (s:LU) (a:LD) (v g:Bool):let A:=[dU k,dI n,dS s,dL a []];let B:=AOp.load true 4;let C:=Rt (D.tuple [D.nils,dI 2]) [];let E:=[dU 0,dI 0,dS [],dL [] []];let F:=AOp.load false 1;let G:=AOp.len false;let H:=AOp.iaddr 4;goD (dCtr [(7,dB v),(11,dB g)]) 0 Z5q Z2e {tm:=ZM 0 [dA (tC k n s a)],ob:=[]}=(Ow (FK 56 [dA A] (dB v)) (brT (!v) C (Ow (FK 37 [dA A] (dB g)) (brT (!g) C (Jm [Fr.sc (SC.seq (SC.spec (Sp.dfr [] (xt 14))) (SC.seq (SC.spec (Sp.frg [1,2,3])) (SC.seq (SC.seq (SC.spec (Sp.pan [so 15 B [xt 1],SOp.cd (some 16) none (xc (dF 63 [] [])) [xt 15],so 17 G [xt 16],so 18 AOp.mv [xc (dI 0)]])) (SC.block 0 (SC.loop [2,3,16,17,18] (SC.seq (SC.reg [so 19 (AOp.bin BinOp.lss) [xt 18,xt 17]]) (SC.seq (SC.cond (xt 19) SC.skip (SC.exit 0)) (SC.seq (SC.block 1 (SC.seq (SC.reg [so 20 H [xt 16,xt 18],so 21 B [xt 20],so 5 (AOp.alloc [dU 0,dI 0,dS [],D.nils]) [],SOp.st none (SK.c 4) (xt 5) (xt 21)]) (SC.drw [0,0,2,1,0,31,63,127,63] [so 22 F [xt 2],so 23 B [xt 5],so 24 (AOp.call 64) [xt 23],so 25 G [xt 22],so 26 (AOp.bslice true 4 1 25 E [(0,4)]) [xc (dA E)],SOp.app 27 none false 4 25 (xt 22) (xt 26),so 28 H [xt 27,xt 25],SOp.st none (SK.c 4) (xt 28) (xt 24),SOp.st none (SK.c 1) (xt 2) (xt 27)]))) (SC.reg [so 29 (AOp.bin BinOp.add) [xt 18,xc (dI 1)],so 18 AOp.mv [xt 29]]))))))) (SC.seq (SC.spec (Sp.frg [2,3])) (SC.seq (SC.reg [so 30 F [xt 2],SOp.st none (SK.c 1) (xt 2) (xt 30),SOp.st none (SK.c 1) (xt 3) (xc (dI 0))]) SC.ret)))))] {tm:=[(14,dF 62 [] [dP 1 0,dP 2 0]),(1,dP 0 0),(2,dP 1 0),(3,dP 2 0)],ob:=[(0,oC A),(1,oC [D.nils]),(2,oC [dI 0])]})))):Tr):=by intro A B C E F G H;kernel_rfl
def obE (k n:Int) (s:LU) (a:LD):Obs:=[(0,.cells [.int .u8 k,.int .i64 n,.str s,.slice a []]),(1,.cells [.nils]),(2,.cells [.int .i64 0])]
theorem Zt3 (k n:Int) (s:LU) (a:LD):goT Tryz.prog (ctr libT) 3 (Z6W Tryz.prog tDE 0 3 Z5q clE) 2000 [Fr.sc (dfrB Z2e)] {tm:=[(14,dF 62 [] [dP 1 0,dP 2 0]),(1,dP 0 0),(2,dP 1 0),(3,dP 2 0)],ob:=obE k n s a}=(Jm (frg Z2e 2) {tm:=[(1,dP 0 0),(2,dP 1 0),(3,dP 2 0)],ob:=[(0,oC [dU k,dI n,dS s,dL a []]),(1,oC [D.nils]),(2,oC [dI 0])]}:Tr):=by kernel_rfl
theorem Zin (k n:Int) (s:LU) (a:LD) (b:Bool) (es:LD):let A:=[dU k,dI n,dS s,dL a []];let B:=(0,oC [D.nils]);goT Tryz.prog (ctr libT (asmJ b (dL es []) id)) 3 (Z6W Tryz.prog tDE 0 3 Z5q clE) 2000 (frg Z2e 2) {tm:=[(1,dP 0 0),(2,dP 1 0),(3,dP 2 0)],ob:=obE k n s a}=(brT b (Ow (CQ 63 [dA A] [] (dL es []) []) (Jm (cut Z2e 0) {tm:=[(2,dP 1 0),(3,dP 2 0),(16,dL es []),(17,dI (↑(List.length es):Int)),(18,dI 0)],ob:=[(0,oC A),(1,oC [D.nils]),(2,oC [dI 0])]})) (Ow (CQ 63 [dA A] [] (D.pan Qa) []) (Ow (Sx.CallD Tryz.prog (FrameMode.panicking [{v:=Qa,recovered:=false}]) (dF 62 [] [dP 0 0,dP 1 0]) [B,(1,oC [dI 0])] λu0 ob0=>u0=FrameMode.panicking [{v:=Qa,recovered:=true}]/\ob0=[B,(1,oC [dI 5])]) (Rt (D.tuple [D.nils,dI 5]) []))):Tr):=by intro A B;kernel_rfl
def obE1 (k n:Int) (s:LU) (a row:LD):Obs:=[(0,.cells [.int .u8 k,.int .i64 n,.str s,.slice a []]),(1,.cells [.vec 3]),(2,.cells [.int .i64 0]),(3,.arr false 4 25 row)]
def hdE (es:LD) (m i:Int) (ob:Obs):St:=⟨[(2,.ptr 1 0),(3,.ptr 2 0),(16,.slice es []),(17,.int .i64 m),(18,.int .i64 i)],ob⟩
theorem ZeT (k n:Int) (s:LU) (a es:LD) (m:Int) (i:Nat) (c nx:Int) (d:LU) (b:LD):let A:=[dU c,dI nx,dS d,dL b []];let B:=(0,oC [dU k,dI n,dS s,dL a []]);let C:=((↑i:Int)+(1:Int));let E:=tC c nx d b;let F:=cut Z2e 0;let G:=(2,oC [dI 0]);goT Tryz.prog (ctr (asmP (dA E)) Qr (eOne E)) 3 (Z6W Tryz.prog tDE 0 3 Z5q clE) 2000 F (hdE es m (↑i:Int) (obE k n s a))=(brT (decide ((↑i:Int)<m)) (Ow ((0:Int)<=(↑i:Int)/\es[Int.toNat (↑i:Int)]? = some A) (Ow (FK 64 [dA A] (dA A)) (Ow (Ze 4 [[dU 0,dI 0,dS [],dL [] []]]/\1<=1073741824) (Ow ((0:Int)<=(0:Int)/\(0:Int)<(↑(1:Nat):Int)) (Ow (0<1) (I8 C (Jm F {tm:=[(2,dP 1 0),(3,dP 2 0),(16,dL es []),(17,dI m),(18,dI C)],ob:=[B,(1,oC [dV 3]),G,(3,oR false 4 25 [A])]}))))))) (Jm (frg Z2e 3) {tm:=[(2,dP 1 0),(3,dP 2 0)],ob:=[B,(1,oC [D.nils]),G]}):Tr):=by intro A B C E F G;kernel_rfl
theorem ZeS (k n:Int) (s:LU) (a row es:LD) (m:Int) (i:Nat) (c nx:Int) (d:LU) (b:LD):let A:=[dU c,dI nx,dS d,dL b []];let B:=[[dU 0,dI 0,dS [],dL [] []]];let C:=(↑(List.length row):Int);let E:=(0,oC [dU k,dI n,dS s,dL a []]);let F:=((↑i:Int)+(1:Int));let G:=tC c nx d b;let H:=cut Z2e 0;let I:=(1,oC [dV 3]);let J:=(2,oC [dI 0]);goT Tryz.prog (ctr (asmP (dA G)) Qr (eOne G)) 3 (Z6W Tryz.prog tDE 0 3 Z5q clE) 2000 H (hdE es m (↑i:Int) (obE1 k n s a row))=(brT (decide ((↑i:Int)<m)) (Ow ((0:Int)<=(↑i:Int)/\es[Int.toNat (↑i:Int)]? = some A) (Ow (FK 64 [dA A] (dA A)) (Ow (Ze 4 B/\List.length row+1<=1073741824) (Ow ((0:Int)<=C/\C<(↑(List.length (row++B)):Int)) (Ow (Int.toNat C<List.length (row++B)) (I8 F (Jm H {tm:=[(2,dP 1 0),(3,dP 2 0),(16,dL es []),(17,dI m),(18,dI F)],ob:=[E,I,J,(3,oR false 4 25 (List.set (row++B) (Int.toNat C) A))]}))))))) (Jm (frg Z2e 3) {tm:=[(2,dP 1 0),(3,dP 2 0)],ob:=[E,I,J,(3,oR false 4 25 row)]}):Tr):=by intro A B C E F G H I J;kernel_rfl
theorem Znj (k n:Int) (s:LU) (a:LD):let A:=[(0,oC [D.nils]),(1,oC [dI 0])];goT Tryz.prog (ctr libT) 3 (Z6W Tryz.prog tDE 0 3 Z5q clE) 2000 (frg Z2e 3) {tm:=[(2,dP 1 0),(3,dP 2 0)],ob:=obE k n s a}=(Ow (Sx.CallD Tryz.prog FrameMode.returning (dF 62 [] [dP 0 0,dP 1 0]) A λu0 ob0=>u0=FrameMode.returning/\ob0=A) (Rt (D.tuple [D.nils,dI 0]) []):Tr):=by intro A;kernel_rfl
theorem Zni (k n:Int) (s:LU) (a row:LD):let A:=[(0,oC [dV 2]),(1,oC [dI 0]),(2,oR false 4 25 row)];goT Tryz.prog (ctr libT) 3 (Z6W Tryz.prog tDE 0 3 Z5q clE) 2000 (frg Z2e 3) {tm:=[(2,dP 1 0),(3,dP 2 0)],ob:=obE1 k n s a row}=(Ow (Sx.CallD Tryz.prog FrameMode.returning (dF 62 [] [dP 0 0,dP 1 0]) A λu0 ob0=>u0=FrameMode.returning/\ob0=A) (Rt (D.tuple [dV 0,dI 0]) [(0,oR false 4 25 row)]):Tr):=by intro A;kernel_rfl
def rcvO:SC->List SOp
 |.seq (.spec (.rcv _ ops)) _=>ops
 |_=>[]
def rcvB:SC->SC
 |.seq (.spec (.rcv _ _)) b=>b
 |c=>c
def stR (u:FrameMode) (ob:Obs):St:=⟨(5,.raw (recM u).1)::Z8 5 (ZM 0 [.ptr 0 0,.ptr 1 0]),ob⟩
def obR0:Obs:=[(0,.cells [.nils]),(1,.cells [.int .i64 0])]
def obR1 (row:LD):Obs:=[(0,.cells [.vec 2]),(1,.cells [.int .i64 0]),(2,.arr false 4 25 row)]
theorem Znp (z:Nat):goRc Tryz.prog (ctr libT) 2 2000 (rcvO Z5o) (rcvB Z5o) (stR FrameMode.returning obR0)=(Rt (D.tuple []) [(0,oC [D.nils]),(1,oC [dI 0])]:Tr):=by kernel_rfl
theorem Zno (row:LD):goRc Tryz.prog (ctr libT) 3 2000 (rcvO Z5o) (rcvB Z5o) (stR FrameMode.returning (obR1 row))=(Rt (D.tuple []) [(0,oC [dV 2]),(1,oC [dI 0]),(2,oR false 4 25 row)]:Tr):=by kernel_rfl
theorem Zt8 (z:Nat):goRc Tryz.prog (ctr libT) 2 2000 (rcvO Z5o) (rcvB Z5o) (stR (FrameMode.panicking [{v:=Qa,recovered:=false}]) obR0)=(Rt (D.tuple []) [(0,oC [D.nils]),(1,oC [dI 5])]:Tr):=by kernel_rfl
theorem fnD:FnC Tryz.prog 62 10 (.seq (.spec (.rcv 5 (rcvO Z5o))) (rcvB Z5o)) []:=Zuu.1
theorem ZlL:Sx.CallD Tryz.prog .returning (.func (.func 62) [] [.ptr 0 0,.ptr 1 0]) obR0 λu o=>u=.returning/\o=obR0 :=
 CallD.tree Z3 fnD (first:=[]) (Z2 Z1 Z0) (Znp 0) ⟨rfl,rfl⟩
theorem ZlK (row:LD):Sx.CallD Tryz.prog .returning (.func (.func 62) [] [.ptr 0 0,.ptr 1 0]) (obR1 row) λu o=>u=.returning/\o=obR1 row :=
 CallD.tree Z3 fnD (first:=[]) (Z2 Z1 Z0) (Zno row) ⟨rfl,rfl⟩
theorem Zs2:Sx.CallD Tryz.prog (.panicking [⟨Qa,false,false⟩]) (.func (.func 62) [] [.ptr 0 0,.ptr 1 0]) obR0 λu o=>u=.panicking [⟨Qa,true,false⟩]/\o=[(0,.cells [.nils]),(1,.cells [.int .i64 5])] :=
 CallD.tree Z3 fnD (first:=[]) (Z2 Z1 Z0) (Zt8 0) ⟨rfl,rfl⟩
abbrev QE (R:D->Obs->Prop):Exit->St->Prop:=DefQ Tryz.prog 0 3 Z5q clE (RE false R)
abbrev RV1 (l:List Tm):D->Obs->Prop:=λr o=>r=.tuple [.vec 0,.int .i64 0]/\o=[(0,.arr false 4 25 (Tm.cellsL l))]
theorem ZrD (k:Nat) (n:Int) (s:LU) (a:LD) (l:List Tm) (hl:l.length<=1000) (H: ∀ y∈l,CopP y): ∀ (m i:Nat),l.length-i=m->i<=l.length →
  At Tryz.prog 3 (cut Z2e 0) (hdE (Tm.cellsL l) l.length i (obE1 k n s a (Tm.cellsL (l.take i)))) (QE (RV1 l)):=by
 intro m;induction m with
 |zero =>
  intro i hm hi;refine At.treeD (Z2 (Zm _) Z0) (ZeS k n s a (Tm.cellsL (l.take i)) (Tm.cellsL l) l.length i 0 0 [] []) ?_;rw[List.take_of_length_le (show l.length<=i by omega)];simp only[SS];refine⟨λh=>by omega,λ_=>?_⟩;refine At.treeD (Z2 Z1 Z0) (Zni k n s a (Tm.cellsL l)) ?_;exact⟨ZlK _,rfl,rfl⟩
 |succ m o =>
  intro i hm hi;have h1:i<l.length:=by omega
  have hx:=ZN h1;have e:=H _ (List.getElem_mem h1);have f:=o (i+1) (by omega) (by omega);have j:Tm.cellsL (l.take (i+1))=Tm.cellsL (l.take i)++[l[i].cells]:=by
   rw[List.take_add_one,List.getElem?_eq_getElem h1,Qc];rfl
  have b:(Tm.cellsL (l.take i)).length=i:=by rw[Z5,List.length_take];omega
  have d: ∀ c:List D,(Tm.cellsL (l.take i)++[[dU 0,dI 0,dS [],dL [] []]]).set i c=Tm.cellsL (l.take i)++[c]:=λc=>by
   have:=Z9a (Tm.cellsL (l.take i)) [dU 0,dI 0,dS [],dL [] []] c;rwa [b] at this
  rw[j] at f;unfold CopP at e;generalize l[i]=x at hx e f;obtain⟨p,nx,q,g⟩:=x;refine At.treeD (Z2 (Zm _) Z0) (ZeS k n s a (Tm.cellsL (l.take i)) (Tm.cellsL l) l.length i p nx q (Tm.cellsL g)) ?_;simp only[SS,b,List.length_append,List.length_cons,List.length_nil,d];exact⟨λ_=>⟨⟨by omega,hx⟩,e,⟨by simp[Ze],by omega⟩,by omega,by omega,by omega,f⟩,λh=>by omega⟩
theorem Zls (k:Nat) (n:Int) (s:LU) (a:LD) (l:List Tm) (hl:l.length<=1000) (H: ∀ y∈l,CopP y) (e:l≠[]) :
  At Tryz.prog 3 (cut Z2e 0) (hdE (Tm.cellsL l) l.length 0 (obE k n s a)) (QE (RV1 l)):=by
 match l,e,H,hl with
 |x::r,_,H,hl =>
  have f:=H x (List.mem_cons_self ..);have g:=ZrD k n s a (x::r) hl H _ 1 rfl (by simp);unfold CopP at f;obtain⟨c,nx,d,b⟩:=x;refine At.treeD (Z2 (Zm _) Z0) (ZeT k n s a (Tm.cellsL (.mk c nx d b::r)) (.mk c nx d b::r:List Tm).length 0 c nx d (Tm.cellsL b)) ?_;have hp:(0:Int)<((Tm.mk c nx d b::r:List Tm).length:Int):=by simp only[List.length_cons];omega
  have h0:(Tm.cellsL (.mk c nx d b::r))[0]? = some [.int .u8 c,.int .i64 nx,.str d,.slice (Tm.cellsL b) []]:=rfl;simp only[SS];exact⟨λ_=>⟨⟨by omega,h0⟩,f,⟨by simp[Ze],by omega⟩,by decide,by decide,by omega,g⟩,λh=>by omega⟩
def xrL:XR->List Tm
 |.ok l=>l
 |_=>[]
def xrE:XR->Int
 |.ok _=>0
 |.many=>5
 |.arg=>2
def xrR:XR->D->Obs->Prop:=λx=>match x with
 |.ok (y::r)=>RV1 (y::r)
 |x=>λr o=>r=.tuple [.nils,.int .i64 (xrE x)]/\o=[]
theorem ZhR: ∀ (x:Tm) {a b:Nat},a<=b->x.few a->x.few b
 |.mk k n s l,a,b,h,hx=>by
  simp only[Tm.few] at hx ⊢;exact⟨Nat.le_trans hx.1 h,Qu.2 λy c=>ZhR y h (Qu.1 hx.2 y c)⟩
termination_by x=>SizeOf.sizeOf x
decreasing_by
 have:=List.sizeOf_lt_of_mem c;simp only[Tm.mk.sizeOf_spec];omega
theorem Z6s: ∀ (v:Tm),v.all Tm.shape=true->v.few 1000
 |.mk k n s l,hs=>by
  have hs:=ZI.1 hs;simp only[Tm.few];have IH: ∀ y∈l,y.few 1000:=λy a=>Z6s y (hs.2 y a);refine⟨?_,Qu.2 IH⟩;have h1:=hs.1;simp only[Tm.shape,Qi] at h1
  (repeat' split at h1)<;>simp_all<;>omega
termination_by v=>SizeOf.sizeOf v
decreasing_by
 have:=List.sizeOf_lt_of_mem a;simp only[Tm.mk.sizeOf_spec];omega
theorem Zlq (x:Tm) (hx:x.wf 281474976710656) (p:x.depth<=1000000000):CF 38 [.agg x.cells] [] (xrR x.expd):=by
 have hv:=Z8S x hx p;have i:=Z6N x hx;have b:x.valid=true->x.few 1000:=λh=>Z6s x (Z21.1 h).2;have c:x.valid=true->x.all Tm.shape=true:=λh=>(Z21.1 h).2;unfold Tm.expd;generalize q:x.valid=v at hv b c;generalize e:x.all Tm.gr=g at i;obtain⟨k,n,s,a⟩:=x;refine CallL.treeD Z3 Zuv (Z9 Z0) (Zt4 k n s (Tm.cellsL a) v g) ?_;rw[Z4,Zs,Z4,Zs];refine⟨hv,λh=>?_,λh=>⟨i,λh'=>?_,λh'=>?_⟩⟩
 ·have:v=false:=by simpa using h
  subst this;exact⟨rfl,rfl⟩
 ·have:g=false:=by simpa using h'
  subst this;simp only[Bool.and_false,Bool.false_eq_true,if_false];exact⟨rfl,rfl⟩
 ·have j:v=true:=by simpa using h
  have m:g=true:=by simpa using h'
  subst j;subst m;simp only[Bool.and_self,if_true];refine KDef.at (k2:=3) 62 [] [.ptr 1 0,.ptr 2 0] rfl (by kernel_rfl) (Nat.le_of_ble_eq_true rfl) (Nat.zero_le _) (Nat.le_of_ble_eq_true rfl) ?_;refine At.treeD (Z2 Z1 Z0) (Zt3 k n s (Tm.cellsL a)) ?_;rw[Z6];cases d:(Tm.mk k n s a).xp with
  |none =>
   have f:=Zdx _ (b rfl) (c rfl) e d;refine At.treeD (Z2 Z1 (Z1g _ _ _)) (Zin k n s (Tm.cellsL a) false []) ?_;rw[Zs];refine⟨λh=>(Bool.noConfusion h),λ_=>⟨f,Zs2,rfl,rfl⟩⟩
  |some l =>
   have f:=FnOK.callS ZpY (Z8j _ l (b rfl) (c rfl) e d);have hl:=Zbr d;have H: ∀ y∈l,CopP y:=λy t=>by
    have:=Z1i _ l y (c rfl) e d t;exact ZdW y (ZhR y (by decide) (Z5a y this.2.1 this.1).1)
   refine At.treeD (Z2 Z1 (Z1g _ _ _)) (Zin k n s (Tm.cellsL a) true (Tm.cellsL l)) ?_;rw[Zs];refine⟨λ_=>⟨f,?_⟩,λh=>(Bool.noConfusion h)⟩;cases l with
   |nil =>
    refine At.treeD (Z2 (Zm _) Z0) (ZeT k n s (Tm.cellsL a) [] 0 0 0 0 [] []) ?_;simp only[SS];refine⟨λh=>by omega,λ_=>?_⟩;refine At.treeD (Z2 Z1 Z0) (Znj k n s (Tm.cellsL a)) ?_;exact⟨ZlL,rfl,rfl⟩
   |cons y r =>
    have o:=Zls k n s (Tm.cellsL a) (y::r) hl H (by simp);rw[Z6,Z5];exact o
theorem ZpX:ZC Tryz.prog 38=true:=by kernel_rfl
theorem Zdy (x:Tm) (hx:x.wf 281474976710656) (c:x.depth<=1000000000):FK 38 [.agg x.cells] (.tuple [.slice (Tm.cellsL (xrL x.expd)) [],.int .i64 (xrE x.expd)]):=by
 have a:=Zlq x hx c;generalize x.expd=e at a;have b: ∀ e:XR,xrL e=[]->CF 38 [.agg x.cells] [] (λr o=>r=.tuple [.nils,.int .i64 (xrE e)]/\o=[])->FK 38 [.agg x.cells] (.tuple [.slice (Tm.cellsL (xrL e)) [],.int .i64 (xrE e)]):=λe d a=>by
  rw[d];exact FnOK.of_call ZpX (a.mono λr ob ⟨h1,h2⟩=>by subst h1;subst h2;exact .inr ⟨rfl,rfl⟩)
 match e,a with
 |.many,a=>exact b .many rfl a
 |.arg,a=>exact b .arg rfl a
 |.ok [],a=>exact b (.ok []) rfl a
 |.ok (y::r),a =>
  exact FnOK.of_call ZpX (a.mono λr0 ob ⟨h1,h2⟩=>by subst h1;subst h2;exact .inr ⟨rfl,rfl⟩)
end Go.Proofs.YtaclfbhhekhflaaGreatDoor
/- subterms,visit: what Vars wants of them. -/
namespace Go.Proofs.YtaclfbhhekhflaaGreatDoor.S
open Go.Sx
theorem Z8N (k n:Int) (s:LU) (a:LD):let A:=[dU k,dI n,dS s,dL a []];gC (ctr libT) 0 rs83 sc83 [] [dA A] [] []=(Rt (dF 113 [] [dP 0 0]) [(0,oC A)]:Tr):=by intro A;kernel_rfl
def subQ:QT:=λd xs ob=>match d,xs,ob with
 |.func (.func f) [] [],[.agg [.int .u8 k,.int .i64 n,.str s,.slice a []]],[]=>if f=83 then some (.ok True (.func (.func 113) [] [.ptr 0 0]) [(0,.cells [.int .u8 k,.int .i64 n,.str s,.slice a []])]) else none
 |_,_,_=>none
theorem Z7y:subQ.OK:=by
 intro d xs ob rt h;unfold subQ at h;split at h
 ·split at h
  ·rename_i hf;subst hf;cases h;intro _;exact CallL.tree Z3 fp83 (Z2 Z1 Z0) (Z8N _ _ _ _) ⟨rfl,rfl⟩
  ·cases h
 ·cases h
abbrev tC (k n:Int) (s:LU) (a:LD):List D:=[.int .u8 k,.int .i64 n,.str s,.slice a []]
def hdVi (a:LD) (m i:Int) (ob:Obs):St:=⟨[(1,.yld 0),(12,.slice a []),(13,.int .i64 m),(14,.int .i64 i)],ob⟩
def asmA (r:D) (g:Obs->Obs):QT:=λd xs ob=>some (.ok (CallL Tryz.prog d xs ob λr0 ob0=>r0=r/\ob0=g ob) r (g ob))
theorem Za (r:D) (g:Obs->Obs):(asmA r g).OK:=by intro d xs ob rt h;cases h;exactλhp=>hp
end Go.Proofs.YtaclfbhhekhflaaGreatDoor.S
/- Vars: its text,told so that what it gathers is written in place. -/
namespace Go.Proofs.YtaclfbhhekhflaaGreatDoor.S
open Go.Sx
set_option maxRecDepth 100000
abbrev scV:SC:=sc70
theorem fpV:FnC Tryz.prog 70 19 scV rs70/\ZC Tryz.prog 70=true:=fp70
def Zd1:List Nat:=[5,4,2,1,0]
def dsV (k n:Int) (s:LU) (a:LD) (t0 q u:Nat):List D:=[.func (.func 113) [] [.ptr t0 0],.agg (tC k n s a),.ptr q 0,.ptr u 0,.agg (tC k n s a)]
def recV (ds:List D):Ob:=.gen (.loop .ready none #[6] (scV.rngA 0) (scV.rngB 0) 19 Zd1) ds
def obN (k n:Int) (s:LU) (a:LD):Obs:=[(0,recV (dsV k n s a 1 2 3)),(1,.cells (tC k n s a)),(2,.cells [.nils]),(3,.cells (tC k n s a))]
def obA (k n:Int) (s:LU) (a:LD) (j:Nat) (o:LD):Obs:=[(0,recV (dsV k n s a 1 2 3)),(1,.cells (tC k n s a)),(2,.cells [.vec j]),(3,.cells (tC k n s a)),(j,.arr false 1 9 o)]
theorem Zsh (c nx:Int) (b:LU) (d:LD) (k n:Int) (s:LU) (a:LD):let A:=tC k n s a;let B:=[dF 113 [] [dP 1 0],dA A,dP 2 0,dP 3 0,dA A];let C:=dsV k n s a 1 2 3;let E:=(2,oC [D.nils]);yldT Tryz.prog (ctr libT) 4 0 19 #[6] (SC.rngA scV 0) (SC.rngB scV 0) Zd1 C 2000 {tm:=putP (List.zip [6] [dA (tC c nx b d)]) (List.zip Zd1 C),ob:=[(1,oC A),E,(3,oC A)]}=(brT (decide (c=(3:Int))) (Ow (Ze 1 [[dS b]]/\1<=1073741824) (Rt (dB true) [(0,gL .ready none #[6] scV 0 19 [5,4,2,1,0] B),(1,oC A),(2,oC [dV 4]),(3,oC A),(4,oR false 1 9 [[dS b]])])) (Rt (dB true) [(0,gL .ready none #[6] scV 0 19 [5,4,2,1,0] B),(1,oC A),E,(3,oC A)]):Tr):=by intro A B C E;kernel_rfl
theorem Zen (c nx:Int) (b:LU) (d:LD) (k n:Int) (s:LU) (a o:LD):let A:=tC k n s a;let B:=[dF 113 [] [dP 1 0],dA A,dP 2 0,dP 3 0,dA A];let C:=dsV k n s a 1 2 3;let E:=(4,oR false 1 9 o);let F:=(2,oC [dV 4]);yldT Tryz.prog (ctr libT) 5 0 19 #[6] (SC.rngA scV 0) (SC.rngB scV 0) Zd1 C 2000 {tm:=putP (List.zip [6] [dA (tC c nx b d)]) (List.zip Zd1 C),ob:=[(1,oC A),F,(3,oC A),E]}=(brT (decide (c=(3:Int))) (Ow (Ze 1 [[dS b]]/\List.length o+1<=1073741824) (Rt (dB true) [(0,gL .ready none #[6] scV 0 19 [5,4,2,1,0] B),(1,oC A),(2,oC [dV 5]),(3,oC A),(5,oR false 1 9 (o++[[dS b]]))])) (Rt (dB true) [(0,gL .ready none #[6] scV 0 19 [5,4,2,1,0] B),(1,oC A),F,(3,oC A),E]):Tr):=by intro A B C E F;kernel_rfl
def addO (l:LD):Obs->Obs
 |[(0,r),(1,c),(2,.cells [.nils]),(3,d)]=>[(0,r),(1,c),(2,.cells [.vec 4]),(3,d),(4,.arr false 1 9 l)]
 |[(0,r),(1,c),(2,.cells [.vec 4]),(3,d),(4,.arr fz sz ty o)]=>[(0,r),(1,c),(2,.cells [.vec 5]),(3,d),(5,.arr fz sz ty (o++l))]
 |ob=>ob
def asmY (r0:D) (e:Bool) (l:LD):QT:=λd xs ob=>match d with
 |.func (.func f) fa a=>if f=72\/f=104 then none else some (.br e (.ok (CallL Tryz.prog (.func (.func f) fa a) xs ob λr o=>r=r0/\o=ob) r0 ob) (.ok (CallL Tryz.prog (.func (.func f) fa a) xs ob λr o=>r=r0/\o=addO l ob) r0 (addO l ob)))
 |d=>some (.br e (.ok (CallL Tryz.prog d xs ob λr o=>r=r0/\o=ob) r0 ob) (.ok (CallL Tryz.prog d xs ob λr o=>r=r0/\o=addO l ob) r0 (addO l ob)))
theorem QM (r0:D) (e:Bool) (l:LD):(asmY r0 e l).OK:=by
 intro d xs ob rt h;unfold asmY at h;split at h
 ·split at h
  ·cases h
  ·cases h;cases e
   ·exactλhp=>hp
   ·exactλhp=>hp
 ·cases h;cases e
  ·exactλhp=>hp
  ·exactλhp=>hp
def asmS (o2 o3:LD):QT:=λd xs ob=>match d,ob with
 |.func (.func f) [] [],[(0,.arr false 1 ty o)]=>if f=72 then some (.ok (CallL Tryz.prog (.func (.func f) [] []) xs [(0,.arr false 1 ty o)] λr ob=>r=.tuple []/\ob=[(0,.arr false 1 ty o2)]) (.tuple []) [(0,.arr false 1 ty o2)])
  else if f=104 then some (.ok (CallL Tryz.prog (.func (.func f) [] []) xs [(0,.arr false 1 ty o)] λr ob=>r=.vec 1/\ob=[(1,.arr true 1 ty o3)]) (.vec 1) [(1,.arr true 1 ty o3)]) else none
 |.func (.func f) [] [],[]=>if f=72 then some (.ok (CallL Tryz.prog (.func (.func f) [] []) xs [] λr ob=>r=.tuple []/\ob=[]) (.tuple []) [])
  else if f=104 then some (.ok (CallL Tryz.prog (.func (.func f) [] []) xs [] λr ob=>r=.slice [] []/\ob=[]) (.slice [] []) []) else none
 |_,_=>none
theorem ZlU (o2 o3:LD):(asmS o2 o3).OK:=by
 intro d xs ob rt h;unfold asmS at h;split at h
 ·split at h
  ·cases h;exactλhp=>hp
  ·split at h
   ·cases h;exactλhp=>hp
   ·cases h
 ·split at h
  ·cases h;exactλhp=>hp
  ·split at h
   ·cases h;exactλhp=>hp
   ·cases h
 ·cases h
theorem Znr (c nx:Int) (d:LU) (b:LD) (k n:Int) (s:LU) (a:LD) (e:Bool) (l:LD):let A:=[dF 113 [] [dP 1 0],dA (tC k n s a),dP 2 0,dP 3 0,dA (tC k n s a)];let B:=tC k n s a;let C:=[(1,D.yld 0),(12,dL b []),(13,dI (↑(List.length b):Int)),(14,dI 0)];let E:=(2,oC [D.nils]);let F:=tC c nx d b;let G:=(4,oR false 1 9 l);let H:=cut Z1I 0;let I:=(2,oC [dV 4]);gC (ctr libT (asmY (dB true) e l)) 4 Z2G Z1I [] [dA F,D.yld 0] [] (obN k n s a)=(brT e (Ow (CallL Tryz.prog (D.yld 0) [dA F] [(0,gL .ready none #[6] scV 0 19 [5,4,2,1,0] A),(1,oC B),E,(3,oC B)] λr o=>r=dB true/\o=[(0,gL .ready none #[6] scV 0 19 [5,4,2,1,0] A),(1,oC B),E,(3,oC B)]) (Jm H {tm:=C,ob:=[(0,gL .ready none #[6] scV 0 19 [5,4,2,1,0] A),(1,oC B),E,(3,oC B)]})) (Ow (CallL Tryz.prog (D.yld 0) [dA F] [(0,gL .ready none #[6] scV 0 19 [5,4,2,1,0] A),(1,oC B),E,(3,oC B)] λr o=>r=dB true/\o=[(0,gL .ready none #[6] scV 0 19 [5,4,2,1,0] A),(1,oC B),I,(3,oC B),G]) (Jm H {tm:=C,ob:=[(0,gL .ready none #[6] scV 0 19 [5,4,2,1,0] A),(1,oC B),I,(3,oC B),G]})):Tr):=by intro A B C E F G H I;kernel_rfl
theorem Zns (d nx:Int) (f:LU) (c:LD) (k n:Int) (s:LU) (a o:LD) (e:Bool) (l:LD):let A:=[dF 113 [] [dP 1 0],dA (tC k n s a),dP 2 0,dP 3 0,dA (tC k n s a)];let B:=tC k n s a;let C:=[(1,D.yld 0),(12,dL c []),(13,dI (↑(List.length c):Int)),(14,dI 0)];let E:=(4,oR false 1 9 o);let F:=(2,oC [dV 4]);let G:=tC d nx f c;let H:=(5,oR false 1 9 (o++l));let I:=cut Z1I 0;let J:=(2,oC [dV 5]);gC (ctr libT (asmY (dB true) e l)) 5 Z2G Z1I [] [dA G,D.yld 0] [] (obA k n s a 4 o)=(brT e (Ow (CallL Tryz.prog (D.yld 0) [dA G] [(0,gL .ready none #[6] scV 0 19 [5,4,2,1,0] A),(1,oC B),F,(3,oC B),E] λr b=>r=dB true/\b=[(0,gL .ready none #[6] scV 0 19 [5,4,2,1,0] A),(1,oC B),F,(3,oC B),E]) (Jm I {tm:=C,ob:=[(0,gL .ready none #[6] scV 0 19 [5,4,2,1,0] A),(1,oC B),F,(3,oC B),E]})) (Ow (CallL Tryz.prog (D.yld 0) [dA G] [(0,gL .ready none #[6] scV 0 19 [5,4,2,1,0] A),(1,oC B),F,(3,oC B),E] λr b=>r=dB true/\b=[(0,gL .ready none #[6] scV 0 19 [5,4,2,1,0] A),(1,oC B),J,(3,oC B),H]) (Jm I {tm:=C,ob:=[(0,gL .ready none #[6] scV 0 19 [5,4,2,1,0] A),(1,oC B),J,(3,oC B),H]})):Tr):=by intro A B C E F G H I J;kernel_rfl
theorem Zic (b:LD) (m i d nx:Int) (f:LU) (c:LD) (k n:Int) (s:LU) (a:LD) (e:Bool) (l:LD):let A:=[dF 113 [] [dP 1 0],dA (tC k n s a),dP 2 0,dP 3 0,dA (tC k n s a)];let B:=tC k n s a;let C:=(2,oC [D.nils]);let E:=[(1,D.yld 0),(12,dL b []),(13,dI m),(14,dI (i+(1:Int)))];let F:=tC d nx f c;let G:=cut Z1I 0;let H:=(4,oR false 1 9 l);let I:=[dA F,D.yld 0];let J:=(2,oC [dV 4]);let K:=(i+(1:Int));gH (ctr libT (asmY (dB true) e l) λx g=>tC d nx f c) 4 false Z2G G (hdVi b m i (obN k n s a))=(brT (decide (i<m)) (Ow ((0:Int)<=i/\b[Int.toNat i]? = some F) (brT e (Ow (CF 114 I [(0,gL .ready none #[6] scV 0 19 [5,4,2,1,0] A),(1,oC B),C,(3,oC B)] λr o=>r=dB true/\o=[(0,gL .ready none #[6] scV 0 19 [5,4,2,1,0] A),(1,oC B),C,(3,oC B)]) (I8 K (Jm G {tm:=E,ob:=[(0,gL .ready none #[6] scV 0 19 [5,4,2,1,0] A),(1,oC B),C,(3,oC B)]}))) (Ow (CF 114 I [(0,gL .ready none #[6] scV 0 19 [5,4,2,1,0] A),(1,oC B),C,(3,oC B)] λr o=>r=dB true/\o=[(0,gL .ready none #[6] scV 0 19 [5,4,2,1,0] A),(1,oC B),J,(3,oC B),H]) (I8 K (Jm G {tm:=E,ob:=[(0,gL .ready none #[6] scV 0 19 [5,4,2,1,0] A),(1,oC B),J,(3,oC B),H]}))))) (Rt (dB true) [(0,gL .ready none #[6] scV 0 19 [5,4,2,1,0] A),(1,oC B),C,(3,oC B)]):Tr):=by intro A B C E F G H I J K;kernel_rfl
theorem Zid (c:LD) (m i f nx:Int) (g:LU) (d:LD) (k n:Int) (s:LU) (a o:LD) (e:Bool) (l:LD):let A:=[dF 113 [] [dP 1 0],dA (tC k n s a),dP 2 0,dP 3 0,dA (tC k n s a)];let B:=tC k n s a;let C:=(4,oR false 1 9 o);let E:=(2,oC [dV 4]);let F:=[(1,D.yld 0),(12,dL c []),(13,dI m),(14,dI (i+(1:Int)))];let G:=tC f nx g d;let H:=cut Z1I 0;let I:=[dA G,D.yld 0];let J:=(i+(1:Int));gH (ctr libT (asmY (dB true) e l) λx h=>tC f nx g d) 4 false Z2G H (hdVi c m i (obA k n s a 4 o))=(brT (decide (i<m)) (Ow ((0:Int)<=i/\c[Int.toNat i]? = some G) (brT e (Ow (CF 114 I [(0,gL .ready none #[6] scV 0 19 [5,4,2,1,0] A),(1,oC B),E,(3,oC B),C] λr b=>r=dB true/\b=[(0,gL .ready none #[6] scV 0 19 [5,4,2,1,0] A),(1,oC B),E,(3,oC B),C]) (I8 J (Jm H {tm:=F,ob:=[(0,gL .ready none #[6] scV 0 19 [5,4,2,1,0] A),(1,oC B),E,(3,oC B),C]}))) (Ow (CF 114 I [(0,gL .ready none #[6] scV 0 19 [5,4,2,1,0] A),(1,oC B),E,(3,oC B),C] λr b=>r=dB true/\b=[(0,gL .ready none #[6] scV 0 19 [5,4,2,1,0] A),(1,oC B),(2,oC [dV 5]),(3,oC B),(5,oR false 1 9 (o++l))]) (I8 J (Jm H {tm:=F,ob:=[(0,gL .ready none #[6] scV 0 19 [5,4,2,1,0] A),(1,oC B),E,(3,oC B),(4,oR false 1 9 (o++l))]}))))) (Rt (dB true) [(0,gL .ready none #[6] scV 0 19 [5,4,2,1,0] A),(1,oC B),E,(3,oC B),C]):Tr):=by intro A B C E F G H I J;kernel_rfl
theorem Zif (c:LD) (m i f nx:Int) (g:LU) (d:LD) (k n:Int) (s:LU) (a o:LD) (e:Bool) (l:LD):let A:=[dF 113 [] [dP 1 0],dA (tC k n s a),dP 2 0,dP 3 0,dA (tC k n s a)];let B:=tC k n s a;let C:=(4,oR false 1 9 o);let E:=[(1,D.yld 0),(12,dL c []),(13,dI m),(14,dI (i+(1:Int)))];let F:=(2,oC [dV 4]);let G:=tC f nx g d;let H:=cut Z1I 0;let I:=(5,oR false 1 9 (o++l));let J:=[dA G,D.yld 0];let K:=(2,oC [dV 5]);let L:=(i+(1:Int));gH (ctr libT (asmY (dB true) e l) λx h=>tC f nx g d) 5 false Z2G H (hdVi c m i (obA k n s a 4 o))=(brT (decide (i<m)) (Ow ((0:Int)<=i/\c[Int.toNat i]? = some G) (brT e (Ow (CF 114 J [(0,gL .ready none #[6] scV 0 19 [5,4,2,1,0] A),(1,oC B),F,(3,oC B),C] λr b=>r=dB true/\b=[(0,gL .ready none #[6] scV 0 19 [5,4,2,1,0] A),(1,oC B),F,(3,oC B),C]) (I8 L (Jm H {tm:=E,ob:=[(0,gL .ready none #[6] scV 0 19 [5,4,2,1,0] A),(1,oC B),F,(3,oC B),C]}))) (Ow (CF 114 J [(0,gL .ready none #[6] scV 0 19 [5,4,2,1,0] A),(1,oC B),F,(3,oC B),C] λr b=>r=dB true/\b=[(0,gL .ready none #[6] scV 0 19 [5,4,2,1,0] A),(1,oC B),K,(3,oC B),I]) (I8 L (Jm H {tm:=E,ob:=[(0,gL .ready none #[6] scV 0 19 [5,4,2,1,0] A),(1,oC B),K,(3,oC B),I]}))))) (Rt (dB true) [(0,gL .ready none #[6] scV 0 19 [5,4,2,1,0] A),(1,oC B),F,(3,oC B),C]):Tr):=by intro A B C E F G H I J K L;kernel_rfl
theorem Zie (c:LD) (m i f nx:Int) (g:LU) (d:LD) (k n:Int) (s:LU) (a o:LD) (e:Bool) (l:LD):let A:=[dF 113 [] [dP 1 0],dA (tC k n s a),dP 2 0,dP 3 0,dA (tC k n s a)];let B:=tC k n s a;let C:=[(1,D.yld 0),(12,dL c []),(13,dI m),(14,dI (i+(1:Int)))];let E:=(2,oC [dV 5]);let F:=(4,oR false 1 9 o);let G:=tC f nx g d;let H:=cut Z1I 0;let I:=(2,oC [dV 4]);let J:=(5,oR false 1 9 (o++l));let K:=(5,oR false 1 9 o);let L:=[dA G,D.yld 0];let M:=(i+(1:Int));gH (ctr libT (asmY (dB true) e l) λx h=>tC f nx g d) 5 false Z2G H (hdVi c m i (obA k n s a 5 o))=(brT (decide (i<m)) (Ow ((0:Int)<=i/\c[Int.toNat i]? = some G) (brT e (Ow (CF 114 L [(0,gL .ready none #[6] scV 0 19 [5,4,2,1,0] A),(1,oC B),I,(3,oC B),F] λr b=>r=dB true/\b=[(0,gL .ready none #[6] scV 0 19 [5,4,2,1,0] A),(1,oC B),I,(3,oC B),F]) (I8 M (Jm H {tm:=C,ob:=[(0,gL .ready none #[6] scV 0 19 [5,4,2,1,0] A),(1,oC B),E,(3,oC B),K]}))) (Ow (CF 114 L [(0,gL .ready none #[6] scV 0 19 [5,4,2,1,0] A),(1,oC B),I,(3,oC B),F] λr b=>r=dB true/\b=[(0,gL .ready none #[6] scV 0 19 [5,4,2,1,0] A),(1,oC B),E,(3,oC B),J]) (I8 M (Jm H {tm:=C,ob:=[(0,gL .ready none #[6] scV 0 19 [5,4,2,1,0] A),(1,oC B),E,(3,oC B),J]}))))) (Rt (dB true) [(0,gL .ready none #[6] scV 0 19 [5,4,2,1,0] A),(1,oC B),E,(3,oC B),K]):Tr):=by intro A B C E F G H I J K L M;kernel_rfl
def obS (k n:Int) (s:LU) (a:LD):Obs:=[(0,.cells (tC k n s a)),(1,recV (dsV k n s a 0 2 3)),(2,.cells [.nils]),(3,.cells (tC k n s a))]
theorem Znq (k n:Int) (s:LU) (a:LD) (e:Bool) (l:LD):let A:=tC k n s a;let B:=[dF 113 [] [dP 1 0],dA A,dP 2 0,dP 3 0,dA A];let C:=[dF 113 [] [dP 0 0],dA A,dP 2 0,dP 3 0,dA A];let E:=(2,oC [D.nils]);let F:=(4,oR false 1 9 l);let G:=[dA A,D.yld 0];let H:=(2,oC [dV 4]);let I:=D.tuple [];gC (ctr libT (asmY (dB true) e l)) 4 ZfM ZfF [] [D.yld 1] [dP 0 0] (obS k n s a)=(brT e (Ow (CF 114 G [(0,gL .ready none #[6] scV 0 19 [5,4,2,1,0] B),(1,oC A),E,(3,oC A)] λr o=>r=dB true/\o=[(0,gL .ready none #[6] scV 0 19 [5,4,2,1,0] B),(1,oC A),E,(3,oC A)]) (Rt I [(0,oC A),(1,gL .ready none #[6] scV 0 19 [5,4,2,1,0] C),E,(3,oC A)])) (Ow (CF 114 G [(0,gL .ready none #[6] scV 0 19 [5,4,2,1,0] B),(1,oC A),E,(3,oC A)] λr o=>r=dB true/\o=[(0,gL .ready none #[6] scV 0 19 [5,4,2,1,0] B),(1,oC A),H,(3,oC A),F]) (Rt I [(0,oC A),(1,gL .ready none #[6] scV 0 19 [5,4,2,1,0] C),H,(3,oC A),F])):Tr):=by intro A B C E F G H I;kernel_rfl
theorem Zta (k n:Int) (s:LU) (a:LD) (e:Bool) (l o2 o3:LD):let A:=SC.block 1 (SC.seq (SC.reg [so 7 (AOp.faddr 0) [xt 3],so 8 (AOp.load false 1) [xt 7],so 9 (AOp.bin BinOp.eql) [xt 8,xc (dU 3)]]) (SC.cond (xt 9) (SC.reg [so 10 (AOp.load false 1) [xt 2],so 11 (AOp.faddr 2) [xt 3],so 12 (AOp.load false 1) [xt 11],so 13 (AOp.bslice true 1 1 9 [dS []] [(0,1)]) [xt 12],SOp.app 14 none false 1 9 (xt 10) (xt 13),SOp.st none (SK.c 1) (xt 2) (xt 14)]) SC.skip));let B:=SC.reg [so 3 (AOp.alloc [dU 0,dI 0,dS [],D.nils]) [],SOp.st none (SK.c 4) (xt 3) (xt 6)];let C:=[dF 113 [] [dP 0 0],dA (tC k n s a),dP 2 0,dP 3 0,dA (tC k n s a)];let E:=tC k n s a;let F:=(2,oC [D.nils]);let G:=[(0,oR false 1 9 o2)];let H:=dF 113 [] [dP 0 0];gP (ctr libT (QT.or (QT.or subQ (asmY (D.tuple []) e l)) (asmS o2 o3))) rs70 scV [dA E]=(Ow True (brT e (Ow (CallL Tryz.prog H [D.yld 1] [(0,oC E),(1,Ob.gen (Gen.loop LoopState.ready none #[6] B A 19 [5,4,2,1,0]) C),F,(3,oC E)] λr o=>r=D.tuple []/\o=[(0,oC E),(1,Ob.gen (Gen.loop LoopState.ready none #[6] B A 19 [5,4,2,1,0]) C),F,(3,oC E)]) (Ow (CF 72 [dL [] []] [] λr ob=>r=D.tuple []/\ob=[]) (Ow (CF 104 [dL [] []] [] λr ob=>r=dL [] []/\ob=[]) (Rt (dL [] []) [])))) (Ow (CallL Tryz.prog H [D.yld 1] [(0,oC E),(1,Ob.gen (Gen.loop LoopState.ready none #[6] B A 19 [5,4,2,1,0]) C),F,(3,oC E)] λr o=>r=D.tuple []/\o=[(0,oC E),(1,Ob.gen (Gen.loop LoopState.ready none #[6] B A 19 [5,4,2,1,0]) C),(2,oC [dV 4]),(3,oC E),(4,oR false 1 9 l)]) (Ow (CF 72 [dV 0] [(0,oR false 1 9 l)] λr ob=>r=D.tuple []/\ob=G) (Ow (CF 104 [dV 0] G λr ob=>r=dV 1/\ob=[(1,oR true 1 9 o3)]) (Rt (D.own 1 9 o3) []))))):Tr):=by intro A B C E F G H;kernel_rfl
end Go.Proofs.YtaclfbhhekhflaaGreatDoor.S
