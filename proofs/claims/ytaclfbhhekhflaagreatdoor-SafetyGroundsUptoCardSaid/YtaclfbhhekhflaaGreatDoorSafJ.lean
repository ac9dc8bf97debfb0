/- Own work: a layer over the kit: plain data,a walk over it,its soundness. -/
import Derived.Test.YtaclfbhhekhflaaGreatDoorSafD
import Derived.Test.YtaclfbhhekhflaaGreatDoorSx10
set_option linter.all false
set_option maxRecDepth 100000
/- AppendSeq,Collect,Sorted,set.sorted;Bound's trees. -/
noncomputable section
namespace Go.Proofs.YtaclfbhhekhflaaGreatDoor.S
open Go.Sx Go.RowKit
theorem ZbS {P:Program} {n bs:Nat} {a b:SC} {K:List Fr} {s:St} {Q:Exit->St->Prop} (h:swF P n bs (.sc a:: .sc b::K) s Q):swF P (n+1) bs (.sc (.seq a b)::K) s Q:=h
theorem Z3i {P:Program} {bs:Nat} {s:St} {K:St->Prop} (h:K s):stps P bs [] s K:=h
def outC (S:List Nm):List Nm->D × Obs
 |[]=>(.nils,obC (kS S) (uS S))
 |c::r=>(.vec 2,obCA (kS S) (uS S) (strC (c::r)))
def RC (S:List Nm):D->Obs->Prop:=λr ob=>∃ q:List Nm,q.Perm S/\r=(outC S q).1/\ob=(outC S q).2
theorem Zvu (S:List Nm) (b:S.length<=1073741823):CF 105 [.nils,.func (.func fY) [] [.ptr 0 0]] (obC (kS S) (uS S)) (RC S):=by
 refine CallL.tree Z3 Zrr (Z2 Z1 Z0) (ZtK (kS S) (uS S)) ?_;rw[Z6];refine⟨2001,Zfy (n:=2000) [0,7,1,6,4] (RP S) (by decide) ?_ ⟨fY,[],[.ptr 0 0],rfl,fp73.2⟩ (ZkW S b) ?_⟩
 ·intro i hi;simp only[List.mem_cons,List.not_mem_nil,or_false] at hi;rcases hi with rfl|rfl|rfl|rfl|rfl<;>rfl
 ·rintro r ob' ⟨rfl,q,a,rfl⟩;refine⟨rfl,?_,?_⟩
  ·cases q with
   |nil=>exact⟨_,_,_,_,_,_,rfl⟩
   |cons c r=>exact⟨_,_,_,_,_,_,rfl⟩
  ·cases q with
   |nil =>
    show swF _ 2000 2 frAp (bkAp (kS S) (uS S) (obPN (setO S))) _;refine swF.tree (n0:=0) (n:=2000) (Z2 Z1 Z0) (ZnQ (kS S) (uS S)) ?_;rw[Z7];exact⟨[],a,rfl,rfl⟩
   |cons c r =>
    show swF _ 2000 2 frAp (bkAp (kS S) (uS S) (obPA (setO S) 5 (strC (c::r)))) _;refine swF.tree (n0:=0) (n:=2000) (Z2 Z1 Z0) (ZnR (kS S) (uS S) (strC (c::r))) ?_;rw[Z7];exact⟨c::r,a,rfl,rfl⟩
theorem fr56:frg sc71 0=[.sc (.seq (.reg [so 3 .mv [xt 0],.cd (some 4) none (xc (.func (.func 105) [] [])) [xc .nils,xt 3],so 2 .mv [xt 4]]) .ret)]:=rfl
theorem Zbg (S:List Nm) (b:S.length<=1073741823):CF 71 [.func (.func fY) [] [.ptr 0 0]] (obC (kS S) (uS S)) (RC S):=by
 refine CallL.tree Z3 fp71 (Z2 Z1 Z0) (ZtI (kS S) (uS S)) ?_;rw[Z6,fr56];refine⟨2002,ZbS (ZbT (Z2D (ZbW [0,1] (RC S) (by decide) ?_ (Zvu S b) ?_)))⟩
 ·intro i hi;simp only[List.mem_cons,List.not_mem_nil,or_false] at hi;rcases hi with rfl|rfl<;>rfl
 ·rintro r ob' ⟨q,a,rfl,rfl⟩;cases q with
  |nil =>
   refine⟨rfl,Z2D (Z3i ?_)⟩;show swF _ 2000 2 [.sc .ret] (((St.back (stC (kS S) (uS S)) 4098 [0,1] (obC (kS S) (uS S))).put (some 4) .nils).put (some 2) .nils) _;refine swF.tree (n0:=0) (n:=2000) (Z2 Z1 Z0) (ZtG (kS S) (uS S)) ?_;rw[Z7];exact⟨[],a,rfl,rfl⟩
  |cons c r =>
   refine⟨rfl,Z2D (Z3i ?_)⟩;show swF _ 2000 2 [.sc .ret] (((St.back (stC (kS S) (uS S)) 4098 [0,1] (obCA (kS S) (uS S) (strC (c::r)))).put (some 4) (.vec 4100)).put (some 2) (.vec 4100)) _;refine swF.tree (n0:=0) (n:=2000) (Z2 Z1 Z0) (ZtH (kS S) (uS S) (strC (c::r))) ?_;rw[Z7];exact⟨c::r,a,rfl,rfl⟩
theorem fr38:frg sc44 0=.sc (.seq (.reg [so 4 .mv [xt 0],.cd (some 5) none (xc (.func (.func 71) [] [])) [xt 4],so 3 .mv [xt 5]]) (.seq (.spec (.frg [3])) (.seq (.reg [so 6 .mv [xt 3],.cd (some 7) none (xc (.func (.func 72) [] [])) [xt 6]]) (.seq (.spec (.frg [3])) (.seq (.reg [so 8 .mv [xt 3],so 2 .mv [xt 8]]) .ret)))))::[]:=rfl
theorem Zo9 {q:List Nm} (h:q≠[]):srt q≠[]:=λe=>h (by
 have:=(Z3j q).length_eq;rw[e] at this;exact List.length_eq_zero_iff.1 this.symm)
theorem Zay (S:List Nm) (k:S.length<=1073741823) (d:S.Nodup):CF 44 [.func (.func fY) [] [.ptr 0 0]] (obC (kS S) (uS S)) λr ob=>r=(outC S (srt S)).1/\ob=(outC S (srt S)).2:=by
 refine CallL.tree Z3 fp44 (Z2 Z1 Z0) (Ztq (kS S) (uS S)) ?_;rw[Z6,fr38];refine⟨6002,ZbS (ZbT (Z2D (ZbW [0,1] (RC S) (by decide) ?_ (Zbg S k) ?_)))⟩
 ·intro i hi;simp only[List.mem_cons,List.not_mem_nil,or_false] at hi;rcases hi with rfl|rfl<;>rfl
 ·rintro r ob' ⟨q,g,rfl,rfl⟩;have h:srt q=srt S:=Z97 (g.nodup_iff.2 d) d λx=>g.mem_iff;have l:=g.length_eq;rw[<- h];cases q with
  |nil =>
   refine⟨rfl,Z2D (Z3i ?_)⟩;show swF _ 6000 2 frS (((St.back (stS (kS S) (uS S)) 4098 [0,1] (obC (kS S) (uS S))).put (some 5) .nils).put (some 3) .nils) _;refine swF.tree (n0:=4000) (n:=2000) (Z2 Z1 Z0) (Zti (kS S) (uS S)) ?_;rw[Z6];refine swF.tree (n0:=2000) (n:=2000) (Z2 Z1 (Zw _ _)) (Zny (kS S) (uS S)) ?_;rw[Z4,Z6];refine⟨CallL.sortN fp72.2 λp cap w=>Tryz.slices_Sort_string_none p cap w,?_⟩;refine swF.tree (n0:=0) (n:=2000) (Z2 Z1 Z0) (Znx (kS S) (uS S)) ?_;rw[Z7];have e:srt ([]:List Nm)=[]:=by simp[srt]
   rw[e];exact⟨rfl,rfl⟩
  |cons c r =>
   refine⟨rfl,Z2D (Z3i ?_)⟩;show swF _ 6000 2 frS (((St.back (stS (kS S) (uS S)) 4098 [0,1] (obCA (kS S) (uS S) (strC (c::r)))).put (some 5) (.vec 4100)).put (some 3) (.vec 4100)) _;refine swF.tree (n0:=4000) (n:=2000) (Z2 Z1 Z0) (Ztj (kS S) (uS S) (strC (c::r))) ?_;rw[Z6];refine swF.tree (n0:=2000) (n:=2000) (Z2 Z1 (Zw _ _)) (ZnA (kS S) (uS S) (strC (c::r)) (strC (srt (c::r)))) ?_;rw[Z4,Z6];refine⟨CallL.sortS fp72.2 (λblk cap m w h1 h2 j=>Tryz.slices_Sort_string blk 0 cap m w h1 h2 j) _ _ (by simp) (by omega),?_⟩;refine swF.tree (n0:=0) (n:=2000) (Z2 Z1 Z0) (Znz (kS S) (uS S) (strC (srt (c::r)))) ?_;rw[Z7];have f:=Zo9 (q:=c::r) (by simp);generalize srt (c::r)=z at f ⊢;cases z with
   |nil=>exact absurd rfl f
   |cons a b=>exact⟨rfl,rfl⟩
def outO (S:List Nm):List Nm->D × Obs
 |[]=>(.nils,[(0,setO S)])
 |c::r=>(.vec 1,[(0,setO S),(1,.arr false 1 9 (strC (c::r)))])
theorem Z3E (S:List Nm) (b:S.length<=1073741823) (a:S.Nodup):CF 18 [.map 0] [(0,setO S)] λr ob=>r=(outO S (srt S)).1/\ob=(outO S (srt S)).2:=by
 have h:=Zay S b a;generalize srt S=z at h ⊢;cases z with
 |nil =>
  refine CallL.tree Z3 fp18 (Z2 Z1 (QT.or_ok Z80 (Zw _ _))) (Znv (kS S) (uS S)) ?_;rw[Z4,Z4,Z7];exact⟨trivial,h,rfl,rfl⟩
 |cons c r =>
  refine CallL.tree Z3 fp18 (Z2 Z1 (QT.or_ok Z80 (Zw _ _))) (Zth (kS S) (uS S) (strC (c::r))) ?_;rw[Z4,Z4,Z7];exact⟨trivial,h,rfl,rfl⟩
def bdQ (b a d c:List D) (q:QT):QT:=((valQ.or (onF 29 (asmA (.tuple []) (updM b a)))).or (onF 31 (asmO (.map 1) [(0,.gen (.mapC b a) []),(1,.gen (.mapC d c) [])]))).or q
theorem Zi0 {c a d b:List D} {q:QT} (e:q.OK):(bdQ c a d b q).OK:=QT.or_ok (QT.or_ok (QT.or_ok Z3s (Z16 (Za _ _))) (Z16 (Zw _ _))) e
theorem ZmZ (es e:LD) (d c b a:List D):let A:=[(0,Ob.gen (Gen.mapC b a) [])];let B:=(0,Ob.gen (Gen.mapC d c) []);let C:=(1,oC [dL e []]);gP (ctr libT (bdQ d c b a (asmO D.nils A))) rs10 sc10 [dL es [],dL e []]=(Ow True (Ow (CQ 29 [D.map 0,dF 51 [] [dP 1 0]] [(0,Ob.gen (Gen.mapC [] []) []),C] (D.tuple []) [B,C]) (Ow (CQ 31 [D.map 0,dL es []] [B] (D.map 1) [B,(1,Ob.gen (Gen.mapC b a) [])]) (Ow (CQ 18 [D.map 0] A (D.nils) A) (Rt (dL [] []) [])))):Tr):=by intro A B C;kernel_rfl
theorem Zn0 (es e r:LD) (d c b a:List D):let A:=(0,Ob.gen (Gen.mapC b a) []);let B:=(0,Ob.gen (Gen.mapC d c) []);let C:=[A,(1,oR false 1 9 r)];let E:=(1,oC [dL e []]);gP (ctr libT (bdQ d c b a (asmO (dV 1) C))) rs10 sc10 [dL es [],dL e []]=(Ow True (Ow (CQ 29 [D.map 0,dF 51 [] [dP 1 0]] [(0,Ob.gen (Gen.mapC [] []) []),E] (D.tuple []) [B,E]) (Ow (CQ 31 [D.map 0,dL es []] [B] (D.map 1) [B,(1,Ob.gen (Gen.mapC b a) [])]) (Ow (CQ 18 [D.map 0] [A] (dV 1) C) (Rt (D.own 1 9 r) [])))):Tr):=by intro A B C E;kernel_rfl
end Go.Proofs.YtaclfbhhekhflaaGreatDoor.S
/- Bound;sizes,has,SameTexts. -/
namespace Go.Proofs.YtaclfbhhekhflaaGreatDoor.S
open Go.Sx Go.RowKit
theorem Bound_ok (ls:List Lt) (hl:ls.length<=281474976710656) (e: ∀ x∈ls,okL x) (g:List Nm) (h:g.length<=1000000) (hp:(ls.flatMap Lt.pool).length<=1000000) :
  FK 10 [.slice (ltL ls) [],.slice (strC g) []] (.slice (strC (Z0j ls g)) []):=by
 have a:(addS [] g).Nodup:=Z0q List.nodup_nil;have d:=(Zh3 g []).2;have f:=Zbh ls a;have ha:=Z4s g (by omega) [];have b:=Z5Z ls hl e (addS [] g) a;have hs:=Z3E (ZF (addS [] g) ls) (by simp only[List.length_nil] at d;omega) (Z2t ls a);unfold Z0j;generalize ZF (addS [] g) ls=T at b hs ⊢;generalize srt T=z at hs ⊢;cases z with
 |nil =>
  refine FnOK.tree Z3 fp10 (Z2 Z1 (Zi0 (Zw _ _))) (ZmZ (ltL ls) (strC g) (kS (addS [] g)) (uS (addS [] g)) (kS T) (uS T)) ?_;rw[Z4,Z4,Z4,Z4,Z7];exact⟨trivial,ha,b,hs,rfl⟩
 |cons c r =>
  refine FnOK.freezeT (ty:=9) (FnOK.tree Z3 fp10 (Z2 Z1 (Zi0 (Zw _ _))) (Zn0 (ltL ls) (strC g) (strC (c::r)) (kS (addS [] g)) (uS (addS [] g)) (kS T) (uS T)) ?_);rw[Z4,Z4,Z4,Z4,Z7];exact⟨trivial,ha,b,hs,rfl⟩
def dCtr (l:List (Nat × D)) (e:List (Nat × List D):=[]) (q:QT:=Qr):Ctr:=⟨λt f a=>match lk l t with|some r=>some (.ok (FK f a r) r [])|none=>none,λ_=>q,λt _=>(lk e t).getD []⟩
theorem Z9 {l:List (Nat × D)} {e:List (Nat × List D)} {q:QT} (a:q.OK):(dCtr l e q).OK Tryz.prog:=by
 refine⟨λt f b rt h=>?_,λ_=>a⟩;simp only[dCtr] at h;split at h
 ·cases h;exactλhp=>hp
 ·cases h
theorem Zsl (k n:Int) (s:LU) (a:LD) (m c:Int):gP (ctr (asmP (dI c))) rs20 sc20 [dA (tC k n s a),dI m]=(I8 (m-(1:Int)) (Ow (FK 21 [dL a [],dI (m-(1:Int))] (dI c)) (I8 ((1:Int)+c) (Rt (dI ((1:Int)+c)) []))):Tr):=by kernel_rfl
theorem Zml (a:LD) (m:Int):gP (ctr libT) rs21 sc21 [dL a [],dI m]=(Jm (cut sc21 0) {tm:=[(0,dL a []),(1,dI m),(5,dI 0),(6,dI 0)],ob:=[]}:Tr):=by kernel_rfl
def hdSz (a:LD) (m n i:Int):St:=⟨[(0,.slice a []),(1,.int .i64 m),(5,.int .i64 n),(6,.int .i64 i)],[]⟩
theorem Z67 (a:LD) (m n i d nx:Int) (e:LU) (b:LD) (c:Int):let A:=tC d nx e b;let B:=Rt (dI n) [];let C:=cut sc21 0;let E:=(i+(1:Int));gH (ctr (asmP (dI c)) Qr (eOne A)) 0 true rs21 C (hdSz a m n i)=(brT (decide (i<(↑(List.length a):Int))) (brT (decide (n<=m)) (Ow ((0:Int)<=i/\a[Int.toNat i]? = some A) (I8 (m-n) (Ow (FK 20 [dA A,dI (m-n)] (dI c)) (I8 (n+c) (I8 E (Jm C {tm:=[(0,dL a []),(1,dI m),(5,dI (n+c)),(6,dI E)],ob:=[]})))))) B) B:Tr):=by intro A B C E;kernel_rfl
theorem Zsq (p:LU) (a:LD) (m c:Int):gP (ctr (asmP (dI c))) rs22 sc22 [dA [dS p,dL a []],dI m]=(I8 (m-(1:Int)) (Ow (FK 21 [dL a [],dI (m-(1:Int))] (dI c)) (I8 ((1:Int)+c) (Rt (dI ((1:Int)+c)) []))):Tr):=by kernel_rfl
theorem Zso (a ext:LD) (m:Int):gP (ctr libT) rs23 sc23 [dL a ext,dI m]=(Jm (cut sc23 0) {tm:=[(0,dL a ext),(1,dI m),(5,dI 0),(6,dI 0)],ob:=[]}:Tr):=by kernel_rfl
def hdSl (a ext:LD) (m n i:Int):St:=⟨[(0,.slice a ext),(1,.int .i64 m),(5,.int .i64 n),(6,.int .i64 i)],[]⟩
theorem Z8I (es ext:LD) (m n i k:Int) (no:Bool) (p:LU) (a:LD) (op d nx:Int) (g:LU) (b:LD) (e f:Int) (h:LU) (c:LD) (c1 c2 c3:Int):let A:=[dU k,dB no,dS p,dL a [],dU op,dU d,dI nx,dS g,dL b [],dU e,dI f,dS h,dL c []];let B:=((1:Int)+c1+c2+c3);let C:=Rt (dI n) [];let E:=cut sc23 0;let F:=(i+(1:Int));gH (dCtr [(27,dI c1),(37,dI c2),(47,dI c3)] [(21,lC k no p a op d nx g b e f h c),(31,lC k no p a op d nx g b e f h c),(41,lC k no p a op d nx g b e f h c)]) 0 true rs23 E (hdSl es ext m n i)=(brT (decide (i<(↑(List.length es):Int))) (brT (decide (n<=m)) (Ow ((0:Int)<=i/\es[Int.toNat i]? = some A) (I8 (m-n) (Ow (FK 22 [dA [dS p,dL a []],dI (m-n)] (dI c1)) (I8 ((1:Int)+c1) (Ow ((0:Int)<=i/\es[Int.toNat i]? = some A) (I8 (m-n) (Ow (FK 20 [dA (tC d nx g b),dI (m-n)] (dI c2)) (I8 ((1:Int)+c1+c2) (Ow ((0:Int)<=i/\es[Int.toNat i]? = some A) (I8 (m-n) (Ow (FK 20 [dA (tC e f h c),dI (m-n)] (dI c3)) (I8 B (I8 (n+B) (I8 F (Jm E {tm:=[(0,dL es ext),(1,dI m),(5,dI (n+B)),(6,dI F)],ob:=[]}))))))))))))))) C) C:Tr):=by intro A B C E F;kernel_rfl
theorem ZmI (es:LD) (s:LU):gP (dCtr []) rs8 sc8 [dL es [],dS s]=(Jm (cut sc8 0) {tm:=[(0,dL es []),(1,dS s),(5,dI 0)],ob:=[]}:Tr):=by kernel_rfl
def Zqv (es:LD) (s:LU) (i:Int):St:=⟨[(0,.slice es []),(1,.str s),(5,.int .i64 i)],[]⟩
theorem Zam (es:LD) (s:LU) (i:Int) (t:LU):gH (dCtr [] [(14,[dS t])]) 0 true rs8 (cut sc8 0) (Zqv es s i)=(brT (decide (i<(↑(List.length es):Int))) (Ow ((0:Int)<=i/\es[Int.toNat i]? = some [dS t]) (brT (decide (t=s)) (Rt (dB true) []) (I8 (i+(1:Int)) (Jm (cut sc8 0) {tm:=[(0,dL es []),(1,dS s),(5,dI (i+(1:Int)))],ob:=[]})))) (Rt (dB false) []):Tr):=by kernel_rfl
theorem Zsm (es fs:LD):gP (dCtr []) rs16 sc16 [dL es [],dL fs []]=(brT (!decide ((↑(List.length es):Int)=(↑(List.length fs):Int))) (Rt (dB false) []) (Jm (cut sc16 0) {tm:=[(0,dL es []),(1,dL fs []),(5,dI 0)],ob:=[]}):Tr):=by kernel_rfl
def hdSt (es fs:LD) (i:Int):St:=⟨[(0,.slice es []),(1,.slice fs []),(5,.int .i64 i)],[]⟩
theorem Zer (es fs:LD) (i:Int) (s t:LU):gH (dCtr [] [(19,[dS s]),(23,[dS t])]) 0 true rs16 (cut sc16 0) (hdSt es fs i)=(brT (decide (i<(↑(List.length es):Int))) (Ow ((0:Int)<=i/\es[Int.toNat i]? = some [dS s]) (Ow ((0:Int)<=i/\fs[Int.toNat i]? = some [dS t]) (brT (!decide (s=t)) (Rt (dB false) []) (I8 (i+(1:Int)) (Jm (cut sc16 0) {tm:=[(0,dL es []),(1,dL fs []),(5,dI (i+(1:Int)))],ob:=[]}))))) (Rt (dB true) []):Tr):=by kernel_rfl
end Go.Proofs.YtaclfbhhekhflaaGreatDoor.S
/- Sizes,has,SameTexts,proved. -/
namespace Go.Proofs.YtaclfbhhekhflaaGreatDoor.S
open Go.Sx Go.RowKit
theorem ZN {l:List Tm} {i:Nat} (h:i<l.length):(Tm.cellsL l)[i]? = some l[i].cells:=by rw[Zn];simp[h]
theorem Z3r {B:Nat} {l:List Tm} (h:Tm.wfL B l) {t:Tm} (a:t∈l):t.wf B:=Qe.1 h t a
def SzP (x:Tm):Prop:=∀ m:Int,0<=m->m<=1000000->FK 20 [.agg x.cells,.int .i64 m] (.int .i64 (x.sz m))
theorem Zo6 (l:List Tm) (hl:l.length<=281474976710656) (H: ∀ x∈l,SzP x) (M:Int) (t: -1<=M/\M<=1000000): ∀ (m i:Nat) (n:Int),l.length-i=m->i<=l.length->0<=n->n<=M+1 →
  At Tryz.prog 0 (cut sc21 0) (hdSz (Tm.cellsL l) M n i) (FinQ true 0 rs21 λr _=>r=.int .i64 (Tm.szL (l.drop i) M n)):=by
 intro m;induction m with
 |zero =>
  intro i n hm hi o f;refine At.tree (Z2 (Zm (.int .i64 0)) Z0) (Z67 (Tm.cellsL l) M n i 0 0 [] [] 0) ?_;rw[List.drop_eq_nil_of_le (show l.length<=i by omega)];simp only[SS,Z5];exact⟨λh=>by omega,λ_=>rfl⟩
 |succ m p =>
  intro i n hm hi o f;have h1:i<l.length:=by omega
  have hx:=ZN h1;have k:=H _ (List.getElem_mem h1);rw[Zc h1];simp only[Tm.szL];by_cases b:n<=M
  ·rw[if_pos b];have a:=k (M-n) (by omega) (by omega);have d:=Qg l[i] (M-n);have e:=Z3w l[i] (M-n) (by omega);have g:=p (i+1) (n+Tm.sz l[i] (M-n)) (by omega) (by omega) (by omega) (by omega);generalize Tm.sz l[i] (M-n)=c at a g d e ⊢;generalize l[i]=x at hx a;obtain⟨q,nx,s,j⟩:=x;refine At.tree (Z2 (Zm (.int .i64 c)) Z0) (Z67 (Tm.cellsL l) M n i q nx s (Tm.cellsL j) c) ?_;simp only[SS,Z5];exact⟨λ_=>⟨λ_=>⟨⟨by omega,hx⟩,by omega,a,by omega,by omega,g⟩,λh=>by omega⟩,λh=>by omega⟩
  ·rw[if_neg b];refine At.tree (Z2 (Zm (.int .i64 0)) Z0) (Z67 (Tm.cellsL l) M n i 0 0 [] [] 0) ?_;simp only[SS,Z5];exact⟨λ_=>⟨λh=>by omega,λ_=>trivial⟩,λh=>by omega⟩
theorem Z8Y (l:List Tm) (hl:l.length<=281474976710656) (H: ∀ x∈l,SzP x) (M:Int) (a: -1<=M/\M<=1000000):FK 21 [.slice (Tm.cellsL l) [],.int .i64 M] (.int .i64 (Tm.szL l M 0)) :=
 FnOK.tree Z3 fp21 (Z2 Z1 Z0) (Zml (Tm.cellsL l) M) (Zo6 l hl H M a _ 0 0 rfl (Nat.zero_le _) (by omega) (by omega))
theorem Z3v: ∀ (x:Tm),x.wf 281474976710656->SzP x
 |.mk k n s l,hx=>by
  simp only[Tm.wf] at hx;obtain⟨hk,d,e,hs,hl,f⟩:=hx;intro m h0 h1;have a:=Z8Y l hl (λx hx=>Z3v x (Z3r f hx)) (m-1) (by omega);have b:=Qh l (m-1) 0;have c:=Z26 l (m-1) 0 (by omega);refine FnOK.tree Z3 fp20 (Z2 (Zm (.int .i64 (Tm.szL l (m-1) 0))) Z0) (Zsl k n s (Tm.cellsL l) m (Tm.szL l (m-1) 0)) ?_;simp only[SS];exact⟨by omega,a,by omega,rfl⟩
termination_by x=>SizeOf.sizeOf x
decreasing_by
 have:=List.sizeOf_lt_of_mem hx;simp only[Tm.mk.sizeOf_spec];omega
theorem Zhm (p:Nm) (l:List Tm) (hl:l.length<=281474976710656) (d:Tm.wfL 281474976710656 l) (m:Int) (h0:0<=m) (h1:m<=1000000):FK 22 [.agg [.str p,.slice (Tm.cellsL l) []],.int .i64 m] (.int .i64 (1+Tm.szL l (m-1) 0)):=by
 have a:=Z8Y l hl (λx hx=>Z3v x (Z3r d hx)) (m-1) (by omega);have b:=Qh l (m-1) 0;have c:=Z26 l (m-1) 0 (by omega);refine FnOK.tree Z3 fp22 (Z2 (Zm (.int .i64 (Tm.szL l (m-1) 0))) Z0) (Zsq p (Tm.cellsL l) m (Tm.szL l (m-1) 0)) ?_;simp only[SS];exact⟨by omega,a,by omega⟩
theorem Zo7 (l:List Lt) (ext:LD) (hl:l.length<=281474976710656) (H: ∀ x∈l,x.wf 281474976710656) (M:Int) (K:0<=M/\M<=1000000): ∀ (m i:Nat) (n:Int),l.length-i=m->i<=l.length->0<=n->n<=4*M+100 →
  At Tryz.prog 0 (cut sc23 0) (hdSl (ltL l) ext M n i) (FinQ true 0 rs23 λr _=>r=.int .i64 (ZW (l.drop i) M n)):=by
 intro m;induction m with
 |zero =>
  intro i n hm hi y j;refine At.tree (Z9 Z0) (Z8I (ltL l) ext M n i 0 true [] [] 0 0 0 [] [] 0 0 [] [] 0 0 0) ?_;rw[List.drop_eq_nil_of_le (show l.length<=i by omega)];simp only[SS,Z0I];exact⟨λh=>by omega,λ_=>rfl⟩
 |succ m z =>
  intro i n hm hi y j;have h1:i<l.length:=by omega
  have hx:=Z7T h1;have w:=H _ (List.getElem_mem h1);rw[Zc h1];simp only[ZW];by_cases c:n<=M
  ·rw[if_pos c];obtain⟨_,_,J,I,_,F,G⟩:=w;have d:=Zhm l[i].p l[i].a J I (M-n) (by omega) (by omega);have f:=Z3v l[i].l F (M-n) (by omega) (by omega);have g:=Z3v l[i].r G (M-n) (by omega) (by omega);have o:=Qh l[i].a (M-n-1) 0;have q:=Z26 l[i].a (M-n-1) 0 (by omega);have u:=Qg l[i].l (M-n);have v:=Z3w l[i].l (M-n) (by omega);have d1:=Qg l[i].r (M-n);have d2:=Z3w l[i].r (M-n) (by omega);have e:szLt l[i] (M-n)=1+(1+Tm.szL l[i].a (M-n-1) 0)+l[i].l.sz (M-n)+l[i].r.sz (M-n):=rfl;have b:=z (i+1) (n+szLt l[i] (M-n)) (by omega) (by omega) (by omega) (by omega);rw[e] at b ⊢;generalize Tm.szL l[i].a (M-n-1) 0=c1 at d b o q ⊢;generalize Tm.sz l[i].l (M-n)=c2 at f b u v ⊢;generalize Tm.sz l[i].r (M-n)=c3 at g b d1 d2 ⊢;generalize l[i]=x at hx d f g;obtain⟨k,no,p,a,op,⟨A,nx,D,s⟩,⟨B,C,E,t⟩⟩:=x;refine At.tree (Z9 Z0) (Z8I (ltL l) ext M n i k no p (Tm.cellsL a) op A nx D (Tm.cellsL s) B C E (Tm.cellsL t) (1+c1) c2 c3) ?_;simp only[SS,Z0I];exact⟨λ_=>⟨λ_=>⟨⟨by omega,hx⟩,by omega,d,by omega,⟨by omega,hx⟩,by omega,f,by omega,⟨by omega,hx⟩,by omega,g,by omega,by omega,by omega,b⟩,λh=>by omega⟩,λh=>by omega⟩
  ·rw[if_neg c];refine At.tree (Z9 Z0) (Z8I (ltL l) ext M n i 0 true [] [] 0 0 0 [] [] 0 0 [] [] 0 0 0) ?_;simp only[SS,Z0I];exact⟨λ_=>⟨λh=>by omega,λ_=>trivial⟩,λh=>by omega⟩
theorem Z8Z (l:List Lt) (ext:LD) (hl:l.length<=281474976710656) (H: ∀ x∈l,x.wf 281474976710656) (M:Int) (a:0<=M/\M<=1000000):FK 23 [.slice (ltL l) ext,.int .i64 M] (.int .i64 (ZW l M 0)) :=
 FnOK.tree Z3 fp23 (Z2 Z1 Z0) (Zso (ltL l) ext M) (Zo7 l ext hl H M a _ 0 0 rfl (Nat.zero_le _) (by omega) (by omega))
theorem lhas_ok (l:List Nm) (s:Nm) (hl:l.length<=281474976710656):FK 8 [.slice (strC l) [],.str s] (.bool (decide (s∈l))):=by
 have at_: ∀ (m i:Nat),l.length-i=m->i<=l.length->At Tryz.prog 0 (cut sc8 0) (Zqv (strC l) s i) (FinQ true 0 rs8 λr _=>r=.bool (decide (s∈l.drop i))):=by
  intro m;induction m with
  |zero =>
   intro i hm hi;refine At.tree (Z9 Z0) (Zam (strC l) s i []) ?_;rw[List.drop_eq_nil_of_le (by omega),Zs,Zp];refine⟨λh=>?_,λ_=>?_⟩
   ·have:=of_decide_eq_true h;omega
   ·rw[Z7];simp
  |succ m b =>
   intro i hm hi;have h1:i<l.length:=by omega
   have a:=b (i+1) (by omega) (by omega);refine At.tree (Z9 Z0) (Zam (strC l) s i l[i]) ?_;rw[Zc h1,Zs,Zp];refine⟨λ_=>?_,λh=>?_⟩
   ·rw[Z4,Zs,Z7,Z4,Z6,Int.toNat_natCast];refine⟨⟨by omega,Z1O h1⟩,λh=>?_,λh=>⟨by omega,?_⟩⟩
    ·have h:=of_decide_eq_true h;rw[decide_eq_true (by rw[h];exact List.mem_cons_self ..)]
    ·have h:=of_decide_eq_false h;have e:decide (s∈l[i]::l.drop (i+1))=decide (s∈l.drop (i+1)):=by
      rw[Bool.eq_iff_iff,decide_eq_true_eq,decide_eq_true_eq,List.mem_cons];exact⟨λh2=>h2.resolve_left λe=>h e.symm,.inr⟩
     rw[e];exact a
   ·have:=of_decide_eq_false h;omega
 refine FnOK.tree Z3 fp8 (Z9 Z0) (ZmI (strC l) s) ?_;rw[Z6]
 have:=at_ _ 0 rfl (Nat.zero_le _);rw[List.drop_zero] at this;exact this
theorem Zc6 (l:List Nm) (hl:l.length<=281474976710656):FK 16 [.slice (strC l) [],.slice (strC l) []] (.bool true):=by
 have at_: ∀ (m i:Nat),l.length-i=m->i<=l.length->At Tryz.prog 0 (cut sc16 0) (hdSt (strC l) (strC l) i) (FinQ true 0 rs16 λr _=>r=.bool true):=by
  intro m;induction m with
  |zero =>
   intro i hm hi;refine At.tree (Z9 Z0) (Zer (strC l) (strC l) i [] []) ?_;rw[Zs,Zp];refine⟨λh=>?_,λ_=>rfl⟩
   have:=of_decide_eq_true h;omega
  |succ m b =>
   intro i hm hi;have h1:i<l.length:=by omega
   have a:=b (i+1) (by omega) (by omega);refine At.tree (Z9 Z0) (Zer (strC l) (strC l) i l[i] l[i]) ?_;rw[Zs,Zp];refine⟨λ_=>?_,λh=>?_⟩
   ·rw[Z4,Z4,Zs,Z4,Z6,Int.toNat_natCast];exact⟨⟨by omega,Z1O h1⟩,⟨by omega,Z1O h1⟩,λh=>by simp at h,λ_=>⟨by omega,a⟩⟩
   ·have:=of_decide_eq_false h;omega
 refine FnOK.tree Z3 fp16 (Z9 Z0) (Zsm (strC l) (strC l)) ?_;rw[Zs,Z6];exact⟨λh=>by simp at h,λ_=>at_ _ 0 rfl (Nat.zero_le _)⟩
end Go.Proofs.YtaclfbhhekhflaaGreatDoor.S
/- check: trees. -/
namespace Go.Proofs.YtaclfbhhekhflaaGreatDoor.S
open Go.Sx Go.RowKit
abbrev mO (ks cs:List D):Ob:=.gen (.mapC ks cs) []
def Z6J:List Nat:=[7,5,3,0,1,2]
def dsCk (f:FuncId) (a b c g u d:Nat):List D:=[.func (.func f) [] [.ptr a 0],.ptr b 0,.ptr c 0,.agg [.map g,.map u],.func (.func f) [] [.ptr a 0],.map d]
def Z5r (ds:List D):Ob:=.gen (.loop .ready none #[8] (sc47.rngA 0) (sc47.rngB 0) 19 Z6J) ds
def Z7R (es:LD) (g u b:Ob):Obs:=[(0,.cells [.slice es []]),(1,Z5r (dsCk fT 0 2 3 4 5 6)),(2,.cells [.map 6]),(3,.cells [.map 4,.map 5]),(4,g),(5,u),(6,b)]
def Z7Q (g u b:Ob):Obs:=[(0,.cells [.map 2]),(1,Z5r (dsCk fY 0 3 4 2 5 6)),(2,g),(3,.cells [.map 6]),(4,.cells [.map 2,.map 5]),(5,u),(6,b)]
def ZkH (es:LD) (g u b:Ob):Obs:=[(1,.cells [.slice es []]),(2,.cells [.map 6]),(3,.cells [.map 4,.map 5]),(4,g),(5,u),(6,b)]
def ZkG (g u b:Ob):Obs:=[(1,.cells [.map 4]),(2,.cells [.map 6]),(3,.cells [.map 4,.map 5]),(4,g),(5,u),(6,b)]
def updK (j:Nat) (o:Ob):Obs->Obs
 |[]=>[]
 |(i,x)::r=>(i,if i=j then o else x)::updK j o r
theorem ZnP (d gc f e c bc b a:List D) (es:LD):let A:=SC.block 1 (SC.seq (SC.reg [so 9 (AOp.load false 1) [xt 5],so 10 AOp.mv [xt 6],SOp.cd (some 11) none (xc (dF 74 [] [])) [xt 9,xt 10],so 12 (AOp.un UnOp.not) [xt 11]]) (SC.cond (xt 12) (SC.drw [0,1,0,4,12,31] [so 13 (AOp.faddr 1) [xt 3],so 14 (AOp.load false 1) [xt 13],so 15 AOp.mv [xt 6],so 16 (AOp.bslice true 1 1 9 [dS []] [(0,1)]) [xt 15],SOp.cd (some 17) none (xc (dF 30 [] [])) [xt 16],SOp.cd (some 18) none (xc (dF 29 [] [])) [xt 14,xt 17]]) SC.skip));let B:=[dF 69 [] [dP 0 0],dP 2 0,dP 3 0,dA [D.map 4,D.map 5],dF 69 [] [dP 0 0],D.map 6];let C:=Gen.mapC d gc;let E:=Gen.mapC c bc;let F:=SC.reg [so 6 AOp.mv [xt 8]];let G:=[dL es []];let H:=(3,oC [D.map 4,D.map 5]);let I:=Gen.mapC b a;let J:=(2,oC [D.map 6]);let K:=(4,Ob.gen C []);let L:=(6,Ob.gen E []);let M:=D.tuple [];gC (ctr libT (asmA M (updK 5 (mO b a)))) 4 rs47 sc47 [] [dA [D.map 0,D.map 1],dF fT [] [dP 2 0],D.map 3] [] [(0,mO d gc),(1,mO f e),(2,oC G),(3,mO c bc)]=(Ow (CallL Tryz.prog (dF 69 [] [dP 0 0]) [D.yld 1] [(0,oC G),(1,Ob.gen (Gen.loop LoopState.ready none #[8] F A 19 [7,5,3,0,1,2]) B),J,H,K,(5,Ob.gen (Gen.mapC f e) []),L] λr0 ob0=>r0=D.tuple []/\ob0=[(0,oC G),(1,Ob.gen (Gen.loop LoopState.ready none #[8] F A 19 [7,5,3,0,1,2]) B),J,H,K,(5,Ob.gen I []),L]) (Rt M [(0,Ob.gen C []),(1,Ob.gen I []),(2,oC G),(3,Ob.gen E [])]):Tr):=by intro A B C E F G H I J K L M;kernel_rfl
theorem ZnO (c gc e d b bc a:List D):let A:=SC.block 1 (SC.seq (SC.reg [so 9 (AOp.load false 1) [xt 5],so 10 AOp.mv [xt 6],SOp.cd (some 11) none (xc (dF 74 [] [])) [xt 9,xt 10],so 12 (AOp.un UnOp.not) [xt 11]]) (SC.cond (xt 12) (SC.drw [0,1,0,4,12,31] [so 13 (AOp.faddr 1) [xt 3],so 14 (AOp.load false 1) [xt 13],so 15 AOp.mv [xt 6],so 16 (AOp.bslice true 1 1 9 [dS []] [(0,1)]) [xt 15],SOp.cd (some 17) none (xc (dF 30 [] [])) [xt 16],SOp.cd (some 18) none (xc (dF 29 [] [])) [xt 14,xt 17]]) SC.skip));let B:=[dF 73 [] [dP 0 0],dP 3 0,dP 4 0,dA [D.map 2,D.map 5],dF 73 [] [dP 0 0],D.map 6];let C:=Gen.mapS a (dA []);let E:=Gen.mapC c gc;let F:=Gen.mapC b bc;let G:=SC.reg [so 6 AOp.mv [xt 8]];let H:=(4,oC [D.map 2,D.map 5]);let I:=(2,oC [D.map 0]);let J:=(0,oC [D.map 2]);let K:=(3,oC [D.map 6]);let L:=(2,Ob.gen E []);let M:=(6,Ob.gen F []);let N:=D.tuple [];gC (ctr libT (asmA N (updK 5 (Ob.gen C [])))) 4 rs47 sc47 [] [dA [D.map 0,D.map 1],dF fY [] [dP 2 0],D.map 3] [] [(0,mO c gc),(1,mO e d),I,(3,mO b bc)]=(Ow (CallL Tryz.prog (dF 73 [] [dP 0 0]) [D.yld 1] [J,(1,Ob.gen (Gen.loop LoopState.ready none #[8] G A 19 [7,5,3,0,1,2]) B),L,K,H,(5,Ob.gen (Gen.mapC e d) []),M] λr0 ob0=>r0=D.tuple []/\ob0=[J,(1,Ob.gen (Gen.loop LoopState.ready none #[8] G A 19 [7,5,3,0,1,2]) B),L,K,H,(5,Ob.gen C []),M]) (Rt N [(0,Ob.gen E []),(1,Ob.gen C []),I,(3,Ob.gen F [])]):Tr):=by intro A B C E F G H I J K L M N;kernel_rfl
def ckQ (b:Bool) (c a:List D):QT:=((onF 74 (asmA (.bool b) id)).or valQ).or (onF 29 (asmA (.tuple []) (updM c a)))
theorem ZhZ (b:Bool) (c a:List D):(ckQ b c a).OK:=QT.or_ok (QT.or_ok (Z16 (Za _ _)) Z3s) (Z16 (Za _ _))
theorem Zh5 (x:LU) (es:LD) (e gc g f d bc c a:List D) (b:Bool):let A:=[dF 69 [] [dP 1 0],dP 2 0,dP 3 0,dA [D.map 4,D.map 5],dF 69 [] [dP 1 0],D.map 6];let B:=Gen.mapC d bc;let C:=(4,Ob.gen (Gen.mapC e gc) []);let E:=(3,oC [D.map 4,D.map 5]);let F:=(1,oC [dL [[dS x]] []]);let G:=dsCk fT 1 2 3 4 5 6;let H:=Gen.mapC c a;let I:=[(0,Ob.gen B [])];let J:=(1,oC [dL es []]);let K:=Gen.mapC g f;let L:=(2,oC [D.map 6]);let M:=(6,Ob.gen B []);yldT Tryz.prog (ctr libT (ckQ b c a)) 7 0 19 #[8] (SC.rngA sc47 0) (SC.rngB sc47 0) Z6J G 2000 {tm:=putP (List.zip [8] [dS x]) (List.zip Z6J G),ob:=ZkH es (mO e gc) (mO g f) (mO d bc)}=(Ow (CQ 74 [D.map 0,dS x] I (dB b) I) (brT (!b) (Ow True (Ow (CQ 29 [D.map 0,dF 51 [] [dP 1 0]] [(0,Ob.gen K []),F] (D.tuple []) [(0,Ob.gen H []),F]) (Rt (dB true) [(0,gL .ready none #[8] sc47 0 19 [7,5,3,0,1,2] A),J,L,E,C,(5,Ob.gen H []),M]))) (Rt (dB true) [(0,gL .ready none #[8] sc47 0 19 [7,5,3,0,1,2] A),J,L,E,C,(5,Ob.gen K []),M])):Tr):=by intro A B C E F G H I J K L M;kernel_rfl
theorem Zh4 (x:LU) (e gc g f d bc c a:List D) (l:List Nat) (cl:Nat) (b:Bool):let A:=[dF 73 [] [dP 1 0],dP 2 0,dP 3 0,dA [D.map 4,D.map 5],dF 73 [] [dP 1 0],D.map 6];let B:=Gen.mapC d bc;let C:=(4,Ob.gen (Gen.mapB e gc l cl) []);let E:=(3,oC [D.map 4,D.map 5]);let F:=(1,oC [dL [[dS x]] []]);let G:=dsCk fY 1 2 3 4 5 6;let H:=Gen.mapC c a;let I:=[(0,Ob.gen B [])];let J:=Gen.mapC g f;let K:=(1,oC [D.map 4]);let L:=(2,oC [D.map 6]);let M:=(6,Ob.gen B []);yldT Tryz.prog (ctr libT (ckQ b c a)) 7 0 19 #[8] (SC.rngA sc47 0) (SC.rngB sc47 0) Z6J G 2000 {tm:=putP (List.zip [8] [dS x]) (List.zip Z6J G),ob:=ZkG (mbO e gc l cl) (mO g f) (mO d bc)}=(Ow (CQ 74 [D.map 0,dS x] I (dB b) I) (brT (!b) (Ow True (Ow (CQ 29 [D.map 0,dF 51 [] [dP 1 0]] [(0,Ob.gen J []),F] (D.tuple []) [(0,Ob.gen H []),F]) (Rt (dB true) [(0,gL .ready none #[8] sc47 0 19 [7,5,3,0,1,2] A),K,L,E,C,(5,Ob.gen H []),M]))) (Rt (dB true) [(0,gL .ready none #[8] sc47 0 19 [7,5,3,0,1,2] A),K,L,E,C,(5,Ob.gen J []),M])):Tr):=by intro A B C E F G H I J K L M;kernel_rfl
theorem Ztd (es:LD) (b gc d c a bc:List D):let A:=[D.map 4,D.map 5];gC (ctr libT) 7 rs69 sc69 [] [D.yld 1] [dP 0 0] (Z7R es (mO b gc) (mO d c) (mO a bc))=(Jm (cut sc69 0) {tm:=[(0,D.yld 1),(7,dL es []),(8,dI (↑(List.length es):Int)),(9,dI 0)],ob:=[(0,oC [dL es []]),(1,gL .ready none #[8] sc47 0 19 [7,5,3,0,1,2] [dF 69 [] [dP 0 0],dP 2 0,dP 3 0,dA A,dF 69 [] [dP 0 0],D.map 6]),(2,oC [D.map 6]),(3,oC A),(4,Ob.gen (Gen.mapC b gc) []),(5,Ob.gen (Gen.mapC d c) []),(6,Ob.gen (Gen.mapC a bc) [])]}:Tr):=by intro A;kernel_rfl
theorem Zf1 (es V:LD) (c gc e d b bc:List D) (m i k n:Int) (s:LU) (a:LD):let A:=[dF 69 [] [dP 0 0],dP 2 0,dP 3 0,dA [D.map 4,D.map 5],dF 69 [] [dP 0 0],D.map 6];let B:=(4,Ob.gen (Gen.mapC c gc) []);let C:=(5,Ob.gen (Gen.mapC e d) []);let E:=(6,Ob.gen (Gen.mapC b bc) []);let F:=(3,oC [D.map 4,D.map 5]);let G:=tC k n s a;let H:=(0,oC [dL es []]);let I:=(2,oC [D.map 6]);gH (ctr (asmP (dL V [])) Qr (eOne G)) 7 false rs69 (cut sc69 0) (hdVr es m i (Z7R es (mO c gc) (mO e d) (mO b bc)))=(brT (decide (i<m)) (Ow ((0:Int)<=i/\es[Int.toNat i]? = some G) (Ow (FK 70 [dA G] (dL V [])) (Jm (cut sc69 1) {tm:=[(0,D.yld 1),(7,dL es []),(8,dI m),(9,dI i),(14,dL V []),(15,dI (↑(List.length V):Int)),(16,dI 0)],ob:=[H,(1,gL .ready none #[8] sc47 0 19 [7,5,3,0,1,2] A),I,F,B,C,E]}))) (Rt (D.tuple []) [H,(1,gL .ready none #[8] sc47 0 19 [7,5,3,0,1,2] A),I,F,B,C,E]):Tr):=by intro A B C E F G H I;kernel_rfl
theorem Zf0 (es V:LD) (d gc f e c bc b a:List D) (m i mv j:Int) (x:LU):let A:=[D.map 4,D.map 5];let B:=(4,Ob.gen (Gen.mapC d gc) []);let C:=(6,Ob.gen (Gen.mapC c bc) []);let E:=[dF 69 [] [dP 1 0],dP 2 0,dP 3 0,dA A,dF 69 [] [dP 1 0],D.map 6];let F:=[dF 69 [] [dP 0 0],dP 2 0,dP 3 0,dA A,dF 69 [] [dP 0 0],D.map 6];let G:=(2,oC [D.map 6]);let H:=(5,Ob.gen (Gen.mapC b a) []);let I:=(5,Ob.gen (Gen.mapC f e) []);let J:=[dL es []];let K:=cut sc69 1;let L:=(7,dL es []);let M:=(j+(1:Int));let N:=(0,D.yld 1);let O:=(i+(1:Int));gH (ctr libT (asmA (dB true) (updK 5 (mO b a))) (eOne [dS x])) 7 false rs69 K (hdVj es V m i mv j (Z7R es (mO d gc) (mO f e) (mO c bc)))=(brT (decide (j<mv)) (Ow ((0:Int)<=j/\V[Int.toNat j]? = some [dS x]) (Ow (CallL Tryz.prog (D.yld 0) [dS x] [(0,gL .ready none #[8] sc47 0 19 [7,5,3,0,1,2] E),(1,oC J),G,(3,oC A),B,I,C] λr0 ob0=>r0=dB true/\ob0=[(0,gL .ready none #[8] sc47 0 19 [7,5,3,0,1,2] E),(1,oC J),G,(3,oC A),B,H,C]) (I8 M (Jm K {tm:=[N,L,(8,dI m),(9,dI i),(14,dL V []),(15,dI mv),(16,dI M)],ob:=[(0,oC J),(1,gL .ready none #[8] sc47 0 19 [7,5,3,0,1,2] F),G,(3,oC A),B,H,C]})))) (I8 O (Jm (cut sc69 0) {tm:=[N,L,(8,dI m),(9,dI O)],ob:=[(0,oC J),(1,gL .ready none #[8] sc47 0 19 [7,5,3,0,1,2] F),G,(3,oC A),B,I,C]})):Tr):=by intro A B C E F G H I J K L M N O;kernel_rfl
theorem Ztv (b gc d c a bc:List D):let A:=[D.map 2,D.map 5];gC (ctr libT) 7 rs73 sc73 [] [D.yld 1] [dP 0 0] (Z7Q (mO b gc) (mO d c) (mO a bc))=(Jm (spc sc73 0) {tm:=[(0,D.yld 1),(1,dP 0 0)],ob:=[(0,oC [D.map 2]),(1,gL .ready none #[8] sc47 0 19 [7,5,3,0,1,2] [dF 73 [] [dP 0 0],dP 3 0,dP 4 0,dA A,dF 73 [] [dP 0 0],D.map 6]),(2,Ob.gen (Gen.mapC b gc) []),(3,oC [D.map 6]),(4,oC A),(5,Ob.gen (Gen.mapC d c) []),(6,Ob.gen (Gen.mapC a bc) [])]}:Tr):=by intro A;kernel_rfl
theorem ZnK (b gc d c a bc:List D) (l:List Nat) (cl:Nat):let A:=[D.map 2,D.map 5];let B:=[D.map 2];let C:=(3,oC [D.map 6]);let E:=(0,D.yld 1);gH (ctr libT) 7 false rs73 (aft sc73 0) {tm:=[(5,dP 12 0),(4,D.map 2),E,(1,dP 0 0)],ob:=[(12,itO l [] cl 2),(2,mbO b gc l cl),(0,oC B),(1,Z5r (dsCk fY 0 3 4 2 5 6)),C,(4,oC A),(5,mO d c),(6,mO a bc)]}=(Jm (cut sc73 0) {tm:=[E,(5,dP 7 0)],ob:=[(0,oC B),(1,gL .ready none #[8] sc47 0 19 [7,5,3,0,1,2] [dF 73 [] [dP 0 0],dP 3 0,dP 4 0,dA A,dF 73 [] [dP 0 0],D.map 6]),(2,Ob.gen (Gen.mapB b gc l cl) []),C,(4,oC A),(5,Ob.gen (Gen.mapC d c) []),(6,Ob.gen (Gen.mapC a bc) []),(7,Ob.gen (Gen.iter l [] cl) B)]}:Tr):=by intro A B C E;kernel_rfl
theorem Zf5 (b gc d c a bc:List D) (l ix:List Nat) (cl:Nat):let A:=[(0,D.yld 1),(5,dP 7 0)];let B:=[D.map 2,D.map 5];gH (ctr libT) 7 false rs73 (cut sc73 0) {tm:=A,ob:=Z7Q (mbO b gc l cl) (mO d c) (mO a bc)++[(7,itO l ix cl 2)]}=(Jm (spc sc73 1) {tm:=A,ob:=[(0,oC [D.map 2]),(1,gL .ready none #[8] sc47 0 19 [7,5,3,0,1,2] [dF 73 [] [dP 0 0],dP 3 0,dP 4 0,dA B,dF 73 [] [dP 0 0],D.map 6]),(2,Ob.gen (Gen.mapB b gc l cl) []),(3,oC [D.map 6]),(4,oC B),(5,Ob.gen (Gen.mapC d c) []),(6,Ob.gen (Gen.mapC a bc) []),(7,Ob.gen (Gen.iter l ix cl) [D.map 2])]}:Tr):=by intro A B;kernel_rfl
theorem ZnJ (b gc d c a bc:List D) (l ix:List Nat) (cl:Nat):let A:=[D.map 2,D.map 5];let B:=(0,oC [D.map 2]);let C:=(3,oC [D.map 6]);gH (ctr libT) 7 false rs73 (aft sc73 1) {tm:=[(7,dB false),(6,D.undef),(0,D.yld 1),(5,dP 7 0)],ob:=[(2,mO b gc),B,(1,Z5r (dsCk fY 0 3 4 2 5 6)),C,(4,oC A),(5,mO d c),(6,mO a bc),(7,itO l ix cl 2)]}=(Rt (D.tuple []) [B,(1,gL .ready none #[8] sc47 0 19 [7,5,3,0,1,2] [dF 73 [] [dP 0 0],dP 3 0,dP 4 0,dA A,dF 73 [] [dP 0 0],D.map 6]),(2,Ob.gen (Gen.mapC b gc) []),C,(4,oC A),(5,Ob.gen (Gen.mapC d c) []),(6,Ob.gen (Gen.mapC a bc) [])]:Tr):=by intro A B C;kernel_rfl
theorem ZnI (d gc f e c bc b a:List D) (l ix:List Nat) (cl:Nat) (x:LU):let A:=[(7,itO l ix cl 2),(0,oC [D.map 2]),(1,Z5r (dsCk fY 0 3 4 2 5 6)),(2,mbO d gc l cl),(3,oC [D.map 6]),(4,oC [D.map 2,D.map 5]),(5,mO f e),(6,mO c bc)];let B:=[dF 73 [] [dP 1 0],dP 2 0,dP 3 0,dA [D.map 4,D.map 5],dF 73 [] [dP 1 0],D.map 6];let C:=(6,Ob.gen (Gen.mapC c bc) []);let E:=[(7,dB true),(6,D.undef),(0,D.yld 1),(5,dP 7 0)];let F:=Gen.mapB d gc l cl;let G:=(5,Ob.gen (Gen.mapC b a) []);let H:=(3,oC [D.map 4,D.map 5]);let I:=[D.map 6];let J:=[D.map 2,D.map 5];let K:=(1,oC [D.map 4]);let L:=(4,Ob.gen F []);let M:=[dS x,dA []];gH (ctr libT (asmA (dB true) (updK 5 (mO b a))) (eOne [D.tuple M])) 7 false rs73 (aft sc73 1) {tm:=E,ob:=A}=(Ow (extD Ext.entry [dP 7 0] (lk (St.ob {tm:=E,ob:=A}))=some (D.tuple M)) (Ow (CallL Tryz.prog (D.yld 0) [dS x] [(0,gL .ready none #[8] sc47 0 19 [7,5,3,0,1,2] B),K,(2,oC I),H,L,(5,Ob.gen (Gen.mapC f e) []),C] λr0 ob0=>r0=dB true/\ob0=[(0,gL .ready none #[8] sc47 0 19 [7,5,3,0,1,2] B),K,(2,oC I),H,L,G,C]) (Jm (cut sc73 0) {tm:=[(0,D.yld 1),(5,dP 7 0)],ob:=[(0,oC [D.map 2]),(1,gL .ready none #[8] sc47 0 19 [7,5,3,0,1,2] [dF 73 [] [dP 0 0],dP 3 0,dP 4 0,dA J,dF 73 [] [dP 0 0],D.map 6]),(2,Ob.gen F []),(3,oC I),(4,oC J),G,C,(7,Ob.gen (Gen.iter l ix cl) [D.map 2])]})):Tr):=by intro A B C E F G H I J K L M;kernel_rfl
end Go.Proofs.YtaclfbhhekhflaaGreatDoor.S
