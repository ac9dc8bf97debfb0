/- Own work: a layer over the kit: plain data,a walk over it,its soundness. -/
import Derived.Test.YtaclfbhhekhflaaGreatDoorArA
import Derived.Test.YtaclfbhhekhflaaGreatDoorArFunB
import Derived.Test.YtaclfbhhekhflaaGreatDoorShelfN
import Derived.Test.YtaclfbhhekhflaaGreatDoorSx9
import Derived.Test.YtaclfbhhekhflaaGreatDoorSx10
set_option linter.all false
set_option maxRecDepth 100000
/- slices.SortFunc,slices.CompactFunc,arith.set,at numbers. -/
noncomputable section
namespace Go.Proofs.YtaclfbhhekhflaaGreatDoor
open Go.Sx Go.RowKit
theorem ZrV (x y:Int):CF 90 [.agg [.int .u8 1,.int .i64 x,.str [],.slice [] []],.agg [.int .u8 1,.int .i64 y,.str [],.slice [] []]] [] λr ob=>r=.int .i64 (ncmp x y)/\ob=[]:=by
 have b:=Zs0 [] [] [] [] (by simp) (by simp) (λx hx=>by cases hx);refine CallL.tree Z3 fp90 (Z2 Za0 (Z0Q (.int .i64 0))) (Zi7 1 x [] [] 1 y [] [] 0 [] []) ?_;simp only[SS,fst0];have h1:Lib.compareBytes [] []=0:=by simp[Lib.compareBytes]
 have h2:ncmp 0 0=0:=rfl;have a:CF 128 [.slice [] [],.slice [] [],.func (.func 90) [] []] [] λr ob=>r=.int .i64 0/\ob=[]:=by simpa [Tm.cmpL,Tm.cellsL] using b
 refine⟨by omega,by omega,λh=>absurd rfl h,λ_=>⟨λ_ h=>absurd trivial h,λh=>⟨a,?_⟩⟩⟩;simp[h1,h2,h]
theorem ZiW (q:List Int) (b:q.Nodup) (c:q≠[]) (a:q.length<4611686018427387904):CF 183 [.vec 0,.func (.func 90) [] []] [(0,.arr false 4 25 (numC q))]
  λr ob=>r=.tuple []/\ob=[(0,.arr false 4 25 (numC (Z2b q)))] :=
 CallL.sortK (by kernel_rfl) (by kernel_rfl) (λblk cap d w hc hH e hs=>Go.Proofs.AnyQ.slices_SortFunc Tryz.sortL 4 Tryz.isAgg25 Tryz.sizeOf25 encN Zgz Zgy cfN swoN 90 #[] blk 0 cap d w (enters_of Tryz.func90 (by kernel_rfl) rfl) hc hH e hs) ZrV _ q b c a
theorem ZmS (k n:Int) (s:LU) (a:LD) (d e:Int) (s':LU) (b:LD) (c:Int):let A:=[dA [dU k,dI n,dS s,dL a []],dA [dU d,dI e,dS s',dL b []]];gC (ctr (asmP (dI c))) 0 rs58 sc58 [] A [] []=(Ow (FK 90 A (dI c)) (Rt (dB (decide (c=(0:Int)))) []):Tr):=by intro A;kernel_rfl
theorem ZmW (es:LD):let A:=[(0,oR false 4 25 es)];gC (ctr libT) 1 Zci ZaF [] [dV 0,dF 58 [] []] [] A=(brT (decide ((↑(List.length es):Int)<(2:Int))) (Rt (dV 0) A) (Jm (cut ZaF 0) {tm:=[(0,dV 0),(1,dF 58 [] []),(5,dI 1)],ob:=A}):Tr):=by intro A;kernel_rfl
def hdCp (es:LD) (i:Int):St:=⟨[(0,.vec 0),(1,.func (.func 58) [] []),(5,.int .i64 i)],[(0,.arr false 4 25 es)]⟩
theorem ZeA (es:LD) (i:Nat) (a b:Int):let A:=[dU 1,dI a,dS [],dL [] []];let B:=[dU 1,dI b,dS [],dL [] []];let C:=(↑(List.length es):Int);let E:=[(0,oR false 4 25 es)];let F:=((↑i:Int)-(1:Int));let G:=((↑i:Int)+(1:Int));let H:=cut ZaF 0;gH (ctr libT (asmQ (dB false)) (eTwo 22 A B)) 1 false Zci H (hdCp es (↑i:Int))=(brT (decide ((↑i:Int)<C)) (Ow ((0:Int)<=(↑i:Int)/\(↑i:Int)<C) (Ow (es[Int.toNat (↑i:Int)]? = some A) (I8 F (Ow ((0:Int)<=(↑i:Int)-(1:Int)/\(↑i:Int)-(1:Int)<C) (Ow (es[Int.toNat F]? = some B) (Ow (CQ 58 [dA A,dA B] [] (dB false) []) (I8 G (Jm H {tm:=[(0,dV 0),(1,dF 58 [] []),(5,dI G)],ob:=E})))))))) (Rt (dV 0) E):Tr):=by intro A B C E F G H;kernel_rfl
theorem Zmn (es a:LD):let A:=[(0,oR false 4 25 a)];let B:=[(0,oR false 4 25 es)];goT Tryz.prog {F:=λx=>limP,C:=λt=>asmO (if t=6 then dV 0 else D.tuple []) A,E:=noE} 1 (finF false 1 Zkb) 2000 [Fr.sc Zjk] {tm:=ZM 0 ([]++[dV 0]++[]),ob:=B}=(Ow (CQ 183 [dV 0,dF 90 [] []] B (D.tuple []) A) (Ow (CQ 184 [dV 0,dF 58 [] []] A (dV 0) A) (Ow ((↑(List.length a):Int)<=(1000:Int)) (Rt (dV 0) A))):Tr):=by intro A B;kernel_rfl
theorem eqN (x y:Int) (h:x≠y):CF 58 [.agg [.int .u8 1,.int .i64 x,.str [],.slice [] []],.agg [.int .u8 1,.int .i64 y,.str [],.slice [] []]] [] λr ob=>r=.bool false/\ob=[]:=by
 have a:FK 90 [.agg [.int .u8 1,.int .i64 x,.str [],.slice [] []],.agg [.int .u8 1,.int .i64 y,.str [],.slice [] []]] (.int .i64 (ncmp x y)) :=
  FnOK.of_call ZpZ ((ZrV x y).mono λr ob ⟨h1,h2⟩=>by subst h1;subst h2;exact .inr ⟨rfl,rfl⟩)
 refine CallL.tree Z3 fp58 (Z2 (Zm (.int .i64 (ncmp x y))) Z0) (ZmS 1 x [] [] 1 y [] [] (ncmp x y)) ?_;simp only[SS];refine⟨a,?_⟩;have:ncmp x y≠0:=by unfold ncmp;split<;>(try split)<;>omega
 simp[this]
theorem Z9q {l:List Int} {i:Nat} (h:i<l.length):(numC l)[i]? = some [.int .u8 1,.int .i64 l[i],.str [],.slice [] []]:=by simp[numC,h]
theorem Zvm (l:List Int) (hl:l.length<=1000) (hs:l.Pairwise (· < ·)): ∀ (m i:Nat),l.length-i=m->i<=l.length->1<=i →
  At Tryz.prog 1 (cut ZaF 0) (hdCp (numC l) i) (FinQ false 1 Zci λr ob=>r=.vec 0/\ob=[(0,.arr false 4 25 (numC l))]):=by
 intro m;induction m with
 |zero =>
  intro i hm hi h1;refine At.tree (Z2 Z1 (Z0Q (.bool false))) (ZeA (numC l) i 0 0) ?_;simp only[SS,Z1w];exact⟨λh=>by omega,λ_=>trivial⟩
 |succ m d =>
  intro i hm hi h1;have h2:i<l.length:=by omega
  have b:=d (i+1) (by omega) (by omega) (by omega);have a:=eqN l[i] l[i-1] (by
   have:=List.pairwise_iff_getElem.1 hs (i-1) i (by omega) h2 (by omega);omega)
  have c:(numC l)[((i:Int)-1).toNat]? = some [.int .u8 1,.int .i64 l[i-1],.str [],.slice [] []]:=by
   rw[show ((i:Int)-1).toNat=i-1 by omega];exact Z9q (by omega)
  refine At.tree (Z2 Z1 (Z0Q (.bool false))) (ZeA (numC l) i l[i] l[i-1]) ?_;simp only[SS,Z1w];exact⟨λ_=>⟨by omega,Z9q h2,by omega,by omega,c,a,by omega,b⟩,λh=>by omega⟩
theorem ZrT (l:List Int) (hl:l.length<=1000) (hs:l.Pairwise (· < ·)):CF 184 [.vec 0,.func (.func 58) [] []] [(0,.arr false 4 25 (numC l))]
  λr ob=>r=.vec 0/\ob=[(0,.arr false 4 25 (numC l))]:=by
 refine CallL.tree Z3 ZqS (Z2 Z1 Z0) (ZmW (numC l)) ?_;simp only[SS,Z1w];exact⟨λ_=>trivial,λh=>Zvm l hl hs _ 1 rfl (by omega) (Nat.le_refl _)⟩
theorem ZiY (es:Nat->D) (ob':Obs):(⟨λ_=>limP,λt=>asmO (es t) ob',noE⟩:Ctr).OK Tryz.prog:=⟨λ_=>Z18,λt=>Zw (es t) ob'⟩
theorem ZaS {q l:List Int} (h:q.Perm l) (a:l.Nodup):q.Nodup:=h.nodup_iff.2 a
theorem Zoe (q:List Int) (b:q.Nodup) (hl:q.length<=1000):SetC q (Z2b q):=by
 by_cases c:q=[]
 ·subst c;exact set0
 ·refine CallL.frz ?_;refine CallL.tree Z3 Zr6 (ZiY _ _) (Zmn (numC q) (numC (Z2b q))) ?_;have a:=Z3F b;simp only[SS,Z1w,a];exact⟨ZiW q b c (by omega),ZrT _ (by omega) (Z2a q),by omega⟩
end Go.Proofs.YtaclfbhhekhflaaGreatDoor
/- slices.Min,slices.Max,arith.interval. -/
namespace Go.Proofs.YtaclfbhhekhflaaGreatDoor
open Go.Sx
theorem ZmB (es:LD) (x:Int):gP (ctr libT Qr (eOne [dI x])) Zcm ZaI [dL es []]=(brT (decide ((↑(List.length es):Int)<(1:Int))) (Ow (some (D.raw (Value.iface 9 (valV (dS [115,108,105,99,101,115,46,77,105,110,58,32,101,109,112,116,121,32,108,105,115,116]))))=some (dI x)) Tr.bad) (Ow ((0:Int)<=(0:Int)/\es[0]? = some [dI x]) (Jm (cut ZaI 0) {tm:=[(0,dL es []),(3,dI x),(4,dI 1)],ob:=[]})):Tr):=by kernel_rfl
theorem ZmC (es:LD) (x:Int):gP (ctr libT Qr (eOne [dI x])) Zcl ZaH [dL es []]=(brT (decide ((↑(List.length es):Int)<(1:Int))) (Ow (some (D.raw (Value.iface 9 (valV (dS [115,108,105,99,101,115,46,77,97,120,58,32,101,109,112,116,121,32,108,105,115,116]))))=some (dI x)) Tr.bad) (Ow ((0:Int)<=(0:Int)/\es[0]? = some [dI x]) (Jm (cut ZaH 0) {tm:=[(0,dL es []),(3,dI x),(4,dI 1)],ob:=[]})):Tr):=by kernel_rfl
def hdMm (es:LD) (m i:Int):St:=⟨[(0,.slice es []),(3,.int .i64 m),(4,.int .i64 i)],[]⟩
theorem Zag (es:LD) (m:Int) (i:Nat) (x r:Int):let A:=((↑i:Int)+(1:Int));let B:=cut ZaI 0;gH (ctr libT Qr (eTwo 23 [dI r] [dI x])) 0 true Zcm B (hdMm es m (↑i:Int))=(brT (decide ((↑i:Int)<(↑(List.length es):Int))) (Ow ((0:Int)<=(↑i:Int)/\es[Int.toNat (↑i:Int)]? = some [dI x]) (Ow (IntKind.i64=IntKind.i64/\(if false=true then if x > m then x else m else if x<m then x else m)=r) (I8 A (Jm B {tm:=[(0,dL es []),(3,dI r),(4,dI A)],ob:=[]})))) (Rt (dI m) []):Tr):=by intro A B;kernel_rfl
theorem Zah (es:LD) (m:Int) (i:Nat) (x r:Int):let A:=((↑i:Int)+(1:Int));let B:=cut ZaH 0;gH (ctr libT Qr (eTwo 23 [dI r] [dI x])) 0 true Zcl B (hdMm es m (↑i:Int))=(brT (decide ((↑i:Int)<(↑(List.length es):Int))) (Ow ((0:Int)<=(↑i:Int)/\es[Int.toNat (↑i:Int)]? = some [dI x]) (Ow (IntKind.i64=IntKind.i64/\(if true=true then if x > m then x else m else if x<m then x else m)=r) (I8 A (Jm B {tm:=[(0,dL es []),(3,dI r),(4,dI A)],ob:=[]})))) (Rt (dI m) []):Tr):=by intro A B;kernel_rfl
theorem Zsu (es fs:LD) (a b:Int):let A:=Rt (D.own 4 25 []) [];goT Tryz.prog {F:=λt=>if t=17 then asmP (dI a) else if t=19 then asmP (dI b) else limP,C:=λx=>Qr,E:=noE} 0 (finF true 0 rs93) 2000 [Fr.sc sc93] {tm:=ZM 0 [dL es [],dL fs []],ob:=[]}=(brT (decide ((↑(List.length es):Int)=(0:Int))) A (brT (decide ((↑(List.length fs):Int)=(0:Int))) A (Ow (FK 130 [dL es []] (dI a)) (Ow (FK 131 [dL fs []] (dI b)) (I8 (b-a) (I8 (b-a+(1:Int)) (Ow (b-a+(1:Int)<=(1000:Int)) (Jm (cut sc93 0) {tm:=[(4,dV 0),(6,dI b),(7,dI a)],ob:=[(0,oR true 4 25 [])]}))))))):Tr):=by intro A;kernel_rfl
def hdIv (row:LD) (b n:Int):St:=⟨[(4,.vec 0),(6,.int .i64 b),(7,.int .i64 n)],[(0,.arr true 4 25 row)]⟩
theorem Zex (row:LD) (b n:Int):let A:=[dU 1,dI n,dS [],dL [] []];let B:=cut sc93 0;let C:=(n+(1:Int));gH (ctr (asmP (dA A))) 0 true rs93 B (hdIv row b n)=(brT (decide (n<=b)) (Ow (FK 133 [dI n] (dA A)) (Ow (Ze 4 [A]/\List.length row+1<=1073741824) (I8 C (Jm B {tm:=[(4,dV 0),(6,dI b),(7,dI C)],ob:=[(0,oR true 4 25 (row++[A]))]})))) (Rt (D.own 4 25 row) []):Tr):=by intro A B C;kernel_rfl
theorem Zqc (l:List Int) (hl:l.length<=4611686018427387904): ∀ (m i:Nat) (a:Int),l.length-i=m->i<=l.length →
  At Tryz.prog 0 (cut ZaI 0) (hdMm (intC .i64 l) a i) (FinQ true 0 Zcm λr _=>r=.int .i64 ((l.drop i).foldl min a)):=by
 intro m;induction m with
 |zero =>
  intro i a hm hi;refine At.tree (Z2 Z1 Z0) (Zag (intC .i64 l) a i 0 0) ?_;rw[List.drop_eq_nil_of_le (by omega)];simp only[SS,ZR];exact⟨λh=>by omega,λ_=>rfl⟩
 |succ m c =>
  intro i a hm hi;have h1:i<l.length:=by omega
  have b:=c (i+1) (min a l[i]) (by omega) (by omega);rw[Zc h1,List.foldl_cons];refine At.tree (Z2 Z1 Z0) (Zag (intC .i64 l) a i l[i] (min a l[i])) ?_;simp only[SS,ZR];refine⟨λ_=>⟨⟨by omega,Z0J h1⟩,?_,by omega,b⟩,λh=>by omega⟩;first
   |(refine⟨trivial,?_⟩;simp only[Bool.false_eq_true,if_false];split<;>omega)
   |(simp only[Bool.false_eq_true,if_false];split<;>omega)
   |(split<;>omega)
theorem Zqd (l:List Int) (hl:l.length<=4611686018427387904): ∀ (m i:Nat) (a:Int),l.length-i=m->i<=l.length →
  At Tryz.prog 0 (cut ZaH 0) (hdMm (intC .i64 l) a i) (FinQ true 0 Zcl λr _=>r=.int .i64 ((l.drop i).foldl max a)):=by
 intro m;induction m with
 |zero =>
  intro i a hm hi;refine At.tree (Z2 Z1 Z0) (Zah (intC .i64 l) a i 0 0) ?_;rw[List.drop_eq_nil_of_le (by omega)];simp only[SS,ZR];exact⟨λh=>by omega,λ_=>rfl⟩
 |succ m c =>
  intro i a hm hi;have h1:i<l.length:=by omega
  have b:=c (i+1) (max a l[i]) (by omega) (by omega);rw[Zc h1,List.foldl_cons];refine At.tree (Z2 Z1 Z0) (Zah (intC .i64 l) a i l[i] (max a l[i])) ?_;simp only[SS,ZR];refine⟨λ_=>⟨⟨by omega,Z0J h1⟩,?_,by omega,b⟩,λh=>by omega⟩;first
   |(refine⟨trivial,?_⟩;simp only[if_true];split<;>omega)
   |(simp only[if_true];split<;>omega)
   |(split<;>omega)
theorem ZhH (l:List Int) (b:l≠[]) (hl:l.length<=4611686018427387904):FK 130 [.slice (intC .i64 l) []] (.int .i64 (minI l)):=by
 match l,b with
 |a::r,_ =>
  have c:=Zqc (a::r) hl _ 1 a rfl (by simp);refine FnOK.tree Z3 Zrc (Z2 Z1 Z0) (ZmB (intC .i64 (a::r)) a) ?_;simp only[SS,ZR,List.length_cons];refine⟨λh=>by omega,λ_=>⟨rfl,c⟩⟩
theorem ZhJ (l:List Int) (b:l≠[]) (hl:l.length<=4611686018427387904):FK 131 [.slice (intC .i64 l) []] (.int .i64 (maxI l)):=by
 match l,b with
 |a::r,_ =>
  have c:=Zqd (a::r) hl _ 1 a rfl (by simp);refine FnOK.tree Z3 Zrb (Z2 Z1 Z0) (ZmC (intC .i64 (a::r)) a) ?_;simp only[SS,ZR,List.length_cons];refine⟨λh=>by omega,λ_=>⟨rfl,c⟩⟩
theorem Zuh (b:Int) (f:b<9223372036854775807): ∀ (m:Nat) (a:Int) (row:List Int),(b-a+1).toNat=m->row.length+m<=1073741823-> -9223372036854775808<=a →
  At Tryz.prog 0 (cut sc93 0) (hdIv (numC row) b a) (FinQ true 0 rs93 λr _=>r=.own 4 25 (numC (row++upto a m))):=by
 intro m;induction m with
 |zero =>
  intro a row hm hr ha;refine At.tree (Z2 (Zm _) Z0) (Zex (numC row) b a) ?_;simp only[SS,upto,List.append_nil];exact⟨λh=>by omega,λ_=>trivial⟩
 |succ m d =>
  intro a row hm hr ha;have c:=d (a+1) (row++[a]) (by omega) (by simp;omega) (by omega);have e:numC (row++[a])=numC row++[[.int .u8 1,.int .i64 a,.str [],.slice [] []]]:=by simp[numC]
  rw[e,List.append_assoc] at c;refine At.tree (Z2 (Zm _) Z0) (Zex (numC row) b a) ?_;simp only[SS,upto,Z1w];exact⟨λ_=>⟨ZhF a,⟨by simp[Ze],by omega⟩,by omega,c⟩,λh=>by omega⟩
theorem Zqn (a b:Int):(⟨λt=>if t=17 then asmP (.int .i64 a) else if t=19 then asmP (.int .i64 b) else limP,λ_=>Qr,noE⟩:Ctr).OK Tryz.prog:=by
 refine⟨λt=>?_,λ_=>Z0⟩;show PT.OK (if t=17 then asmP (.int .i64 a) else if t=19 then asmP (.int .i64 b) else limP);split
 ·exact Zm _
 ·split
  ·exact Zm _
  ·exact Z18
theorem Zug (lo hi L:List Int) (h1:lo.length<=1000) (h2:hi.length<=1000) (c: ∀ x∈lo,Zu x=true) (b: ∀ x∈hi,Zu x=true) (h:ivl lo hi=some L) :
  FK 93 [.slice (intC .i64 lo) [],.slice (intC .i64 hi) []] (.own 4 25 (numC L)):=by
 refine FnOK.tree Z3 fp93 (Zqn (minI lo) (maxI hi)) (Zsu (intC .i64 lo) (intC .i64 hi) (minI lo) (maxI hi)) ?_;simp only[SS,ZR];unfold ivl at h;split at h
 ·rename_i a;cases h;refine⟨λ_=>rfl,λg=>⟨λ_=>rfl,λi=>?_⟩⟩;rcases a with a|a
  ·rw[List.isEmpty_iff] at a;subst a;exact absurd rfl g
  ·rw[List.isEmpty_iff] at a;subst a;exact absurd rfl i
 ·rename_i a;split at h
  ·rename_i k;cases h;have d:lo≠[]:=λe=>a (.inl (by rw[e];rfl));have f:hi≠[]:=λe=>a (.inr (by rw[e];rfl));have f1:=ZD.1 (c _ (Z5w d));have f2:=ZD.1 (b _ (Z5x f));have l:=List.length_pos_iff.2 d;have m:=List.length_pos_iff.2 f;have j:=Zuh (maxI hi) (by omega) _ (minI lo) [] rfl (by simp;omega) (by omega);refine⟨λh=>by omega,λ_=>⟨λh=>by omega,λ_=>⟨ZhH lo d (by omega),ZhJ hi f (by omega),by omega,by omega,by omega,j⟩⟩⟩
  ·cases h
end Go.Proofs.YtaclfbhhekhflaaGreatDoor
/- arith.operation,functions,expand: where it is not too much. -/
namespace Go.Proofs.YtaclfbhhekhflaaGreatDoor
open Go.Sx
theorem Z9p (l:List Int):numC l=Tm.cellsL (l.map numT):=ZaU l
theorem Zq4 (s:LU) (ps:List (List Tm)) (L:List Tm) (f:ps.length<=1000) (hl: ∀ p∈ps,p.length<=1000) (h:opX s ps=some L):FK 95 [.str s,.slice (Zg ps) []] (.slice (Tm.cellsL L) []):=by
 unfold opX at h;split at h
 ·rename_i e;cases h;have a:(Zh (opB s) (ps.map Zl) 0 (List.replicate ps.length 0,[])).2=opF s (ZJ (ps.map Zl)):=by
   rw[(Z1C (opB s) _ 0 _ [] (by simp)).1];simp[opF]
  have b:(opF s (ZJ (ps.map Zl))).Nodup:=ZcC s _ List.nodup_nil
  have:=Zuc s ps [] (opF s (ZJ (ps.map Zl))) (Z2b (opF s (ZJ (ps.map Zl)))) (by omega) (λp hp=>by have:=hl p hp;omega) a e λq c=>by
   have d:=ZaS c b
   have:=Zoe q d (by rw[c.length_eq];exact e);rwa [Zcv (Z2a q) (Z2a (opF s (ZJ (ps.map Zl)))) λx=>by rw[Z0s,Z0s];exact c.mem_iff] at this
  rw[Z9p] at this;exact FnOK.freezeG this
 ·cases h
theorem Zlh (s:LU) (L:List (List Tm)) (a:L.length<=1000) (h:L.any List.isEmpty=true):FK 96 [.str s,.slice (Zg L) []] (.slice [] []):=by
 refine FnOK.tree Z3 fp96 (Z2 Z1 Z0) (Zi6 s (Zg L) []) ?_;rw[Z6];refine At.tree (Z2 Z1 (Za _ _)) (Zez s (Zg L) [] (L.any List.isEmpty)) ?_;rw[Z4,Zs,Z7,Z6];exact⟨ZdT [] L a,λh=>rfl,λh'=>by rw[h] at h';cases h'⟩
theorem ZfW (L:List (List Tm)) (h: ∀ l∈L,l≠[]) {i:Nat} (hi:i<=L.length):prdL L i<=(ZJ L).length:=by
 have h2: ∀ L:List (List Tm),(∀ l∈L,l≠[])->1<=(ZJ L).length:=by
  intro L;induction L with
  |nil=>intro _;simp[ZJ]
  |cons a r c =>
   intro h;have h1:=c λl hl=>h l (List.mem_cons_of_mem _ hl);have b:=List.length_pos_iff.2 (h a (List.mem_cons_self ..));rw[Z0u,List.map_cons,List.prod_cons,<- Z0u];exact Nat.mul_pos b h1
 have h1:prdL L i*(ZJ (L.drop i)).length=(ZJ L).length:=by
  unfold prdL;rw[Z0u,Z0u,<- List.prod_append,<- List.map_append,List.take_append_drop]
 have b:=h2 (L.drop i) λl hl=>h l (List.mem_of_mem_drop hl)
 calc prdL L i=prdL L i*1:=(Nat.mul_one _).symm
  _<=prdL L i*(ZJ (L.drop i)).length:=Nat.mul_le_mul_left _ b
  _=_:=h1
theorem Zru (s:LU) (ps:List (List Tm)) (L:List Tm) (c:ps.length<=1000) (h0:ps≠[]) (hl: ∀ p∈ps,p.length<=1000) (h:fnX s ps=some L):FK 96 [.str s,.slice (Zg ps) []] (.slice (Tm.cellsL L) []):=by
 unfold fnX at h;split at h
 ·rename_i a;cases h;exact Zlh s ps c a
 ·rename_i a;split at h
  ·rename_i d;cases h;have b: ∀ l∈ps,l≠[]:=λl hx e=>a (List.any_eq_true.2 ⟨l,hx,by rw[e];rfl⟩)
   have:=ZqE s ps c hl h0 d λi hi=>Nat.le_trans (ZfW ps b hi) d;rw[Bool.eq_false_iff.2 a] at this;exact FnOK.freezeG this
  ·cases h
def xpE (b nx:Int) (c:LU) (a d vs:LD):Nat->Int->List D:=λt _=>if t=31 then [.slice d []] else if t=35 then [.slice vs []] else tC b nx c a
def ZnW (l:List (Nat × D)) (E:Nat->Int->List D):Ctr:=⟨(sCtr l).F,λ_=>Qr,E⟩
theorem Z8O (l:List (Nat × D)) (E:Nat->Int->List D):(ZnW l E).OK Tryz.prog:=⟨(Zc9 l).F,λ_=>Z0⟩
theorem Zi5 (k n:Int) (s:LU) (a row:LD) (m:Int) (i:Nat) (e nx:Int) (f:LU) (d es c vs is b rs:LD):let A:=dL rs [];let B:=[dU e,dI nx,dS f,dL d []];let C:=((↑i:Int)+(1:Int));let E:=Rt A [];let F:=[dS s,dL row []];let G:=cut sc63 0;let H:=[[dL es []]];gH (ZnW [(22,dL es []),(33,dL is []),(37,dL b []),(38,dL rs []),(44,dL rs []),(48,dL rs [])] (xpE e nx f d c vs)) 0 true rs63 G (hdEx k n s a row m (↑i:Int))=(brT (decide ((↑i:Int)<m)) (Ow ((0:Int)<=(↑i:Int)/\a[Int.toNat (↑i:Int)]? = some B) (Ow (FK 63 [dA B] (dL es [])) (Ow (Ze 1 H/\List.length row+1<=1073741824) (I8 C (Jm G {tm:=[(1,dP 0 0),(3,dV 1),(14,dL a []),(15,dI m),(16,dI C)],ob:=[(0,oC [dU k,dI n,dS s,dL a []]),(1,oR true 1 23 (row++H))]}))))) (brT (decide (k=(6:Int))) (Ow ((0:Int)<=(0:Int)/\row[0]? = some [dL c []]) (Ow (FK 94 [dL c []] (dL is [])) (Ow ((0:Int)<=(1:Int)/\row[1]? = some [dL vs []]) (Ow (FK 94 [dL vs []] (dL b [])) (Ow (FK 93 [dL is [],dL b []] A) E))))) (brT (decide (k=(5:Int))) (Ow (FK 95 F A) E) (Ow (FK 96 F A) E))):Tr):=by intro A B C E F G H;kernel_rfl
def ExpG (x:Tm) (L:List Tm):Prop:=FK 63 [.agg x.cells] (.slice (Tm.cellsL L) [])
theorem Z5E (p:List Tm) (hl:p.length<=1000):FK 94 [.slice (Tm.cellsL p) []] (.slice (intC .i64 (Zl p)) []):=FnOK.freezeG (Zdc [] p (by omega))
theorem Z9H (p:List Tm):(Zl p).length<=p.length:=List.length_filterMap_le ..
def Zse (k:Nat) (s:LU) (ps:List (List Tm)) (L:List Tm):Prop :=
 (k=6->ps.length=2/\FK 93 [.slice (intC .i64 (Zl (ps.getD 0 []))) [],.slice (intC .i64 (Zl (ps.getD 1 []))) []] (.slice (Tm.cellsL L) [])) ∧
 (k=5->FK 95 [.str s,.slice (Zg ps) []] (.slice (Tm.cellsL L) [])) ∧
 (k≠5->k≠6->FK 96 [.str s,.slice (Zg ps) []] (.slice (Tm.cellsL L) []))
theorem Z1u {ps:List (List Tm)} {i:Nat} (h:i<ps.length):(Zg ps)[i]? = some [.slice (Tm.cellsL (ps.getD i [])) []]:=by
 rw[Z06 h];simp[h]
theorem Zlp (k:Nat) (n:Int) (s:LU) (l:List Tm) (ps:List (List Tm)) (L:List Tm) (v:ps.length=l.length) (hl:l.length<=1000) (hp: ∀ p∈ps,p.length<=1000) (H: ∀ (i:Nat) (h:i<l.length) (h':i<ps.length),ExpG l[i] ps[i]) (a:Zse k s ps L) :
  ∀ (m i:Nat),l.length-i=m->i<=l.length →
  At Tryz.prog 0 (cut sc63 0) (hdEx k n s (Tm.cellsL l) (Zg (ps.take i)) l.length i) (FinQ true 0 rs63 λr _=>r=.slice (Tm.cellsL L) []):=by
 have o:((k:Int)=6)=(k=6):=propext (by omega);have j:((k:Int)=5)=(k=5):=propext (by omega);intro m;induction m with
 |zero =>
  intro i hm hi;refine At.tree (Z8O _ _) (Zi5 k n s (Tm.cellsL l) (Zg (ps.take i)) l.length i 0 0 [] [] [] (Tm.cellsL (ps.getD 0 [])) (Tm.cellsL (ps.getD 1 [])) (intC .i64 (Zl (ps.getD 0 []))) (intC .i64 (Zl (ps.getD 1 []))) (Tm.cellsL L)) ?_;rw[List.take_of_length_le (show ps.length<=i by omega)];simp only[SS,o,j];refine⟨λh=>by omega,λ_=>⟨λd=>?_,λd=>⟨a.2.1,λu=>a.2.2 u d⟩⟩⟩;obtain⟨h2,hi⟩:=a.1 d;have gl: ∀ i,(ps.getD i []).length<=1000:=λi=>by
   rw[List.getD_eq_getElem?_getD];cases w:ps[i]? with
   |none=>simp
   |some p=>exact hp p (List.mem_of_getElem? w)
  have q:=Z1u (ps:=ps) (i:=0) (by omega);have t:=Z1u (ps:=ps) (i:=1) (by omega);exact⟨q,Z5E _ (gl 0),⟨by decide,t⟩,Z5E _ (gl 1),hi⟩
 |succ m z =>
  intro i hm hi;have h1:i<l.length:=by omega
  have h2:i<ps.length:=by omega
  have hx:=ZN h1;have c:=H i h1 h2;have f:=z (i+1) (by omega) (by omega);have y:Zg (ps.take (i+1))=Zg (ps.take i)++[[.slice (Tm.cellsL ps[i]) []]]:=by
   rw[List.take_add_one,List.getElem?_eq_getElem h2];simp only[Zg,List.map_append,Option.toList_some,List.map_cons,List.map_nil]
  rw[y] at f;unfold ExpG at c;generalize l[i]=x at hx c;generalize ps[i]=e at c f;obtain⟨A,nx,B,g⟩:=x;refine At.tree (Z8O _ _) (Zi5 k n s (Tm.cellsL l) (Zg (ps.take i)) l.length i A nx B (Tm.cellsL g) (Tm.cellsL e) [] [] [] [] (Tm.cellsL L)) ?_;have b:(Zg (ps.take i)).length=i:=by rw[ZX,List.length_take];omega
  simp only[SS,b];exact⟨λ_=>⟨⟨by omega,hx⟩,c,⟨by simp[Ze],by omega⟩,by omega,f⟩,λh=>by omega⟩
theorem Z8j: ∀ (x:Tm) (L:List Tm),x.few 1000->x.all Tm.shape=true->x.all Tm.gr=true->x.xp=some L->ExpG x L
 |.mk k n s l,L,hx,t,m,h=>by
  have hs:=ZI.1 t;have w:=ZI.1 m;have hc:=ZdW _ hx;simp only[Tm.few] at hx;obtain⟨hl,B⟩:=hx;rw[Tm.xp] at h;split at h
  ·rename_i f;have f:l=[]:=List.isEmpty_iff.1 f;subst f;cases h;have:FK 63 [.agg (Tm.mk k n s []).cells] (.own 4 25 (Tm.cellsL [.mk k n s []])):=by
    refine FnOK.tree Z3 fp63 (Z2 (Zm _) Z0) (ZmR k n s) ?_;exact⟨hc,rfl⟩
   exact FnOK.freezeG this
  ·rename_i f;have f:l≠[]:=λe=>f (by rw[e];rfl);cases a:Tm.xpL l with
   |none=>rw[a] at h;cases h
   |some ps =>
    rw[a] at h;have b:=Z2x a;have hp: ∀ p∈ps,p.length<=1000:=λp hp=>(Z2w a hp).elim λx hx=>Zbr hx.2;have d: ∀ i,∀ c∈Zl (ps.getD i []),Zu c=true:=λi c hc=>by
     obtain⟨x,hx,z⟩:=Z3S.1 hc;rw[List.getD_eq_getElem?_getD] at hx;cases o:ps[i]? with
     |none=>rw[o] at hx;cases hx
     |some p =>
      rw[o] at hx;obtain⟨y,C,A⟩:=Z2w a (List.mem_of_getElem? o);exact Z3T (Z1i y p x (hs.2 y C) (w.2 y C) A hx).2.1 z
    have j: ∀ i,(Zl (ps.getD i [])).length<=1000:=λi=>by
     refine Nat.le_trans (Z9H _) ?_;rw[List.getD_eq_getElem?_getD];cases o:ps[i]? with
     |none=>simp
     |some p=>exact hp p (List.mem_of_getElem? o)
    have H: ∀ (i:Nat) (h:i<l.length) (h':i<ps.length),ExpG l[i] ps[i]:=λi h h' =>
     have hm:l[i]∈l:=List.getElem_mem h
     Z8j l[i] ps[i] (Qu.1 B _ hm) (hs.2 _ hm) (w.2 _ hm) (Z7q a i h h')
    have g:Zse k s ps L:=by
     simp only[xpK] at h;refine⟨λv=>?_,λu=>?_,λu v=>?_⟩
     ·subst v;rw[if_pos rfl] at h;cases hv:ivl (Zl (ps.getD 0 [])) (Zl (ps.getD 1 [])) with
      |none=>rw[hv] at h;cases h
      |some q =>
       rw[hv] at h;cases h
       have:=Zug _ _ q (j 0) (j 1) (d 0) (d 1) hv;rw[Z9p] at this;exact⟨by rw[b];exact Z6r hs.1,FnOK.freezeG this⟩
     ·subst u;rw[if_neg (by decide),if_pos rfl] at h;exact Zq4 s ps L (by omega) hp h
     ·rw[if_neg v,if_neg u] at h;exact Zru s ps L (by omega) (λe=>f (by rw[e] at b;exact List.length_eq_zero_iff.1 b.symm)) hp h
    have D:=Zlp k n s l ps L b hl hp H g _ 0 rfl (Nat.zero_le _);unfold ExpG;clear g H d j hp hc hs w t m h a B;cases l with
    |nil=>exact absurd rfl f
    |cons x r =>
     refine FnOK.tree Z3 fp63 (Z2 Z1 Z0) (ZmQ k n s x.cells (Tm.cellsL r)) ?_;rw[Z6];have e:(x.cells::Tm.cellsL r).length=(x::r).length:=by simp[Z5]
     rw[e];exact D
termination_by x=>SizeOf.sizeOf x
decreasing_by
 have:=List.sizeOf_lt_of_mem hm;simp only[Tm.mk.sizeOf_spec];omega
end Go.Proofs.YtaclfbhhekhflaaGreatDoor
