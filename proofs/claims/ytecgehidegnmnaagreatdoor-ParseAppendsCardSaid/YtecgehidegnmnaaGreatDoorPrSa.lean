/- Own work: a layer over the kit: plain data,a walk over it,its soundness. -/
import Derived.Test.YtecgehidegnmnaaGreatDoorShape
import Derived.Test.YtecgehidegnmnaaGreatDoorPrR
import Derived.Test.YtecgehidegnmnaaGreatDoorSx11
set_option linter.unusedSectionVars false
set_option linter.unusedVariables false
set_option linter.unusedSimpArgs false
set_option linter.deprecated false
set_option maxRecDepth 100000
/- The kit's comparisons: trees. -/
open Go.Sx.Ps (kT nmT)
namespace Go.Proofs.YtecgehidegnmnaaGreatDoor
open Go.Sx
theorem ZcY (ka na:Int) (sa:LU) (la:LD):let A:=Rt (dB false) [];let B:=dB true;let C:=tC ka na sa la;gP (ctr (asmP B)) rs35 sc35 [dA C,dA C]=(brT (decide (ka=ka)) (brT (decide (na=na)) (brT (decide (sa=sa)) (Ow (FK 37 [dL la [],dL la []] B) (Rt B [])) A) A) A:Tr):=by intro A B C;kernel_rfl
theorem Zd4 (s:LU) (l:LD):let A:=dB true;let B:=[dS s,dL l []];gP (ctr (asmP A)) ZfP Zf2 [dA B,dA B]=(brT (decide (s=s)) (Ow (FK 37 [dL l [],dL l []] A) (Rt A [])) (Rt (dB false) []):Tr):=by intro A B;kernel_rfl
theorem Zd0 (lkz:Int) (lnoz:Bool) (lpz:LU) (laz:LD) (lopz kza nza:Int) (sza:LU) (lza:LD) (kzb nzb:Int) (szb:LU) (lzb:LD):let A:=[dU lkz,dB lnoz,dS lpz,dL laz [],dU lopz,dU kza,dI nza,dS sza,dL lza [],dU kzb,dI nzb,dS szb,dL lzb []];let B:=Rt (dB false) [];let C:=dB true;let E:=tC kza nza sza lza;let F:=tC kzb nzb szb lzb;let G:=[dS lpz,dL laz []];gP (ctr (asmP C)) ZfO Zf1 [dA A,dA A]=(brT (decide (lkz=lkz)) (brT (lnoz == lnoz) (Ow (FK 113 [dA G,dA G] C) (brT (decide (lopz=lopz)) (Ow (FK 35 [dA E,dA E] C) (Ow (FK 35 [dA F,dA F] C) (Rt C []))) B)) B) B:Tr):=by intro A B C E F G;kernel_rfl
theorem Zd1 (s:LU) (l c:LD):let A:=dB true;let B:=[dS s,dL l [],dL c []];let C:=[dS s,dL l []];gP (ctr (asmP A)) rs69 sc69 [dA B,dA B]=(Ow (FK 113 [dA C,dA C] A) (Ow (FK 114 [dL c [],dL c []] A) (Rt A [])):Tr):=by intro A B C;kernel_rfl
theorem Zd2 (l c:LD):let A:=dB true;let B:=[dL l [],dL c []];gP (ctr (asmP A)) ZfB ZeO [dA B,dA B]=(Ow (FK 37 [dL l [],dL l []] A) (Ow (FK 114 [dL c [],dL c []] A) (Rt A [])):Tr):=by intro A B;kernel_rfl
theorem Zd3 (bkz lkz:Int) (lnoz:Bool) (lpz:LU) (laz:LD) (lopz kza nza:Int) (sza:LU) (lza:LD) (kzb nzb:Int) (szb:LU) (lzb bcz:LD) (bnoz:Bool) (bfz:Int) (bez:LD) (bopz kzc nzc:Int) (szc:LU) (lzc:LD):let A:=[dU bkz,dU lkz,dB lnoz,dS lpz,dL laz [],dU lopz,dU kza,dI nza,dS sza,dL lza [],dU kzb,dI nzb,dS szb,dL lzb [],dL bcz [],dB bnoz,dU bfz,dL bez [],dU bopz,dU kzc,dI nzc,dS szc,dL lzc []];let B:=[dU lkz,dB lnoz,dS lpz,dL laz [],dU lopz,dU kza,dI nza,dS sza,dL lza [],dU kzb,dI nzb,dS szb,dL lzb []];let C:=Rt (dB false) [];let E:=dB true;let F:=tC kzc nzc szc lzc;gP (ctr (asmP E)) rs70 sc70 [dA A,dA A]=(brT (decide (bkz=bkz)) (Ow (FK 115 [dA B,dA B] E) (Ow (FK 114 [dL bcz [],dL bcz []] E) (brT (bnoz == bnoz) (brT (decide (bfz=bfz)) (Ow (FK 116 [dL bez [],dL bez []] E) (brT (decide (bopz=bopz)) (Ow (FK 35 [dA F,dA F] E) (Rt E [])) C)) C) C))) C:Tr):=by intro A B C E F;kernel_rfl
theorem ZcZ (rkz:Int) (rhz:LD) (kza nza:Int) (sza:LU) (lza:LD) (kzb nzb:Int) (szb:LU) (lzb rbz:LD) (kzc nzc:Int) (szc:LU) (lzc:LD) (kzd nzd:Int) (szd:LU) (lzd rtz:LD):let A:=[dU rkz,dL rhz [],dU kza,dI nza,dS sza,dL lza [],dU kzb,dI nzb,dS szb,dL lzb [],dL rbz [],dU kzc,dI nzc,dS szc,dL lzc [],dU kzd,dI nzd,dS szd,dL lzd [],dL rtz []];let B:=dB true;let C:=tC kza nza sza lza;let E:=tC kzb nzb szb lzb;let F:=tC kzc nzc szc lzc;let G:=tC kzd nzd szd lzd;gP (ctr (asmP B)) rs13 sc13 [dA A,dA A]=(brT (decide (rkz=rkz)) (Ow (FK 34 [dL rhz [],dL rhz []] B) (Ow (FK 35 [dA C,dA C] B) (Ow (FK 35 [dA E,dA E] B) (Ow (FK 36 [dL rbz [],dL rbz []] B) (Ow (FK 35 [dA F,dA F] B) (Ow (FK 35 [dA G,dA G] B) (Ow (FK 37 [dL rtz [],dL rtz []] B) (Rt B [])))))))) (Rt (dB false) []):Tr):=by intro A B C E F G;kernel_rfl
def hdSa (a:LD) (i:Int):St:=⟨[(0,.slice a []),(1,.slice a []),(5,.int .i64 i)],[]⟩
theorem Zbf (a:LD):let A:=(↑(List.length a):Int);gP (ctr libT) rs37 sc37 [dL a [],dL a []]=(brT (!decide (A=A)) (Rt (dB false) []) (Jm (cut sc37 0) { tm:=[(0,dL a []),(1,dL a []),(5,dI 0)],ob:=[] }):Tr):=by intro A;kernel_rfl
theorem Z3X (a:LD) (i:Int) (x0 x1 x2 x3:D):let A:=[x0,x1,x2,x3];let B:=dB true;let C:=cut sc37 0;let E:=(i+(1:Int));gH (ctr (asmP B) Z1j fun t x=>if t=19 then A else if t=23 then A else []) 0 true rs37 C (hdSa a i)=(brT (decide (i<(↑(List.length a):Int))) (Ow ((0:Int)<=i/\a[Int.toNat i]? = some A) (Ow ((0:Int)<=i/\a[Int.toNat i]? = some A) (Ow (FK 35 [dA A,dA A] B) (I8 E (Jm C { tm:=[(0,dL a []),(1,dL a []),(5,dI E)],ob:=[] }))))) (Rt B []):Tr):=by intro A B C E;kernel_rfl
theorem Zbh (a:LD):let A:=(↑(List.length a):Int);gP (ctr libT) Z9w Z82 [dL a [],dL a []]=(brT (!decide (A=A)) (Rt (dB false) []) (Jm (cut Z82 0) { tm:=[(0,dL a []),(1,dL a []),(5,dI 0)],ob:=[] }):Tr):=by intro A;kernel_rfl
theorem Z3Z (a:LD) (i:Int) (x0 x1 x2 x3 x4 x5 x6 x7 x8 x9 x10 x11 x12:D):let A:=[x0,x1,x2,x3,x4,x5,x6,x7,x8,x9,x10,x11,x12];let B:=dB true;let C:=cut Z82 0;let E:=(i+(1:Int));gH (ctr (asmP B) Z1j fun t x=>if t=19 then A else if t=23 then A else []) 0 true Z9w C (hdSa a i)=(brT (decide (i<(↑(List.length a):Int))) (Ow ((0:Int)<=i/\a[Int.toNat i]? = some A) (Ow ((0:Int)<=i/\a[Int.toNat i]? = some A) (Ow (FK 115 [dA A,dA A] B) (I8 E (Jm C { tm:=[(0,dL a []),(1,dL a []),(5,dI E)],ob:=[] }))))) (Rt B []):Tr):=by intro A B C E;kernel_rfl
theorem Zbi (a:LD):let A:=(↑(List.length a):Int);gP (ctr libT) rs34 sc34 [dL a [],dL a []]=(brT (!decide (A=A)) (Rt (dB false) []) (Jm (cut sc34 0) { tm:=[(0,dL a []),(1,dL a []),(5,dI 0)],ob:=[] }):Tr):=by intro A;kernel_rfl
theorem Z40 (a:LD) (i:Int) (x0 x1 x2:D):let A:=[x0,x1,x2];let B:=dB true;let C:=cut sc34 0;let E:=(i+(1:Int));gH (ctr (asmP B) Z1j fun t x=>if t=19 then A else if t=23 then A else []) 0 true rs34 C (hdSa a i)=(brT (decide (i<(↑(List.length a):Int))) (Ow ((0:Int)<=i/\a[Int.toNat i]? = some A) (Ow ((0:Int)<=i/\a[Int.toNat i]? = some A) (Ow (FK 69 [dA A,dA A] B) (I8 E (Jm C { tm:=[(0,dL a []),(1,dL a []),(5,dI E)],ob:=[] }))))) (Rt B []):Tr):=by intro A B C E;kernel_rfl
theorem Zbj (a:LD):let A:=(↑(List.length a):Int);gP (ctr libT) Z9v Z81 [dL a [],dL a []]=(brT (!decide (A=A)) (Rt (dB false) []) (Jm (cut Z81 0) { tm:=[(0,dL a []),(1,dL a []),(5,dI 0)],ob:=[] }):Tr):=by intro A;kernel_rfl
theorem Z41 (a:LD) (i:Int) (x0 x1:D):let A:=dB true;let B:=cut Z81 0;let C:=(i+(1:Int));gH (ctr (asmP A) Z1j fun t x=>if t=19 then [x0,x1] else if t=23 then [x0,x1] else []) 0 true Z9v B (hdSa a i)=(brT (decide (i<(↑(List.length a):Int))) (Ow ((0:Int)<=i/\a[Int.toNat i]? = some [x0,x1]) (Ow ((0:Int)<=i/\a[Int.toNat i]? = some [x0,x1]) (Ow (FK 150 [dA [x0,x1],dA [x0,x1]] A) (I8 C (Jm B { tm:=[(0,dL a []),(1,dL a []),(5,dI C)],ob:=[] }))))) (Rt A []):Tr):=by intro A B C;kernel_rfl
theorem Zbk (a:LD):let A:=(↑(List.length a):Int);gP (ctr libT) rs36 sc36 [dL a [],dL a []]=(brT (!decide (A=A)) (Rt (dB false) []) (Jm (cut sc36 0) { tm:=[(0,dL a []),(1,dL a []),(5,dI 0)],ob:=[] }):Tr):=by intro A;kernel_rfl
theorem Z42 (a:LD) (i:Int) (x0 x1 x2 x3 x4 x5 x6 x7 x8 x9 x10 x11 x12 x13 x14 x15 x16 x17 x18 x19 x20 x21 x22:D):let A:=[x0,x1,x2,x3,x4,x5,x6,x7,x8,x9,x10,x11,x12,x13,x14,x15,x16,x17,x18,x19,x20,x21,x22];let B:=dB true;let C:=cut sc36 0;let E:=(i+(1:Int));gH (ctr (asmP B) Z1j fun t x=>if t=19 then A else if t=23 then A else []) 0 true rs36 C (hdSa a i)=(brT (decide (i<(↑(List.length a):Int))) (Ow ((0:Int)<=i/\a[Int.toNat i]? = some A) (Ow ((0:Int)<=i/\a[Int.toNat i]? = some A) (Ow (FK 70 [dA A,dA A] B) (I8 E (Jm C { tm:=[(0,dL a []),(1,dL a []),(5,dI E)],ob:=[] }))))) (Rt B []):Tr):=by intro A B C E;kernel_rfl
theorem Zbg (a:LD):let A:=(↑(List.length a):Int);gP (ctr libT) rs10 sc10 [dL a [],dL a []]=(brT (!decide (A=A)) (Rt (dB false) []) (Jm (cut sc10 0) { tm:=[(0,dL a []),(1,dL a []),(5,dI 0)],ob:=[] }):Tr):=by intro A;kernel_rfl
theorem Z3Y (a:LD) (i:Int) (x0 x1 x2 x3 x4 x5 x6 x7 x8 x9 x10 x11 x12 x13 x14 x15 x16 x17 x18 x19:D):let A:=[x0,x1,x2,x3,x4,x5,x6,x7,x8,x9,x10,x11,x12,x13,x14,x15,x16,x17,x18,x19];let B:=dB true;let C:=cut sc10 0;let E:=(i+(1:Int));gH (ctr (asmP B) Z1j fun t x=>if t=19 then A else if t=23 then A else []) 0 true rs10 C (hdSa a i)=(brT (decide (i<(↑(List.length a):Int))) (Ow ((0:Int)<=i/\a[Int.toNat i]? = some A) (Ow ((0:Int)<=i/\a[Int.toNat i]? = some A) (Ow (FK 13 [dA A,dA A] B) (I8 E (Jm C { tm:=[(0,dL a []),(1,dL a []),(5,dI E)],ob:=[] }))))) (Rt B []):Tr):=by intro A B C E;kernel_rfl
end Go.Proofs.YtecgehidegnmnaaGreatDoor
/- The kit's comparisons hold of equal things. -/
namespace Go.Proofs.YtecgehidegnmnaaGreatDoor
open Go.Sx
open Go.Sx.Ps (LtW CdW TuW ElW BoW HeW RuW CoW AcW)
theorem ex2 (l:List D) (h:l.length=2):l=[l.getD 0 .undef,l.getD 1 .undef]:=by
 match l,h with
 | [x0,x1],_=>rfl
theorem ex3 (l:List D) (h:l.length=3):l=[l.getD 0 .undef,l.getD 1 .undef,l.getD 2 .undef]:=by
 match l,h with
 | [x0,x1,x2],_=>rfl
theorem ex4 (l:List D) (h:l.length=4):l=[l.getD 0 .undef,l.getD 1 .undef,l.getD 2 .undef,l.getD 3 .undef]:=by
 match l,h with
 | [x0,x1,x2,x3],_=>rfl
theorem ex13 (l:List D) (h:l.length=13):l=[l.getD 0 .undef,l.getD 1 .undef,l.getD 2 .undef,l.getD 3 .undef,l.getD 4 .undef,l.getD 5 .undef,l.getD 6 .undef,l.getD 7 .undef,l.getD 8 .undef,l.getD 9 .undef,l.getD 10 .undef,l.getD 11 .undef,l.getD 12 .undef]:=by
 match l,h with
 | [x0,x1,x2,x3,x4,x5,x6,x7,x8,x9,x10,x11,x12],_=>rfl
theorem ex20 (l:List D) (h:l.length=20):l=[l.getD 0 .undef,l.getD 1 .undef,l.getD 2 .undef,l.getD 3 .undef,l.getD 4 .undef,l.getD 5 .undef,l.getD 6 .undef,l.getD 7 .undef,l.getD 8 .undef,l.getD 9 .undef,l.getD 10 .undef,l.getD 11 .undef,l.getD 12 .undef,l.getD 13 .undef,l.getD 14 .undef,l.getD 15 .undef,l.getD 16 .undef,l.getD 17 .undef,l.getD 18 .undef,l.getD 19 .undef]:=by
 match l,h with
 | [x0,x1,x2,x3,x4,x5,x6,x7,x8,x9,x10,x11,x12,x13,x14,x15,x16,x17,x18,x19],_=>rfl
theorem ex23 (l:List D) (h:l.length=23):l=[l.getD 0 .undef,l.getD 1 .undef,l.getD 2 .undef,l.getD 3 .undef,l.getD 4 .undef,l.getD 5 .undef,l.getD 6 .undef,l.getD 7 .undef,l.getD 8 .undef,l.getD 9 .undef,l.getD 10 .undef,l.getD 11 .undef,l.getD 12 .undef,l.getD 13 .undef,l.getD 14 .undef,l.getD 15 .undef,l.getD 16 .undef,l.getD 17 .undef,l.getD 18 .undef,l.getD 19 .undef,l.getD 20 .undef,l.getD 21 .undef,l.getD 22 .undef]:=by
 match l,h with
 | [x0,x1,x2,x3,x4,x5,x6,x7,x8,x9,x10,x11,x12,x13,x14,x15,x16,x17,x18,x19,x20,x21,x22],_=>rfl
theorem Zi3 (l:List Tm) (hl:l.length<=281474976710656) (hk: ∀ x∈l,(Tm.cells x).length=4) (H: ∀ x∈l,FK 35 [.agg (Tm.cells x),.agg (Tm.cells x)] (.bool true)):FK 37 [.slice (l.map Tm.cells) [],.slice (l.map Tm.cells) []] (.bool true):=by
 have at': ∀ (m i:Nat),l.length-i=m->i<=l.length->At Tryz.prog 0 (cut sc37 0) (hdSa (l.map Tm.cells) i) (FinQ true 0 rs37 fun r _=>r= .bool true):=by
  intro m
  induction m with
  | zero =>
   intro i hm hi
   refine At.tree (Z8 (ZP (.bool true)) Z5) (Z3X (l.map Tm.cells) i .undef .undef .undef .undef) ?_
   simp only[SS,List.length_map]
   first | exact⟨fun h=>by omega,fun _=>rfl⟩ | exact⟨fun h=>by omega,fun _=>trivial⟩ | exact fun h=>by omega
  | succ m ih =>
   intro i hm hi
   have h1:i<l.length:=by omega
   have hC:=H _ (List.getElem_mem h1)
   have hx:(l.map Tm.cells)[i]? = some (Tm.cells l[i]):=by simp[h1]
   have hI:=ih (i+1) (by omega) (by omega)
   rw[ex4 _ (hk _ (List.getElem_mem h1))] at hC hx
   refine At.tree (Z8 (ZP (.bool true)) Z5) (Z3X (l.map Tm.cells) i (((Tm.cells l[i]).getD 0 .undef)) (((Tm.cells l[i]).getD 1 .undef)) (((Tm.cells l[i]).getD 2 .undef)) (((Tm.cells l[i]).getD 3 .undef))) ?_
   simp only[SS,List.length_map]
   exact⟨fun _=>⟨⟨by omega,hx⟩,⟨by omega,hx⟩,hC,by omega,hI⟩,fun h=>by omega⟩
 refine FnOK.tree Z7 fp37 (Z8 Z3 Z5) (Zbf (l.map Tm.cells)) ?_
 simp only[SS,List.length_map]
 first | exact at' _ 0 rfl (Nat.zero_le _) | exact⟨fun h=>absurd rfl h,fun _=>at' _ 0 rfl (Nat.zero_le _)⟩ | exact⟨fun h=>absurd trivial h,at' _ 0 rfl (Nat.zero_le _)⟩
theorem ZkA (l:List Lt) (hl:l.length<=281474976710656) (hk: ∀ x∈l,(Lt.c x).length=13) (H: ∀ x∈l,FK 115 [.agg (Lt.c x),.agg (Lt.c x)] (.bool true)):FK 114 [.slice (l.map Lt.c) [],.slice (l.map Lt.c) []] (.bool true):=by
 have at': ∀ (m i:Nat),l.length-i=m->i<=l.length->At Tryz.prog 0 (cut Z82 0) (hdSa (l.map Lt.c) i) (FinQ true 0 Z9w fun r _=>r= .bool true):=by
  intro m
  induction m with
  | zero =>
   intro i hm hi
   refine At.tree (Z8 (ZP (.bool true)) Z5) (Z3Z (l.map Lt.c) i .undef .undef .undef .undef .undef .undef .undef .undef .undef .undef .undef .undef .undef) ?_
   simp only[SS,List.length_map]
   first | exact⟨fun h=>by omega,fun _=>rfl⟩ | exact⟨fun h=>by omega,fun _=>trivial⟩ | exact fun h=>by omega
  | succ m ih =>
   intro i hm hi
   have h1:i<l.length:=by omega
   have hC:=H _ (List.getElem_mem h1)
   have hx:(l.map Lt.c)[i]? = some (Lt.c l[i]):=by simp[h1]
   have hI:=ih (i+1) (by omega) (by omega)
   rw[ex13 _ (hk _ (List.getElem_mem h1))] at hC hx
   refine At.tree (Z8 (ZP (.bool true)) Z5) (Z3Z (l.map Lt.c) i (((Lt.c l[i]).getD 0 .undef)) (((Lt.c l[i]).getD 1 .undef)) (((Lt.c l[i]).getD 2 .undef)) (((Lt.c l[i]).getD 3 .undef)) (((Lt.c l[i]).getD 4 .undef)) (((Lt.c l[i]).getD 5 .undef)) (((Lt.c l[i]).getD 6 .undef)) (((Lt.c l[i]).getD 7 .undef)) (((Lt.c l[i]).getD 8 .undef)) (((Lt.c l[i]).getD 9 .undef)) (((Lt.c l[i]).getD 10 .undef)) (((Lt.c l[i]).getD 11 .undef)) (((Lt.c l[i]).getD 12 .undef))) ?_
   simp only[SS,List.length_map]
   exact⟨fun _=>⟨⟨by omega,hx⟩,⟨by omega,hx⟩,hC,by omega,hI⟩,fun h=>by omega⟩
 refine FnOK.tree Z7 Zjo (Z8 Z3 Z5) (Zbh (l.map Lt.c)) ?_
 simp only[SS,List.length_map]
 first | exact at' _ 0 rfl (Nat.zero_le _) | exact⟨fun h=>absurd rfl h,fun _=>at' _ 0 rfl (Nat.zero_le _)⟩ | exact⟨fun h=>absurd trivial h,at' _ 0 rfl (Nat.zero_le _)⟩
theorem ZkB (l:List He) (hl:l.length<=281474976710656) (hk: ∀ x∈l,(He.cs x).length=3) (H: ∀ x∈l,FK 69 [.agg (He.cs x),.agg (He.cs x)] (.bool true)):FK 34 [.slice (l.map He.cs) [],.slice (l.map He.cs) []] (.bool true):=by
 have at': ∀ (m i:Nat),l.length-i=m->i<=l.length->At Tryz.prog 0 (cut sc34 0) (hdSa (l.map He.cs) i) (FinQ true 0 rs34 fun r _=>r= .bool true):=by
  intro m
  induction m with
  | zero =>
   intro i hm hi
   refine At.tree (Z8 (ZP (.bool true)) Z5) (Z40 (l.map He.cs) i .undef .undef .undef) ?_
   simp only[SS,List.length_map]
   first | exact⟨fun h=>by omega,fun _=>rfl⟩ | exact⟨fun h=>by omega,fun _=>trivial⟩ | exact fun h=>by omega
  | succ m ih =>
   intro i hm hi
   have h1:i<l.length:=by omega
   have hC:=H _ (List.getElem_mem h1)
   have hx:(l.map He.cs)[i]? = some (He.cs l[i]):=by simp[h1]
   have hI:=ih (i+1) (by omega) (by omega)
   rw[ex3 _ (hk _ (List.getElem_mem h1))] at hC hx
   refine At.tree (Z8 (ZP (.bool true)) Z5) (Z40 (l.map He.cs) i (((He.cs l[i]).getD 0 .undef)) (((He.cs l[i]).getD 1 .undef)) (((He.cs l[i]).getD 2 .undef))) ?_
   simp only[SS,List.length_map]
   exact⟨fun _=>⟨⟨by omega,hx⟩,⟨by omega,hx⟩,hC,by omega,hI⟩,fun h=>by omega⟩
 refine FnOK.tree Z7 fp34 (Z8 Z3 Z5) (Zbi (l.map He.cs)) ?_
 simp only[SS,List.length_map]
 first | exact at' _ 0 rfl (Nat.zero_le _) | exact⟨fun h=>absurd rfl h,fun _=>at' _ 0 rfl (Nat.zero_le _)⟩ | exact⟨fun h=>absurd trivial h,at' _ 0 rfl (Nat.zero_le _)⟩
theorem ZkC (l:List El) (hl:l.length<=281474976710656) (hk: ∀ x∈l,(El.cs x).length=2) (H: ∀ x∈l,FK 150 [.agg (El.cs x),.agg (El.cs x)] (.bool true)):FK 116 [.slice (l.map El.cs) [],.slice (l.map El.cs) []] (.bool true):=by
 have at': ∀ (m i:Nat),l.length-i=m->i<=l.length->At Tryz.prog 0 (cut Z81 0) (hdSa (l.map El.cs) i) (FinQ true 0 Z9v fun r _=>r= .bool true):=by
  intro m
  induction m with
  | zero =>
   intro i hm hi
   refine At.tree (Z8 (ZP (.bool true)) Z5) (Z41 (l.map El.cs) i .undef .undef) ?_
   simp only[SS,List.length_map]
   first | exact⟨fun h=>by omega,fun _=>rfl⟩ | exact⟨fun h=>by omega,fun _=>trivial⟩ | exact fun h=>by omega
  | succ m ih =>
   intro i hm hi
   have h1:i<l.length:=by omega
   have hC:=H _ (List.getElem_mem h1)
   have hx:(l.map El.cs)[i]? = some (El.cs l[i]):=by simp[h1]
   have hI:=ih (i+1) (by omega) (by omega)
   rw[ex2 _ (hk _ (List.getElem_mem h1))] at hC hx
   refine At.tree (Z8 (ZP (.bool true)) Z5) (Z41 (l.map El.cs) i (((El.cs l[i]).getD 0 .undef)) (((El.cs l[i]).getD 1 .undef))) ?_
   simp only[SS,List.length_map]
   exact⟨fun _=>⟨⟨by omega,hx⟩,⟨by omega,hx⟩,hC,by omega,hI⟩,fun h=>by omega⟩
 refine FnOK.tree Z7 Zjm (Z8 Z3 Z5) (Zbj (l.map El.cs)) ?_
 simp only[SS,List.length_map]
 first | exact at' _ 0 rfl (Nat.zero_le _) | exact⟨fun h=>absurd rfl h,fun _=>at' _ 0 rfl (Nat.zero_le _)⟩ | exact⟨fun h=>absurd trivial h,at' _ 0 rfl (Nat.zero_le _)⟩
theorem ZkD (l:List Bo) (hl:l.length<=281474976710656) (hk: ∀ x∈l,(Bo.cs x).length=23) (H: ∀ x∈l,FK 70 [.agg (Bo.cs x),.agg (Bo.cs x)] (.bool true)):FK 36 [.slice (l.map Bo.cs) [],.slice (l.map Bo.cs) []] (.bool true):=by
 have at': ∀ (m i:Nat),l.length-i=m->i<=l.length->At Tryz.prog 0 (cut sc36 0) (hdSa (l.map Bo.cs) i) (FinQ true 0 rs36 fun r _=>r= .bool true):=by
  intro m
  induction m with
  | zero =>
   intro i hm hi
   refine At.tree (Z8 (ZP (.bool true)) Z5) (Z42 (l.map Bo.cs) i .undef .undef .undef .undef .undef .undef .undef .undef .undef .undef .undef .undef .undef .undef .undef .undef .undef .undef .undef .undef .undef .undef .undef) ?_
   simp only[SS,List.length_map]
   first | exact⟨fun h=>by omega,fun _=>rfl⟩ | exact⟨fun h=>by omega,fun _=>trivial⟩ | exact fun h=>by omega
  | succ m ih =>
   intro i hm hi
   have h1:i<l.length:=by omega
   have hC:=H _ (List.getElem_mem h1)
   have hx:(l.map Bo.cs)[i]? = some (Bo.cs l[i]):=by simp[h1]
   have hI:=ih (i+1) (by omega) (by omega)
   rw[ex23 _ (hk _ (List.getElem_mem h1))] at hC hx
   refine At.tree (Z8 (ZP (.bool true)) Z5) (Z42 (l.map Bo.cs) i (((Bo.cs l[i]).getD 0 .undef)) (((Bo.cs l[i]).getD 1 .undef)) (((Bo.cs l[i]).getD 2 .undef)) (((Bo.cs l[i]).getD 3 .undef)) (((Bo.cs l[i]).getD 4 .undef)) (((Bo.cs l[i]).getD 5 .undef)) (((Bo.cs l[i]).getD 6 .undef)) (((Bo.cs l[i]).getD 7 .undef)) (((Bo.cs l[i]).getD 8 .undef)) (((Bo.cs l[i]).getD 9 .undef)) (((Bo.cs l[i]).getD 10 .undef)) (((Bo.cs l[i]).getD 11 .undef)) (((Bo.cs l[i]).getD 12 .undef)) (((Bo.cs l[i]).getD 13 .undef)) (((Bo.cs l[i]).getD 14 .undef)) (((Bo.cs l[i]).getD 15 .undef)) (((Bo.cs l[i]).getD 16 .undef)) (((Bo.cs l[i]).getD 17 .undef)) (((Bo.cs l[i]).getD 18 .undef)) (((Bo.cs l[i]).getD 19 .undef)) (((Bo.cs l[i]).getD 20 .undef)) (((Bo.cs l[i]).getD 21 .undef)) (((Bo.cs l[i]).getD 22 .undef))) ?_
   simp only[SS,List.length_map]
   exact⟨fun _=>⟨⟨by omega,hx⟩,⟨by omega,hx⟩,hC,by omega,hI⟩,fun h=>by omega⟩
 refine FnOK.tree Z7 fp36 (Z8 Z3 Z5) (Zbk (l.map Bo.cs)) ?_
 simp only[SS,List.length_map]
 first | exact at' _ 0 rfl (Nat.zero_le _) | exact⟨fun h=>absurd rfl h,fun _=>at' _ 0 rfl (Nat.zero_le _)⟩ | exact⟨fun h=>absurd trivial h,at' _ 0 rfl (Nat.zero_le _)⟩
theorem Zkz (l:List Ru) (hl:l.length<=281474976710656) (hk: ∀ x∈l,(Ru.cs x).length=20) (H: ∀ x∈l,FK 13 [.agg (Ru.cs x),.agg (Ru.cs x)] (.bool true)):FK 10 [.slice (l.map Ru.cs) [],.slice (l.map Ru.cs) []] (.bool true):=by
 have at': ∀ (m i:Nat),l.length-i=m->i<=l.length->At Tryz.prog 0 (cut sc10 0) (hdSa (l.map Ru.cs) i) (FinQ true 0 rs10 fun r _=>r= .bool true):=by
  intro m
  induction m with
  | zero =>
   intro i hm hi
   refine At.tree (Z8 (ZP (.bool true)) Z5) (Z3Y (l.map Ru.cs) i .undef .undef .undef .undef .undef .undef .undef .undef .undef .undef .undef .undef .undef .undef .undef .undef .undef .undef .undef .undef) ?_
   simp only[SS,List.length_map]
   first | exact⟨fun h=>by omega,fun _=>rfl⟩ | exact⟨fun h=>by omega,fun _=>trivial⟩ | exact fun h=>by omega
  | succ m ih =>
   intro i hm hi
   have h1:i<l.length:=by omega
   have hC:=H _ (List.getElem_mem h1)
   have hx:(l.map Ru.cs)[i]? = some (Ru.cs l[i]):=by simp[h1]
   have hI:=ih (i+1) (by omega) (by omega)
   rw[ex20 _ (hk _ (List.getElem_mem h1))] at hC hx
   refine At.tree (Z8 (ZP (.bool true)) Z5) (Z3Y (l.map Ru.cs) i (((Ru.cs l[i]).getD 0 .undef)) (((Ru.cs l[i]).getD 1 .undef)) (((Ru.cs l[i]).getD 2 .undef)) (((Ru.cs l[i]).getD 3 .undef)) (((Ru.cs l[i]).getD 4 .undef)) (((Ru.cs l[i]).getD 5 .undef)) (((Ru.cs l[i]).getD 6 .undef)) (((Ru.cs l[i]).getD 7 .undef)) (((Ru.cs l[i]).getD 8 .undef)) (((Ru.cs l[i]).getD 9 .undef)) (((Ru.cs l[i]).getD 10 .undef)) (((Ru.cs l[i]).getD 11 .undef)) (((Ru.cs l[i]).getD 12 .undef)) (((Ru.cs l[i]).getD 13 .undef)) (((Ru.cs l[i]).getD 14 .undef)) (((Ru.cs l[i]).getD 15 .undef)) (((Ru.cs l[i]).getD 16 .undef)) (((Ru.cs l[i]).getD 17 .undef)) (((Ru.cs l[i]).getD 18 .undef)) (((Ru.cs l[i]).getD 19 .undef))) ?_
   simp only[SS,List.length_map]
   exact⟨fun _=>⟨⟨by omega,hx⟩,⟨by omega,hx⟩,hC,by omega,hI⟩,fun h=>by omega⟩
 refine FnOK.tree Z7 fp10 (Z8 Z3 Z5) (Zbg (l.map Ru.cs)) ?_
 simp only[SS,List.length_map]
 first | exact at' _ 0 rfl (Nat.zero_le _) | exact⟨fun h=>absurd rfl h,fun _=>at' _ 0 rfl (Nat.zero_le _)⟩ | exact⟨fun h=>absurd trivial h,at' _ 0 rfl (Nat.zero_le _)⟩
theorem saTm: ∀ (x:Tm),x.wf 281474976710656->FK 35 [.agg x.cells,.agg x.cells] (.bool true)
 | .mk k n s l,hx=>by
  simp only[Tm.wf] at hx
  have hC:=Zi3 l hx.2.2.2.2.1 (fun x _=>Qb x) fun x h=>saTm x (Z5s.1 hx.2.2.2.2.2 x h)
  rw[<- Z01] at hC
  refine FnOK.tree Z7 fp35 (Z8 (ZP (.bool true)) Z5) (ZcY k n s (Tm.cellsL l)) ?_
  simp only[SS]
  first | exact hC | exact⟨hC,trivial⟩ | (simp; exact hC)
termination_by x=>SizeOf.sizeOf x
decreasing_by
 have:=List.sizeOf_lt_of_mem h
 simp only[Tm.mk.sizeOf_spec]
 omega
theorem Z5N (x:Tm) (h:x.wf 281474976710656):FK 35 [tmE x,tmE x] (.bool true):=by rw[Z6O]; exact saTm x h
theorem Z84 (l:List Tm) (h:TuW l):FK 37 [.slice (Tm.cellsL l) [],.slice (Tm.cellsL l) []] (.bool true):=by
 rw[Z01]
 exact Zi3 l (by have:=h.2; omega) (fun x _=>Qb x) fun x hx=>saTm x (h.1 x hx)
theorem saAm (s:LU) (l:List Tm) (h:TuW l):FK 113 [.agg [.str s,.slice (Tm.cellsL l) []],.agg [.str s,.slice (Tm.cellsL l) []]] (.bool true):=by
 refine FnOK.tree Z7 Zjp (Z8 (ZP (.bool true)) Z5) (Zd4 s (Tm.cellsL l)) ?_
 simp only[SS]
 first | exact Z84 l h | exact⟨Z84 l h,trivial⟩ | (simp; exact Z84 l h)
theorem saLt (x:Lt) (h:LtW x):FK 115 [.agg x.c,.agg x.c] (.bool true):=by
 rw[<- Za1]
 have h1:=Z5N x.l h.1
 have h2:=Z5N x.r h.2.1
 have h3:=saAm x.p x.a ⟨h.2.2.1,h.2.2.2⟩
 refine FnOK.tree Z7 Zjn (Z8 (ZP (.bool true)) Z5) (Zd0 x.k x.no x.p (Tm.cellsL x.a) x.op (kT x.l:Nat) (nT x.l) (nmT x.l) (Tm.cellsL (Ps.arT x.l)) (kT x.r:Nat) (nT x.r) (nmT x.r) (Tm.cellsL (Ps.arT x.r))) ?_
 simp only[SS]
 first | exact⟨h3,h1,h2⟩ | exact⟨h3,h1,h2⟩ | (simp; exact⟨h3,h1,h2⟩)
theorem Z4T (l:List Lt) (h:CdW l):FK 114 [.slice (ltL l) [],.slice (ltL l) []] (.bool true) :=
 ZkA l (by have:=h.2; omega) (fun x _=>Z9Y x) fun x hx=>saLt x (h.1 x hx)
theorem saHe (x:He) (h:HeW x):FK 69 [.agg x.cs,.agg x.cs] (.bool true):=by
 refine FnOK.tree Z7 fp69 (Z8 (ZP (.bool true)) Z5) (Zd1 x.p (Tm.cellsL x.a) (ltL x.c)) ?_
 simp only[SS]
 first | exact⟨saAm x.p x.a h.1,Z4T x.c h.2⟩ | (simp; exact⟨saAm x.p x.a h.1,Z4T x.c h.2⟩)
theorem saEl (x:El) (h:ElW x):FK 150 [.agg x.cs,.agg x.cs] (.bool true):=by
 refine FnOK.tree Z7 Zj6 (Z8 (ZP (.bool true)) Z5) (Zd2 (Tm.cellsL x.t) (ltL x.c)) ?_
 simp only[SS]
 first | exact⟨Z84 x.t h.1,Z4T x.c h.2⟩ | (simp; exact⟨Z84 x.t h.1,Z4T x.c h.2⟩)
theorem Zi6 (l:List El) (h: ∀ x∈l,ElW x) (hl:l.length<=1000000):FK 116 [.slice (elL l) [],.slice (elL l) []] (.bool true) :=
 ZkC l (by omega) (fun x _=>rfl) fun x hx=>saEl x (h x hx)
theorem saBo (x:Bo) (h:BoW x):FK 70 [.agg x.cs,.agg x.cs] (.bool true):=by
 rw[<- Ze2]
 have h1:=saLt x.l h.2.1
 rw[<- Za1] at h1
 have h2:=Z4T x.c h.2.2.1
 have h3:=Zi6 x.e h.2.2.2.1 h.2.2.2.2
 have h4:=Z5N x.b h.1
 refine FnOK.tree Z7 fp70 (Z8 (ZP (.bool true)) Z5) (Zd3 x.k x.l.k x.l.no x.l.p (Tm.cellsL x.l.a) x.l.op (kT x.l.l:Nat) (nT x.l.l) (nmT x.l.l) (Tm.cellsL (Ps.arT x.l.l)) (kT x.l.r:Nat) (nT x.l.r) (nmT x.l.r) (Tm.cellsL (Ps.arT x.l.r)) (ltL x.c) x.no x.f (elL x.e) x.op (kT x.b:Nat) (nT x.b) (nmT x.b) (Tm.cellsL (Ps.arT x.b))) ?_
 simp only[SS]
 first | exact⟨h1,h2,h3,h4⟩ | (simp; exact⟨h1,h2,h3,h4⟩)
theorem Zi7 (l:List Bo) (h: ∀ x∈l,BoW x) (hl:l.length<=1000000):FK 36 [.slice (boL l) [],.slice (boL l) []] (.bool true) :=
 ZkD l (by omega) (fun x _=>by simp[Bo.cs,Z9Y,Qb]) fun x hx=>saBo x (h x hx)
theorem Zi5 (l:List He) (h: ∀ x∈l,HeW x) (hl:l.length<=1000000):FK 34 [.slice (heL l) [],.slice (heL l) []] (.bool true) :=
 ZkB l (by omega) (fun x _=>rfl) fun x hx=>saHe x (h x hx)
theorem saRu (x:Ru) (h:RuW x):FK 13 [ruE x,ruE x] (.bool true):=by
 obtain⟨a1,a2,a3,a4,a5,a6,a7,a8⟩:=h
 have h1:=Zi5 x.h a6.1 a6.2
 have h2:=Z5N x.lo a1
 have h3:=Z5N x.up a2
 have h4:=Zi7 x.b a7 a8
 have h5:=Z5N x.w a3
 have h6:=Z5N x.lv a4
 have h7:=Z84 x.t a5
 refine FnOK.tree Z7 fp13 (Z8 (ZP (.bool true)) Z5) (ZcZ x.k (heL x.h) (kT x.lo:Nat) (nT x.lo) (nmT x.lo) (Tm.cellsL (Ps.arT x.lo)) (kT x.up:Nat) (nT x.up) (nmT x.up) (Tm.cellsL (Ps.arT x.up)) (boL x.b) (kT x.w:Nat) (nT x.w) (nmT x.w) (Tm.cellsL (Ps.arT x.w)) (kT x.lv:Nat) (nT x.lv) (nmT x.lv) (Tm.cellsL (Ps.arT x.lv)) (Tm.cellsL x.t)) ?_
 simp only[SS]
 first | exact⟨h1,h2,h3,h4,h5,h6,h7⟩ | (simp; exact⟨h1,h2,h3,h4,h5,h6,h7⟩)
theorem Zi4 (l:List Ru) (h: ∀ x∈l,RuW x) (hl:l.length<=1000000):FK 10 [.slice (ruL l) [],.slice (ruL l) []] (.bool true) :=
 Zkz l (by omega) (fun x _=>by simp[Ru.cs,Qb]) fun x hx=>by rw[<- Z9n]; exact saRu x (h x hx)
end Go.Proofs.YtecgehidegnmnaaGreatDoor
/- Single rules. -/
namespace Go.Proofs.YtecgehidegnmnaaGreatDoor
open Go.Sx
open Go.Sx.Lx (Tk Zq)
open Go.Sx.Ps (Ac)
def fnT (l:List (FuncId × D)):PT:=fun f xs=>match lk l f with
 | some r=>some (.ok (FK f xs r) r [])
 | none=>libT f xs
theorem ZjB (l:List (FuncId × D)):(fnT l).OK:=by
 intro f xs rt h
 unfold fnT at h
 split at h
 ·cases h; exact fun hp=>hp
 ·exact Z3 _ _ _ h
end Go.Proofs.YtecgehidegnmnaaGreatDoor
