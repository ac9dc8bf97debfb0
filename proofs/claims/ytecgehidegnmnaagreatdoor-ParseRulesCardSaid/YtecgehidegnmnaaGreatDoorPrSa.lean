/- Own work: a layer over the kit: plain data,a walk over it,its soundness. -/
import Derived.Test.YtecgehidegnmnaaGreatDoorShape
import Derived.Test.YtecgehidegnmnaaGreatDoorPrR
import Derived.Test.YtecgehidegnmnaaGreatDoorSx11
set_option linter.unusedSectionVars false
set_option linter.unusedVariables false
set_option linter.unusedSimpArgs false
set_option linter.deprecated false
set_option maxRecDepth 100000
/- The kit's comparisons: trees. -/
namespace Go.Proofs.YtecgehidegnmnaaGreatDoor
open Go.Sx
theorem ZaD (ka na:Int) (sa:LU) (la:LD):let A:=Rt (dB false) [];let B:=dB true;let C:=tC ka na sa la;gP (ctr (asmP B)) rs35 sc35 [dA C,dA C]=(brT (decide (ka=ka)) (brT (decide (na=na)) (brT (decide (sa=sa)) (Ow (FK 37 [dL la [],dL la []] B) (Rt B [])) A) A) A:Tr):=by intro A B C;kernel_rfl
theorem ZaJ (s:LU) (l:LD):let A:=dB true;let B:=[dS s,dL l []];gP (ctr (asmP A)) Zdq ZcE [dA B,dA B]=(brT (decide (s=s)) (Ow (FK 37 [dL l [],dL l []] A) (Rt A [])) (Rt (dB false) []):Tr):=by intro A B;kernel_rfl
theorem ZaF (lkz:Int) (lnoz:Bool) (lpz:LU) (laz:LD) (lopz kza nza:Int) (sza:LU) (lza:LD) (kzb nzb:Int) (szb:LU) (lzb:LD):let A:=[dU lkz,dB lnoz,dS lpz,dL laz [],dU lopz,dU kza,dI nza,dS sza,dL lza [],dU kzb,dI nzb,dS szb,dL lzb []];let B:=Rt (dB false) [];let C:=dB true;let E:=tC kza nza sza lza;let F:=tC kzb nzb szb lzb;let G:=[dS lpz,dL laz []];gP (ctr (asmP C)) Zdp ZcD [dA A,dA A]=(brT (decide (lkz=lkz)) (brT (lnoz == lnoz) (Ow (FK 113 [dA G,dA G] C) (brT (decide (lopz=lopz)) (Ow (FK 35 [dA E,dA E] C) (Ow (FK 35 [dA F,dA F] C) (Rt C []))) B)) B) B:Tr):=by intro A B C E F G;kernel_rfl
theorem ZaG (s:LU) (l c:LD):let A:=dB true;let B:=[dS s,dL l [],dL c []];let C:=[dS s,dL l []];gP (ctr (asmP A)) rs69 sc69 [dA B,dA B]=(Ow (FK 113 [dA C,dA C] A) (Ow (FK 114 [dL c [],dL c []] A) (Rt A [])):Tr):=by intro A B C;kernel_rfl
theorem ZaH (l c:LD):let A:=dB true;let B:=[dL l [],dL c []];gP (ctr (asmP A)) Zdc Zcq [dA B,dA B]=(Ow (FK 37 [dL l [],dL l []] A) (Ow (FK 114 [dL c [],dL c []] A) (Rt A [])):Tr):=by intro A B;kernel_rfl
theorem ZaI (bkz lkz:Int) (lnoz:Bool) (lpz:LU) (laz:LD) (lopz kza nza:Int) (sza:LU) (lza:LD) (kzb nzb:Int) (szb:LU) (lzb bcz:LD) (bnoz:Bool) (bfz:Int) (bez:LD) (bopz kzc nzc:Int) (szc:LU) (lzc:LD):let A:=[dU bkz,dU lkz,dB lnoz,dS lpz,dL laz [],dU lopz,dU kza,dI nza,dS sza,dL lza [],dU kzb,dI nzb,dS szb,dL lzb [],dL bcz [],dB bnoz,dU bfz,dL bez [],dU bopz,dU kzc,dI nzc,dS szc,dL lzc []];let B:=[dU lkz,dB lnoz,dS lpz,dL laz [],dU lopz,dU kza,dI nza,dS sza,dL lza [],dU kzb,dI nzb,dS szb,dL lzb []];let C:=Rt (dB false) [];let E:=dB true;let F:=tC kzc nzc szc lzc;gP (ctr (asmP E)) rs70 sc70 [dA A,dA A]=(brT (decide (bkz=bkz)) (Ow (FK 115 [dA B,dA B] E) (Ow (FK 114 [dL bcz [],dL bcz []] E) (brT (bnoz == bnoz) (brT (decide (bfz=bfz)) (Ow (FK 116 [dL bez [],dL bez []] E) (brT (decide (bopz=bopz)) (Ow (FK 35 [dA F,dA F] E) (Rt E [])) C)) C) C))) C:Tr):=by intro A B C E F;kernel_rfl
theorem ZaE (rkz:Int) (rhz:LD) (kza nza:Int) (sza:LU) (lza:LD) (kzb nzb:Int) (szb:LU) (lzb rbz:LD) (kzc nzc:Int) (szc:LU) (lzc:LD) (kzd nzd:Int) (szd:LU) (lzd rtz:LD):let A:=[dU rkz,dL rhz [],dU kza,dI nza,dS sza,dL lza [],dU kzb,dI nzb,dS szb,dL lzb [],dL rbz [],dU kzc,dI nzc,dS szc,dL lzc [],dU kzd,dI nzd,dS szd,dL lzd [],dL rtz []];let B:=dB true;let C:=tC kza nza sza lza;let E:=tC kzb nzb szb lzb;let F:=tC kzc nzc szc lzc;let G:=tC kzd nzd szd lzd;gP (ctr (asmP B)) rs13 sc13 [dA A,dA A]=(brT (decide (rkz=rkz)) (Ow (FK 34 [dL rhz [],dL rhz []] B) (Ow (FK 35 [dA C,dA C] B) (Ow (FK 35 [dA E,dA E] B) (Ow (FK 36 [dL rbz [],dL rbz []] B) (Ow (FK 35 [dA F,dA F] B) (Ow (FK 35 [dA G,dA G] B) (Ow (FK 37 [dL rtz [],dL rtz []] B) (Rt B [])))))))) (Rt (dB false) []):Tr):=by intro A B C E F G;kernel_rfl
def hdSa (a:LD) (i:Int):St:=⟨[(0,.slice a []),(1,.slice a []),(5,.int .i64 i)],[]⟩
theorem Z8Z (a:LD):let A:=(↑(List.length a):Int);gP (ctr libT) rs37 sc37 [dL a [],dL a []]=(brT (!decide (A=A)) (Rt (dB false) []) (Jm (cut sc37 0) { tm:=[(0,dL a []),(1,dL a []),(5,dI (0:Int))],ob:=[] }):Tr):=by intro A;kernel_rfl
theorem Z2m (a:LD) (i:Int) (x0 x1 x2 x3:D):let A:=[x0,x1,x2,x3];let B:=dB true;let C:=cut sc37 0;let E:=(i+(1:Int));gH (ctr (asmP B) Z0x fun t x=>if t=19 then A else if t=23 then A else []) 0 true rs37 C (hdSa a i)=(brT (decide (i<(↑(List.length a):Int))) (Ow ((0:Int)<=i/\a[Int.toNat i]? = some A) (Ow ((0:Int)<=i/\a[Int.toNat i]? = some A) (Ow (FK 35 [dA A,dA A] B) (I8 E (Jm C { tm:=[(0,dL a []),(1,dL a []),(5,dI E)],ob:=[] }))))) (Rt B []):Tr):=by intro A B C E;kernel_rfl
theorem Z90 (a:LD):let A:=(↑(List.length a):Int);gP (ctr libT) Z7m Z5Z [dL a [],dL a []]=(brT (!decide (A=A)) (Rt (dB false) []) (Jm (cut Z5Z 0) { tm:=[(0,dL a []),(1,dL a []),(5,dI (0:Int))],ob:=[] }):Tr):=by intro A;kernel_rfl
theorem Z2n (a:LD) (i:Int) (x0 x1 x2 x3 x4 x5 x6 x7 x8 x9 x10 x11 x12:D):let A:=[x0,x1,x2,x3,x4,x5,x6,x7,x8,x9,x10,x11,x12];let B:=dB true;let C:=cut Z5Z 0;let E:=(i+(1:Int));gH (ctr (asmP B) Z0x fun t x=>if t=19 then A else if t=23 then A else []) 0 true Z7m C (hdSa a i)=(brT (decide (i<(↑(List.length a):Int))) (Ow ((0:Int)<=i/\a[Int.toNat i]? = some A) (Ow ((0:Int)<=i/\a[Int.toNat i]? = some A) (Ow (FK 115 [dA A,dA A] B) (I8 E (Jm C { tm:=[(0,dL a []),(1,dL a []),(5,dI E)],ob:=[] }))))) (Rt B []):Tr):=by intro A B C E;kernel_rfl
theorem Z91 (a:LD):let A:=(↑(List.length a):Int);gP (ctr libT) rs34 sc34 [dL a [],dL a []]=(brT (!decide (A=A)) (Rt (dB false) []) (Jm (cut sc34 0) { tm:=[(0,dL a []),(1,dL a []),(5,dI (0:Int))],ob:=[] }):Tr):=by intro A;kernel_rfl
theorem Z2o (a:LD) (i:Int) (x0 x1 x2:D):let A:=[x0,x1,x2];let B:=dB true;let C:=cut sc34 0;let E:=(i+(1:Int));gH (ctr (asmP B) Z0x fun t x=>if t=19 then A else if t=23 then A else []) 0 true rs34 C (hdSa a i)=(brT (decide (i<(↑(List.length a):Int))) (Ow ((0:Int)<=i/\a[Int.toNat i]? = some A) (Ow ((0:Int)<=i/\a[Int.toNat i]? = some A) (Ow (FK 69 [dA A,dA A] B) (I8 E (Jm C { tm:=[(0,dL a []),(1,dL a []),(5,dI E)],ob:=[] }))))) (Rt B []):Tr):=by intro A B C E;kernel_rfl
theorem Z92 (a:LD):let A:=(↑(List.length a):Int);gP (ctr libT) Z7l Z5Y [dL a [],dL a []]=(brT (!decide (A=A)) (Rt (dB false) []) (Jm (cut Z5Y 0) { tm:=[(0,dL a []),(1,dL a []),(5,dI (0:Int))],ob:=[] }):Tr):=by intro A;kernel_rfl
theorem Z2p (a:LD) (i:Int) (x0 x1:D):let A:=dB true;let B:=cut Z5Y 0;let C:=(i+(1:Int));gH (ctr (asmP A) Z0x fun t x=>if t=19 then [x0,x1] else if t=23 then [x0,x1] else []) 0 true Z7l B (hdSa a i)=(brT (decide (i<(↑(List.length a):Int))) (Ow ((0:Int)<=i/\a[Int.toNat i]? = some [x0,x1]) (Ow ((0:Int)<=i/\a[Int.toNat i]? = some [x0,x1]) (Ow (FK 150 [dA [x0,x1],dA [x0,x1]] A) (I8 C (Jm B { tm:=[(0,dL a []),(1,dL a []),(5,dI C)],ob:=[] }))))) (Rt A []):Tr):=by intro A B C;kernel_rfl
theorem Z93 (a:LD):let A:=(↑(List.length a):Int);gP (ctr libT) rs36 sc36 [dL a [],dL a []]=(brT (!decide (A=A)) (Rt (dB false) []) (Jm (cut sc36 0) { tm:=[(0,dL a []),(1,dL a []),(5,dI (0:Int))],ob:=[] }):Tr):=by intro A;kernel_rfl
theorem Z2q (a:LD) (i:Int) (x0 x1 x2 x3 x4 x5 x6 x7 x8 x9 x10 x11 x12 x13 x14 x15 x16 x17 x18 x19 x20 x21 x22:D):let A:=[x0,x1,x2,x3,x4,x5,x6,x7,x8,x9,x10,x11,x12,x13,x14,x15,x16,x17,x18,x19,x20,x21,x22];let B:=dB true;let C:=cut sc36 0;let E:=(i+(1:Int));gH (ctr (asmP B) Z0x fun t x=>if t=19 then A else if t=23 then A else []) 0 true rs36 C (hdSa a i)=(brT (decide (i<(↑(List.length a):Int))) (Ow ((0:Int)<=i/\a[Int.toNat i]? = some A) (Ow ((0:Int)<=i/\a[Int.toNat i]? = some A) (Ow (FK 70 [dA A,dA A] B) (I8 E (Jm C { tm:=[(0,dL a []),(1,dL a []),(5,dI E)],ob:=[] }))))) (Rt B []):Tr):=by intro A B C E;kernel_rfl
end Go.Proofs.YtecgehidegnmnaaGreatDoor
/- The kit's comparisons hold of equal things. -/
namespace Go.Proofs.YtecgehidegnmnaaGreatDoor
open Go.Sx
open Go.Sx.Ps (LtW CdW TuW ElW BoW HeW RuW CoW AcW)
theorem ex2 (l:List D) (h:l.length=2):l=[l.getD 0 .undef,l.getD 1 .undef]:=by
 match l,h with
 | [x0,x1],_=>rfl
theorem ex3 (l:List D) (h:l.length=3):l=[l.getD 0 .undef,l.getD 1 .undef,l.getD 2 .undef]:=by
 match l,h with
 | [x0,x1,x2],_=>rfl
theorem ex4 (l:List D) (h:l.length=4):l=[l.getD 0 .undef,l.getD 1 .undef,l.getD 2 .undef,l.getD 3 .undef]:=by
 match l,h with
 | [x0,x1,x2,x3],_=>rfl
theorem ex13 (l:List D) (h:l.length=13):l=[l.getD 0 .undef,l.getD 1 .undef,l.getD 2 .undef,l.getD 3 .undef,l.getD 4 .undef,l.getD 5 .undef,l.getD 6 .undef,l.getD 7 .undef,l.getD 8 .undef,l.getD 9 .undef,l.getD 10 .undef,l.getD 11 .undef,l.getD 12 .undef]:=by
 match l,h with
 | [x0,x1,x2,x3,x4,x5,x6,x7,x8,x9,x10,x11,x12],_=>rfl
theorem ex23 (l:List D) (h:l.length=23):l=[l.getD 0 .undef,l.getD 1 .undef,l.getD 2 .undef,l.getD 3 .undef,l.getD 4 .undef,l.getD 5 .undef,l.getD 6 .undef,l.getD 7 .undef,l.getD 8 .undef,l.getD 9 .undef,l.getD 10 .undef,l.getD 11 .undef,l.getD 12 .undef,l.getD 13 .undef,l.getD 14 .undef,l.getD 15 .undef,l.getD 16 .undef,l.getD 17 .undef,l.getD 18 .undef,l.getD 19 .undef,l.getD 20 .undef,l.getD 21 .undef,l.getD 22 .undef]:=by
 match l,h with
 | [x0,x1,x2,x3,x4,x5,x6,x7,x8,x9,x10,x11,x12,x13,x14,x15,x16,x17,x18,x19,x20,x21,x22],_=>rfl
theorem Zfw (l:List Tm) (hl:l.length<=281474976710656) (hk: ∀ x∈l,(Tm.cells x).length=4) (H: ∀ x∈l,FK 35 [.agg (Tm.cells x),.agg (Tm.cells x)] (.bool true)):FK 37 [.slice (l.map Tm.cells) [],.slice (l.map Tm.cells) []] (.bool true):=by
 have at': ∀ (m i:Nat),l.length-i=m->i<=l.length->At Tryz.prog 0 (cut sc37 0) (hdSa (l.map Tm.cells) i) (FinQ true 0 rs37 fun r _=>r= .bool true):=by
  intro m
  induction m with
  | zero =>
   intro i hm hi
   refine At.tree (Z5 (Zo (.bool true)) Z3) (Z2m (l.map Tm.cells) i .undef .undef .undef .undef) ?_
   simp only[SS,List.length_map]
   first | exact⟨fun h=>by omega,fun _=>rfl⟩ | exact⟨fun h=>by omega,fun _=>trivial⟩ | exact fun h=>by omega
  | succ m ih =>
   intro i hm hi
   have h1:i<l.length:=by omega
   have hC:=H _ (List.getElem_mem h1)
   have hx:(l.map Tm.cells)[i]? = some (Tm.cells l[i]):=by simp[h1]
   have hI:=ih (i+1) (by omega) (by omega)
   rw[ex4 _ (hk _ (List.getElem_mem h1))] at hC hx
   refine At.tree (Z5 (Zo (.bool true)) Z3) (Z2m (l.map Tm.cells) i (((Tm.cells l[i]).getD 0 .undef)) (((Tm.cells l[i]).getD 1 .undef)) (((Tm.cells l[i]).getD 2 .undef)) (((Tm.cells l[i]).getD 3 .undef))) ?_
   simp only[SS,List.length_map]
   exact⟨fun _=>⟨⟨by omega,hx⟩,⟨by omega,hx⟩,hC,by omega,hI⟩,fun h=>by omega⟩
 refine FnOK.tree Z4 fp37 (Z5 Z1 Z3) (Z8Z (l.map Tm.cells)) ?_
 simp only[SS,List.length_map]
 first | exact at' _ 0 rfl (Nat.zero_le _) | exact⟨fun h=>absurd rfl h,fun _=>at' _ 0 rfl (Nat.zero_le _)⟩ | exact⟨fun h=>absurd trivial h,at' _ 0 rfl (Nat.zero_le _)⟩
theorem ZhW (l:List Lt) (hl:l.length<=281474976710656) (hk: ∀ x∈l,(Lt.c x).length=13) (H: ∀ x∈l,FK 115 [.agg (Lt.c x),.agg (Lt.c x)] (.bool true)):FK 114 [.slice (l.map Lt.c) [],.slice (l.map Lt.c) []] (.bool true):=by
 have at': ∀ (m i:Nat),l.length-i=m->i<=l.length->At Tryz.prog 0 (cut Z5Z 0) (hdSa (l.map Lt.c) i) (FinQ true 0 Z7m fun r _=>r= .bool true):=by
  intro m
  induction m with
  | zero =>
   intro i hm hi
   refine At.tree (Z5 (Zo (.bool true)) Z3) (Z2n (l.map Lt.c) i .undef .undef .undef .undef .undef .undef .undef .undef .undef .undef .undef .undef .undef) ?_
   simp only[SS,List.length_map]
   first | exact⟨fun h=>by omega,fun _=>rfl⟩ | exact⟨fun h=>by omega,fun _=>trivial⟩ | exact fun h=>by omega
  | succ m ih =>
   intro i hm hi
   have h1:i<l.length:=by omega
   have hC:=H _ (List.getElem_mem h1)
   have hx:(l.map Lt.c)[i]? = some (Lt.c l[i]):=by simp[h1]
   have hI:=ih (i+1) (by omega) (by omega)
   rw[ex13 _ (hk _ (List.getElem_mem h1))] at hC hx
   refine At.tree (Z5 (Zo (.bool true)) Z3) (Z2n (l.map Lt.c) i (((Lt.c l[i]).getD 0 .undef)) (((Lt.c l[i]).getD 1 .undef)) (((Lt.c l[i]).getD 2 .undef)) (((Lt.c l[i]).getD 3 .undef)) (((Lt.c l[i]).getD 4 .undef)) (((Lt.c l[i]).getD 5 .undef)) (((Lt.c l[i]).getD 6 .undef)) (((Lt.c l[i]).getD 7 .undef)) (((Lt.c l[i]).getD 8 .undef)) (((Lt.c l[i]).getD 9 .undef)) (((Lt.c l[i]).getD 10 .undef)) (((Lt.c l[i]).getD 11 .undef)) (((Lt.c l[i]).getD 12 .undef))) ?_
   simp only[SS,List.length_map]
   exact⟨fun _=>⟨⟨by omega,hx⟩,⟨by omega,hx⟩,hC,by omega,hI⟩,fun h=>by omega⟩
 refine FnOK.tree Z4 ZgP (Z5 Z1 Z3) (Z90 (l.map Lt.c)) ?_
 simp only[SS,List.length_map]
 first | exact at' _ 0 rfl (Nat.zero_le _) | exact⟨fun h=>absurd rfl h,fun _=>at' _ 0 rfl (Nat.zero_le _)⟩ | exact⟨fun h=>absurd trivial h,at' _ 0 rfl (Nat.zero_le _)⟩
theorem ZhX (l:List He) (hl:l.length<=281474976710656) (hk: ∀ x∈l,(He.cs x).length=3) (H: ∀ x∈l,FK 69 [.agg (He.cs x),.agg (He.cs x)] (.bool true)):FK 34 [.slice (l.map He.cs) [],.slice (l.map He.cs) []] (.bool true):=by
 have at': ∀ (m i:Nat),l.length-i=m->i<=l.length->At Tryz.prog 0 (cut sc34 0) (hdSa (l.map He.cs) i) (FinQ true 0 rs34 fun r _=>r= .bool true):=by
  intro m
  induction m with
  | zero =>
   intro i hm hi
   refine At.tree (Z5 (Zo (.bool true)) Z3) (Z2o (l.map He.cs) i .undef .undef .undef) ?_
   simp only[SS,List.length_map]
   first | exact⟨fun h=>by omega,fun _=>rfl⟩ | exact⟨fun h=>by omega,fun _=>trivial⟩ | exact fun h=>by omega
  | succ m ih =>
   intro i hm hi
   have h1:i<l.length:=by omega
   have hC:=H _ (List.getElem_mem h1)
   have hx:(l.map He.cs)[i]? = some (He.cs l[i]):=by simp[h1]
   have hI:=ih (i+1) (by omega) (by omega)
   rw[ex3 _ (hk _ (List.getElem_mem h1))] at hC hx
   refine At.tree (Z5 (Zo (.bool true)) Z3) (Z2o (l.map He.cs) i (((He.cs l[i]).getD 0 .undef)) (((He.cs l[i]).getD 1 .undef)) (((He.cs l[i]).getD 2 .undef))) ?_
   simp only[SS,List.length_map]
   exact⟨fun _=>⟨⟨by omega,hx⟩,⟨by omega,hx⟩,hC,by omega,hI⟩,fun h=>by omega⟩
 refine FnOK.tree Z4 fp34 (Z5 Z1 Z3) (Z91 (l.map He.cs)) ?_
 simp only[SS,List.length_map]
 first | exact at' _ 0 rfl (Nat.zero_le _) | exact⟨fun h=>absurd rfl h,fun _=>at' _ 0 rfl (Nat.zero_le _)⟩ | exact⟨fun h=>absurd trivial h,at' _ 0 rfl (Nat.zero_le _)⟩
theorem ZhY (l:List El) (hl:l.length<=281474976710656) (hk: ∀ x∈l,(El.cs x).length=2) (H: ∀ x∈l,FK 150 [.agg (El.cs x),.agg (El.cs x)] (.bool true)):FK 116 [.slice (l.map El.cs) [],.slice (l.map El.cs) []] (.bool true):=by
 have at': ∀ (m i:Nat),l.length-i=m->i<=l.length->At Tryz.prog 0 (cut Z5Y 0) (hdSa (l.map El.cs) i) (FinQ true 0 Z7l fun r _=>r= .bool true):=by
  intro m
  induction m with
  | zero =>
   intro i hm hi
   refine At.tree (Z5 (Zo (.bool true)) Z3) (Z2p (l.map El.cs) i .undef .undef) ?_
   simp only[SS,List.length_map]
   first | exact⟨fun h=>by omega,fun _=>rfl⟩ | exact⟨fun h=>by omega,fun _=>trivial⟩ | exact fun h=>by omega
  | succ m ih =>
   intro i hm hi
   have h1:i<l.length:=by omega
   have hC:=H _ (List.getElem_mem h1)
   have hx:(l.map El.cs)[i]? = some (El.cs l[i]):=by simp[h1]
   have hI:=ih (i+1) (by omega) (by omega)
   rw[ex2 _ (hk _ (List.getElem_mem h1))] at hC hx
   refine At.tree (Z5 (Zo (.bool true)) Z3) (Z2p (l.map El.cs) i (((El.cs l[i]).getD 0 .undef)) (((El.cs l[i]).getD 1 .undef))) ?_
   simp only[SS,List.length_map]
   exact⟨fun _=>⟨⟨by omega,hx⟩,⟨by omega,hx⟩,hC,by omega,hI⟩,fun h=>by omega⟩
 refine FnOK.tree Z4 ZgN (Z5 Z1 Z3) (Z92 (l.map El.cs)) ?_
 simp only[SS,List.length_map]
 first | exact at' _ 0 rfl (Nat.zero_le _) | exact⟨fun h=>absurd rfl h,fun _=>at' _ 0 rfl (Nat.zero_le _)⟩ | exact⟨fun h=>absurd trivial h,at' _ 0 rfl (Nat.zero_le _)⟩
theorem ZhZ (l:List Bo) (hl:l.length<=281474976710656) (hk: ∀ x∈l,(Bo.cs x).length=23) (H: ∀ x∈l,FK 70 [.agg (Bo.cs x),.agg (Bo.cs x)] (.bool true)):FK 36 [.slice (l.map Bo.cs) [],.slice (l.map Bo.cs) []] (.bool true):=by
 have at': ∀ (m i:Nat),l.length-i=m->i<=l.length->At Tryz.prog 0 (cut sc36 0) (hdSa (l.map Bo.cs) i) (FinQ true 0 rs36 fun r _=>r= .bool true):=by
  intro m
  induction m with
  | zero =>
   intro i hm hi
   refine At.tree (Z5 (Zo (.bool true)) Z3) (Z2q (l.map Bo.cs) i .undef .undef .undef .undef .undef .undef .undef .undef .undef .undef .undef .undef .undef .undef .undef .undef .undef .undef .undef .undef .undef .undef .undef) ?_
   simp only[SS,List.length_map]
   first | exact⟨fun h=>by omega,fun _=>rfl⟩ | exact⟨fun h=>by omega,fun _=>trivial⟩ | exact fun h=>by omega
  | succ m ih =>
   intro i hm hi
   have h1:i<l.length:=by omega
   have hC:=H _ (List.getElem_mem h1)
   have hx:(l.map Bo.cs)[i]? = some (Bo.cs l[i]):=by simp[h1]
   have hI:=ih (i+1) (by omega) (by omega)
   rw[ex23 _ (hk _ (List.getElem_mem h1))] at hC hx
   refine At.tree (Z5 (Zo (.bool true)) Z3) (Z2q (l.map Bo.cs) i (((Bo.cs l[i]).getD 0 .undef)) (((Bo.cs l[i]).getD 1 .undef)) (((Bo.cs l[i]).getD 2 .undef)) (((Bo.cs l[i]).getD 3 .undef)) (((Bo.cs l[i]).getD 4 .undef)) (((Bo.cs l[i]).getD 5 .undef)) (((Bo.cs l[i]).getD 6 .undef)) (((Bo.cs l[i]).getD 7 .undef)) (((Bo.cs l[i]).getD 8 .undef)) (((Bo.cs l[i]).getD 9 .undef)) (((Bo.cs l[i]).getD 10 .undef)) (((Bo.cs l[i]).getD 11 .undef)) (((Bo.cs l[i]).getD 12 .undef)) (((Bo.cs l[i]).getD 13 .undef)) (((Bo.cs l[i]).getD 14 .undef)) (((Bo.cs l[i]).getD 15 .undef)) (((Bo.cs l[i]).getD 16 .undef)) (((Bo.cs l[i]).getD 17 .undef)) (((Bo.cs l[i]).getD 18 .undef)) (((Bo.cs l[i]).getD 19 .undef)) (((Bo.cs l[i]).getD 20 .undef)) (((Bo.cs l[i]).getD 21 .undef)) (((Bo.cs l[i]).getD 22 .undef))) ?_
   simp only[SS,List.length_map]
   exact⟨fun _=>⟨⟨by omega,hx⟩,⟨by omega,hx⟩,hC,by omega,hI⟩,fun h=>by omega⟩
 refine FnOK.tree Z4 fp36 (Z5 Z1 Z3) (Z93 (l.map Bo.cs)) ?_
 simp only[SS,List.length_map]
 first | exact at' _ 0 rfl (Nat.zero_le _) | exact⟨fun h=>absurd rfl h,fun _=>at' _ 0 rfl (Nat.zero_le _)⟩ | exact⟨fun h=>absurd trivial h,at' _ 0 rfl (Nat.zero_le _)⟩
theorem saTm: ∀ (x:Tm),x.wf 281474976710656->FK 35 [.agg x.cells,.agg x.cells] (.bool true)
 | .mk k n s l,hx=>by
  simp only[Tm.wf] at hx
  have hC:=Zfw l hx.2.2.2.2.1 (fun x _=>ZP x) fun x h=>saTm x (Z3I.1 hx.2.2.2.2.2 x h)
  rw[<- Q8] at hC
  refine FnOK.tree Z4 fp35 (Z5 (Zo (.bool true)) Z3) (ZaD k n s (Tm.cellsL l)) ?_
  simp only[SS]
  first | exact hC | exact⟨hC,trivial⟩ | (simp; exact hC)
termination_by x=>SizeOf.sizeOf x
decreasing_by
 have:=List.sizeOf_lt_of_mem h
 simp only[Tm.mk.sizeOf_spec]
 omega
theorem Z3Y (x:Tm) (h:x.wf 281474976710656):FK 35 [tmE x,tmE x] (.bool true):=by rw[Z4Q]; exact saTm x h
theorem Z61 (l:List Tm) (h:TuW l):FK 37 [.slice (Tm.cellsL l) [],.slice (Tm.cellsL l) []] (.bool true):=by
 rw[Q8]
 exact Zfw l (by have:=h.2; omega) (fun x _=>ZP x) fun x hx=>saTm x (h.1 x hx)
theorem saAm (s:LU) (l:List Tm) (h:TuW l):FK 113 [.agg [.str s,.slice (Tm.cellsL l) []],.agg [.str s,.slice (Tm.cellsL l) []]] (.bool true):=by
 refine FnOK.tree Z4 ZgQ (Z5 (Zo (.bool true)) Z3) (ZaJ s (Tm.cellsL l)) ?_
 simp only[SS]
 first | exact Z61 l h | exact⟨Z61 l h,trivial⟩ | (simp; exact Z61 l h)
theorem saLt (x:Lt) (h:LtW x):FK 115 [.agg x.c,.agg x.c] (.bool true):=by
 rw[<- Z7P]
 have h1:=Z3Y x.l h.1
 have h2:=Z3Y x.r h.2.1
 have h3:=saAm x.p x.a ⟨h.2.2.1,h.2.2.2⟩
 refine FnOK.tree Z4 ZgO (Z5 (Zo (.bool true)) Z3) (ZaF x.k x.no x.p (Tm.cellsL x.a) x.op (Ps.kT x.l:Nat) (nT x.l) (Ps.nmT x.l) (Tm.cellsL (Ps.arT x.l)) (Ps.kT x.r:Nat) (nT x.r) (Ps.nmT x.r) (Tm.cellsL (Ps.arT x.r))) ?_
 simp only[SS]
 first | exact⟨h3,h1,h2⟩ | exact⟨h3,h1,h2⟩ | (simp; exact⟨h3,h1,h2⟩)
theorem Z39 (l:List Lt) (h:CdW l):FK 114 [.slice (ltL l) [],.slice (ltL l) []] (.bool true) :=
 ZhW l (by have:=h.2; omega) (fun x _=>Z7M x) fun x hx=>saLt x (h.1 x hx)
theorem saHe (x:He) (h:HeW x):FK 69 [.agg x.cs,.agg x.cs] (.bool true):=by
 refine FnOK.tree Z4 fp69 (Z5 (Zo (.bool true)) Z3) (ZaG x.p (Tm.cellsL x.a) (ltL x.c)) ?_
 simp only[SS]
 first | exact⟨saAm x.p x.a h.1,Z39 x.c h.2⟩ | (simp; exact⟨saAm x.p x.a h.1,Z39 x.c h.2⟩)
theorem saEl (x:El) (h:ElW x):FK 150 [.agg x.cs,.agg x.cs] (.bool true):=by
 refine FnOK.tree Z4 Zgx (Z5 (Zo (.bool true)) Z3) (ZaH (Tm.cellsL x.t) (ltL x.c)) ?_
 simp only[SS]
 first | exact⟨Z61 x.t h.1,Z39 x.c h.2⟩ | (simp; exact⟨Z61 x.t h.1,Z39 x.c h.2⟩)
theorem Zfy (l:List El) (h: ∀ x∈l,ElW x) (hl:l.length<=1000000):FK 116 [.slice (elL l) [],.slice (elL l) []] (.bool true) :=
 ZhY l (by omega) (fun x _=>rfl) fun x hx=>saEl x (h x hx)
theorem saBo (x:Bo) (h:BoW x):FK 70 [.agg x.cs,.agg x.cs] (.bool true):=by
 rw[<- ZbI]
 have h1:=saLt x.l h.2.1
 rw[<- Z7P] at h1
 have h2:=Z39 x.c h.2.2.1
 have h3:=Zfy x.e h.2.2.2.1 h.2.2.2.2
 have h4:=Z3Y x.b h.1
 refine FnOK.tree Z4 fp70 (Z5 (Zo (.bool true)) Z3) (ZaI x.k x.l.k x.l.no x.l.p (Tm.cellsL x.l.a) x.l.op (Ps.kT x.l.l:Nat) (nT x.l.l) (Ps.nmT x.l.l) (Tm.cellsL (Ps.arT x.l.l)) (Ps.kT x.l.r:Nat) (nT x.l.r) (Ps.nmT x.l.r) (Tm.cellsL (Ps.arT x.l.r)) (ltL x.c) x.no x.f (elL x.e) x.op (Ps.kT x.b:Nat) (nT x.b) (Ps.nmT x.b) (Tm.cellsL (Ps.arT x.b))) ?_
 simp only[SS]
 first | exact⟨h1,h2,h3,h4⟩ | (simp; exact⟨h1,h2,h3,h4⟩)
theorem Zfz (l:List Bo) (h: ∀ x∈l,BoW x) (hl:l.length<=1000000):FK 36 [.slice (boL l) [],.slice (boL l) []] (.bool true) :=
 ZhZ l (by omega) (fun x _=>by simp[Bo.cs,Z7M,ZP]) fun x hx=>saBo x (h x hx)
theorem Zfx (l:List He) (h: ∀ x∈l,HeW x) (hl:l.length<=1000000):FK 34 [.slice (heL l) [],.slice (heL l) []] (.bool true) :=
 ZhX l (by omega) (fun x _=>rfl) fun x hx=>saHe x (h x hx)
theorem saRu (x:Ru) (h:RuW x):FK 13 [ruE x,ruE x] (.bool true):=by
 obtain⟨a1,a2,a3,a4,a5,a6,a7,a8⟩:=h
 have h1:=Zfx x.h a6.1 a6.2
 have h2:=Z3Y x.lo a1
 have h3:=Z3Y x.up a2
 have h4:=Zfz x.b a7 a8
 have h5:=Z3Y x.w a3
 have h6:=Z3Y x.lv a4
 have h7:=Z61 x.t a5
 refine FnOK.tree Z4 fp13 (Z5 (Zo (.bool true)) Z3) (ZaE x.k (heL x.h) (Ps.kT x.lo:Nat) (nT x.lo) (Ps.nmT x.lo) (Tm.cellsL (Ps.arT x.lo)) (Ps.kT x.up:Nat) (nT x.up) (Ps.nmT x.up) (Tm.cellsL (Ps.arT x.up)) (boL x.b) (Ps.kT x.w:Nat) (nT x.w) (Ps.nmT x.w) (Tm.cellsL (Ps.arT x.w)) (Ps.kT x.lv:Nat) (nT x.lv) (Ps.nmT x.lv) (Tm.cellsL (Ps.arT x.lv)) (Tm.cellsL x.t)) ?_
 simp only[SS]
 first | exact⟨h1,h2,h3,h4,h5,h6,h7⟩ | (simp; exact⟨h1,h2,h3,h4,h5,h6,h7⟩)
end Go.Proofs.YtecgehidegnmnaaGreatDoor
/- Single rules. -/
namespace Go.Proofs.YtecgehidegnmnaaGreatDoor
open Go.Sx
open Go.Sx.Lx (Tk tokC)
open Go.Sx.Ps (Ac)
def fnT (l:List (FuncId × D)):PT:=fun f xs=>match lk l f with
 | some r=>some (.ok (FK f xs r) r [])
 | none=>libT f xs
theorem Zh2 (l:List (FuncId × D)):(fnT l).OK:=by
 intro f xs rt h
 unfold fnT at h
 split at h
 ·cases h; exact fun hp=>hp
 ·exact Z1 _ _ _ h
theorem ZeS (src:LU) (tl:LD) (a e rkz:Int) (rhz:LD) (kza nza:Int) (sza:LU) (lza:LD) (kzb nzb:Int) (szb:LU) (lzb rbz:LD) (kzc nzc:Int) (szc:LU) (lzc:LD) (kzd nzd:Int) (szd:LU) (lzd rtz:LD) (ra re:Int) (rl cl sl:LD) (so:Bool) (pa pe hk ho:Int) (hs:LU) (b:Bool) (x0 x1 x2 x3 x4 x5 x6 x7 x8 x9 x10 x11 x12 x13 x14 x15 x16 x17 x18 x19:D):let A:=[dU rkz,dL rhz [],dU kza,dI nza,dS sza,dL lza [],dU kzb,dI nzb,dS szb,dL lzb [],dL rbz [],dU kzc,dI nzc,dS szc,dL lzc [],dU kzd,dI nzd,dS szd,dL lzd [],dL rtz []];let B:=[x0,x1,x2,x3,x4,x5,x6,x7,x8,x9,x10,x11,x12,x13,x14,x15,x16,x17,x18,x19];let G:=Rt (dB true) [];let H:=Rt (dB false) [];let I:=[dA [dL rl [],dL cl [],dL sl [],dB so],dI pa,dI pe];let J:=(↑(List.length cl):Int);let K:=(↑(List.length sl):Int);let L:=[dL tl [],dI a,dI e];let M:=[dU hk,dS hs,dI ho];let N:=[dA A,dI ra,dI re];goT Tryz.prog { F:=fun x=>fnT [(8,dB true),(11,D.tuple L),(12,D.tuple N),(9,D.tuple I),(13,dB b)],C:=fun x=>Z0x,E:=fun t x=>if t=46 then M else if t=86 then B else [] } 0 (finF true 0 rs4) 2000 [Fr.sc sc4] { tm:=Zb 0 [dS src],ob:=[] }=(Ow (FK 8 [] (dB true)) (Ow (FK 11 [dS src] (D.tuple L)) (brT (!decide (e=(0:Int))) G (brT (decide ((4000:Int)<(↑(List.length src):Int))) G (brT (decide ((↑(List.length tl):Int)=(0:Int))) G (Ow (FK 12 [dS src] (D.tuple N)) (Ow (FK 9 [dS src] (D.tuple I)) (Ow ((0:Int)<=(0:Int)/\tl[0]? = some M) (brT (decide (hk=(5:Int))) (Rt (D.bool !decide (re=(0:Int))) []) (brT (decide (pe=(0:Int))) (brT (decide ((↑(List.length rl):Int)=(1:Int))) (I8 (J+K) (brT (decide (J+K=(0:Int))) (brT ((!so) == decide (re=(0:Int))) (brT (!!so) G (Ow ((0:Int)<=(0:Int)/\rl[0]? = some B) (Ow (FK 13 [dA A,dA B] (dB b)) (Rt (dB b) [])))) H) (brT (false == decide (re=(0:Int))) G H))) (brT (false == decide (re=(0:Int))) G H)) (brT (false == decide (re=(0:Int))) G H)))))))))):Tr):=by intro A B G H I J K L M N;kernel_rfl
theorem Z9H (hA:FK 8 [] (.bool true)) (src:LU):FK 4 [.str src] (.bool true):=by
 have hL:=Z5h src
 have hR:=Z1w src
 have hP:=Z88 src
 refine FnOK.tree Z4 fp4 (Z0n (Zh2 _) fun _=>Z3) (ZeS src ((Lx.lexR src).1.map tokC) (Lx.lexR src).2.1 (Lx.lexR src).2.2 ((Ps.ruleR src).1.k:Nat) (heL (Ps.ruleR src).1.h) (Ps.kT (Ps.ruleR src).1.lo:Nat) (nT (Ps.ruleR src).1.lo) (Ps.nmT (Ps.ruleR src).1.lo) (Tm.cellsL (Ps.arT (Ps.ruleR src).1.lo)) (Ps.kT (Ps.ruleR src).1.up:Nat) (nT (Ps.ruleR src).1.up) (Ps.nmT (Ps.ruleR src).1.up) (Tm.cellsL (Ps.arT (Ps.ruleR src).1.up)) (boL (Ps.ruleR src).1.b) (Ps.kT (Ps.ruleR src).1.w:Nat) (nT (Ps.ruleR src).1.w) (Ps.nmT (Ps.ruleR src).1.w) (Tm.cellsL (Ps.arT (Ps.ruleR src).1.w)) (Ps.kT (Ps.ruleR src).1.lv:Nat) (nT (Ps.ruleR src).1.lv) (Ps.nmT (Ps.ruleR src).1.lv) (Tm.cellsL (Ps.arT (Ps.ruleR src).1.lv)) (Tm.cellsL (Ps.ruleR src).1.t) (Ps.ruleR src).2.1 (Ps.ruleR src).2.2 (ruL (Ps.parseR src).1.r) (coL (Ps.parseR src).1.c) (shL (Ps.parseR src).1.s) (Ps.parseR src).1.so (Ps.parseR src).2.1 (Ps.parseR src).2.2 (Ps.hereP (Lx.lexR src).1 0).1 (Ps.hereP (Lx.lexR src).1 0).2.2 (Ps.hereP (Lx.lexR src).1 0).2.1 true (.int .u8 ((Ps.ruleR src).1.k:Nat)) (.slice (heL (Ps.ruleR src).1.h) []) (.int .u8 (Ps.kT (Ps.ruleR src).1.lo:Nat)) (.int .i64 (nT (Ps.ruleR src).1.lo)) (.str (Ps.nmT (Ps.ruleR src).1.lo)) (.slice (Tm.cellsL (Ps.arT (Ps.ruleR src).1.lo)) []) (.int .u8 (Ps.kT (Ps.ruleR src).1.up:Nat)) (.int .i64 (nT (Ps.ruleR src).1.up)) (.str (Ps.nmT (Ps.ruleR src).1.up)) (.slice (Tm.cellsL (Ps.arT (Ps.ruleR src).1.up)) []) (.slice (boL (Ps.ruleR src).1.b) []) (.int .u8 (Ps.kT (Ps.ruleR src).1.w:Nat)) (.int .i64 (nT (Ps.ruleR src).1.w)) (.str (Ps.nmT (Ps.ruleR src).1.w)) (.slice (Tm.cellsL (Ps.arT (Ps.ruleR src).1.w)) []) (.int .u8 (Ps.kT (Ps.ruleR src).1.lv:Nat)) (.int .i64 (nT (Ps.ruleR src).1.lv)) (.str (Ps.nmT (Ps.ruleR src).1.lv)) (.slice (Tm.cellsL (Ps.arT (Ps.ruleR src).1.lv)) []) (.slice (Tm.cellsL (Ps.ruleR src).1.t) [])) ?_
 simp only[SS,List.length_map,QQ,Z8z,Z1d]
 refine⟨hA,hL,fun _=>trivial,fun he=>⟨fun _=>trivial,fun h4=>⟨fun _=>trivial,fun h0=>⟨hR,hP, ?_⟩⟩⟩⟩
 have hr:Ps.ruleR src=Ps.outE (Lx.lexR src).1 src Ps.zR (Ps.ruleP (Lx.lexR src).1 0):=by unfold Ps.ruleR Ps.lexd; rw[if_pos he]
 have hp:Ps.parseR src=Ps.outE (Lx.lexR src).1 src ⟨[],[],[],false⟩ (Ps.programP (Lx.lexR src).1):=by unfold Ps.parseR Ps.lexd; rw[if_pos he]
 have H:=Z7T he
 have hn:0<(Lx.lexR src).1.length:=by omega
 refine⟨?_,fun h5=> ?_,fun h5=> ?_⟩
 ·unfold Ps.hereP
  rw[List.getElem?_map,List.getElem?_eq_getElem hn,List.getD_eq_getElem?_getD,List.getElem?_eq_getElem hn]
  rfl
 ·rw[hr]; exact Ps.dir_plain H src h5
 ·have hv:=Ps.outE_v H src
  rw[<- hp] at hv
  have e1:=hv.cl
  have e2:=hv.sl
  rcases Ps.rules_plain H src hn h5 with ⟨r,g1,g2,g3⟩ | ⟨g1,g2⟩
  ·rw[hr,hp,g1,g2]
   have hS:=saRu r g3
   have hx:(ruL [r])[0]? = some (Ru.cs r):=rfl
   have hy:=Z7d r
   injection hy with hy
   rw[<- hy] at hx
   refine⟨fun _=>⟨fun _=>⟨⟨by simp,by simp⟩,fun _=>⟨fun _=>⟨nofun,fun _=>⟨hx,hS⟩⟩,fun h=>by simp at h⟩,fun h=>absurd rfl h⟩,fun h=>absurd rfl h⟩,fun h=>absurd rfl h⟩
  ·rw[<- hr] at g1
   rw[<- hp] at g2
   have hd:decide ((Ps.ruleR src).2.2=0)=false:=decide_eq_false g1
   simp only[hd]
   refine⟨fun k1=>⟨fun k2=>⟨by omega,fun k3=>⟨fun k4=>⟨fun _=>trivial,fun k5=>absurd ⟨k1,by omega,by omega,k5⟩ g2⟩,fun k4=> ?_⟩,fun _=>⟨fun _=>trivial,fun h=>by simp at h⟩⟩,fun _=>⟨fun _=>trivial,fun h=>by simp at h⟩⟩,fun _=>⟨fun _=>trivial,fun h=>by simp at h⟩⟩
   cases hso:(Ps.parseR src).1.so with
   | true=>rw[hso] at k4; simp at k4
   | false=>exact absurd ⟨k1,by omega,by omega,hso⟩ g2
end Go.Proofs.YtecgehidegnmnaaGreatDoor
