/- Own work: a layer over the kit: plain data,a walk over it,its soundness. -/
import Derived.Test.YtecgehidegnmnaaGreatDoorShape
import Derived.Test.YtecgehidegnmnaaGreatDoorPrR
import Derived.Test.YtecgehidegnmnaaGreatDoorSx11
set_option linter.unusedSectionVars false
set_option linter.unusedVariables false
set_option linter.unusedSimpArgs false
set_option linter.deprecated false
set_option maxRecDepth 100000
/- The kit's comparisons: trees. -/
namespace Go.Proofs.YtecgehidegnmnaaGreatDoor
open Go.Sx
theorem Zb3 (ka na:Int) (sa:LU) (la:LD):let A:=Rt (dB false) [];let B:=dB true;let C:=tC ka na sa la;gP (ctr (asmP B)) rs35 sc35 [dA C,dA C]=(brT (decide (ka=ka)) (brT (decide (na=na)) (brT (decide (sa=sa)) (Ow (FK 37 [dL la [],dL la []] B) (Rt B [])) A) A) A:Tr):=by intro A B C;kernel_rfl
theorem Zbb (s:LU) (l:LD):let A:=dB true;let B:=[dS s,dL l []];gP (ctr (asmP A)) ZdU Zd8 [dA B,dA B]=(brT (decide (s=s)) (Ow (FK 37 [dL l [],dL l []] A) (Rt A [])) (Rt (dB false) []):Tr):=by intro A B;kernel_rfl
theorem Zb6 (lkz:Int) (lnoz:Bool) (lpz:LU) (laz:LD) (lopz kza nza:Int) (sza:LU) (lza:LD) (kzb nzb:Int) (szb:LU) (lzb:LD):let A:=[dU lkz,dB lnoz,dS lpz,dL laz [],dU lopz,dU kza,dI nza,dS sza,dL lza [],dU kzb,dI nzb,dS szb,dL lzb []];let B:=Rt (dB false) [];let C:=dB true;let E:=tC kza nza sza lza;let F:=tC kzb nzb szb lzb;let G:=[dS lpz,dL laz []];gP (ctr (asmP C)) ZdT Zd7 [dA A,dA A]=(brT (decide (lkz=lkz)) (brT (lnoz == lnoz) (Ow (FK 113 [dA G,dA G] C) (brT (decide (lopz=lopz)) (Ow (FK 35 [dA E,dA E] C) (Ow (FK 35 [dA F,dA F] C) (Rt C []))) B)) B) B:Tr):=by intro A B C E F G;kernel_rfl
theorem Zb7 (s:LU) (l c:LD):let A:=dB true;let B:=[dS s,dL l [],dL c []];let C:=[dS s,dL l []];gP (ctr (asmP A)) rs69 sc69 [dA B,dA B]=(Ow (FK 113 [dA C,dA C] A) (Ow (FK 114 [dL c [],dL c []] A) (Rt A [])):Tr):=by intro A B C;kernel_rfl
theorem Zb8 (l c:LD):let A:=dB true;let B:=[dL l [],dL c []];gP (ctr (asmP A)) ZdG ZcU [dA B,dA B]=(Ow (FK 37 [dL l [],dL l []] A) (Ow (FK 114 [dL c [],dL c []] A) (Rt A [])):Tr):=by intro A B;kernel_rfl
theorem Zba (bkz lkz:Int) (lnoz:Bool) (lpz:LU) (laz:LD) (lopz kza nza:Int) (sza:LU) (lza:LD) (kzb nzb:Int) (szb:LU) (lzb bcz:LD) (bnoz:Bool) (bfz:Int) (bez:LD) (bopz kzc nzc:Int) (szc:LU) (lzc:LD):let A:=[dU bkz,dU lkz,dB lnoz,dS lpz,dL laz [],dU lopz,dU kza,dI nza,dS sza,dL lza [],dU kzb,dI nzb,dS szb,dL lzb [],dL bcz [],dB bnoz,dU bfz,dL bez [],dU bopz,dU kzc,dI nzc,dS szc,dL lzc []];let B:=[dU lkz,dB lnoz,dS lpz,dL laz [],dU lopz,dU kza,dI nza,dS sza,dL lza [],dU kzb,dI nzb,dS szb,dL lzb []];let C:=Rt (dB false) [];let E:=dB true;let F:=tC kzc nzc szc lzc;gP (ctr (asmP E)) rs70 sc70 [dA A,dA A]=(brT (decide (bkz=bkz)) (Ow (FK 115 [dA B,dA B] E) (Ow (FK 114 [dL bcz [],dL bcz []] E) (brT (bnoz == bnoz) (brT (decide (bfz=bfz)) (Ow (FK 116 [dL bez [],dL bez []] E) (brT (decide (bopz=bopz)) (Ow (FK 35 [dA F,dA F] E) (Rt E [])) C)) C) C))) C:Tr):=by intro A B C E F;kernel_rfl
theorem Zb9 (s:LU) (ka na:Int) (sa:LU) (la:LD):let A:=[dS s,dU ka,dI na,dS sa,dL la []];let B:=dB true;let C:=tC ka na sa la;gP (ctr (asmP B)) rs74 sc74 [dA A,dA A]=(brT (decide (s=s)) (Ow (FK 35 [dA C,dA C] B) (Rt B [])) (Rt (dB false) []):Tr):=by intro A B C;kernel_rfl
theorem Zb4 (rkz:Int) (rhz:LD) (kza nza:Int) (sza:LU) (lza:LD) (kzb nzb:Int) (szb:LU) (lzb rbz:LD) (kzc nzc:Int) (szc:LU) (lzc:LD) (kzd nzd:Int) (szd:LU) (lzd rtz:LD):let A:=[dU rkz,dL rhz [],dU kza,dI nza,dS sza,dL lza [],dU kzb,dI nzb,dS szb,dL lzb [],dL rbz [],dU kzc,dI nzc,dS szc,dL lzc [],dU kzd,dI nzd,dS szd,dL lzd [],dL rtz []];let B:=dB true;let C:=tC kza nza sza lza;let E:=tC kzb nzb szb lzb;let F:=tC kzc nzc szc lzc;let G:=tC kzd nzd szd lzd;gP (ctr (asmP B)) rs13 sc13 [dA A,dA A]=(brT (decide (rkz=rkz)) (Ow (FK 34 [dL rhz [],dL rhz []] B) (Ow (FK 35 [dA C,dA C] B) (Ow (FK 35 [dA E,dA E] B) (Ow (FK 36 [dL rbz [],dL rbz []] B) (Ow (FK 35 [dA F,dA F] B) (Ow (FK 35 [dA G,dA G] B) (Ow (FK 37 [dL rtz [],dL rtz []] B) (Rt B [])))))))) (Rt (dB false) []):Tr):=by intro A B C E F G;kernel_rfl
theorem Zb5 (l1 l2 l3:LD) (b:Bool):let A:=[dL l1 [],dL l2 [],dL l3 [],dB b];let B:=dB true;gP (ctr (asmP B)) rs15 sc15 [dA A,dA A]=(Ow (FK 10 [dL l1 [],dL l1 []] B) (Ow (FK 39 [dL l2 [],dL l2 []] B) (Ow (FK 40 [dL l3 [],dL l3 []] B) (Rt (dB (b == b)) []))):Tr):=by intro A B;kernel_rfl
def hdSa (a:LD) (i:Int):St:=⟨[(0,.slice a []),(1,.slice a []),(5,.int .i64 i)],[]⟩
theorem Z9k (a:LD):let A:=(↑(List.length a):Int);gP (ctr libT) rs37 sc37 [dL a [],dL a []]=(brT (!decide (A=A)) (Rt (dB false) []) (Jm (cut sc37 0) { tm:=[(0,dL a []),(1,dL a []),(5,dI 0)],ob:=[] }):Tr):=by intro A;kernel_rfl
theorem Z2v (a:LD) (i:Int) (x0 x1 x2 x3:D):let A:=[x0,x1,x2,x3];let B:=dB true;let C:=cut sc37 0;let E:=(i+(1:Int));gH (ctr (asmP B) Qs fun t x=>if t=19 then A else if t=23 then A else []) 0 true rs37 C (hdSa a i)=(brT (decide (i<(↑(List.length a):Int))) (Ow ((0:Int)<=i/\a[Int.toNat i]? = some A) (Ow ((0:Int)<=i/\a[Int.toNat i]? = some A) (Ow (FK 35 [dA A,dA A] B) (I8 E (Jm C { tm:=[(0,dL a []),(1,dL a []),(5,dI E)],ob:=[] }))))) (Rt B []):Tr):=by intro A B C E;kernel_rfl
theorem Z9n (a:LD):let A:=(↑(List.length a):Int);gP (ctr libT) Z7G Z6h [dL a [],dL a []]=(brT (!decide (A=A)) (Rt (dB false) []) (Jm (cut Z6h 0) { tm:=[(0,dL a []),(1,dL a []),(5,dI 0)],ob:=[] }):Tr):=by intro A;kernel_rfl
theorem Z2y (a:LD) (i:Int) (x0 x1 x2 x3 x4 x5 x6 x7 x8 x9 x10 x11 x12:D):let A:=[x0,x1,x2,x3,x4,x5,x6,x7,x8,x9,x10,x11,x12];let B:=dB true;let C:=cut Z6h 0;let E:=(i+(1:Int));gH (ctr (asmP B) Qs fun t x=>if t=19 then A else if t=23 then A else []) 0 true Z7G C (hdSa a i)=(brT (decide (i<(↑(List.length a):Int))) (Ow ((0:Int)<=i/\a[Int.toNat i]? = some A) (Ow ((0:Int)<=i/\a[Int.toNat i]? = some A) (Ow (FK 115 [dA A,dA A] B) (I8 E (Jm C { tm:=[(0,dL a []),(1,dL a []),(5,dI E)],ob:=[] }))))) (Rt B []):Tr):=by intro A B C E;kernel_rfl
theorem Z9o (a:LD):let A:=(↑(List.length a):Int);gP (ctr libT) rs34 sc34 [dL a [],dL a []]=(brT (!decide (A=A)) (Rt (dB false) []) (Jm (cut sc34 0) { tm:=[(0,dL a []),(1,dL a []),(5,dI 0)],ob:=[] }):Tr):=by intro A;kernel_rfl
theorem Z2z (a:LD) (i:Int) (x0 x1 x2:D):let A:=[x0,x1,x2];let B:=dB true;let C:=cut sc34 0;let E:=(i+(1:Int));gH (ctr (asmP B) Qs fun t x=>if t=19 then A else if t=23 then A else []) 0 true rs34 C (hdSa a i)=(brT (decide (i<(↑(List.length a):Int))) (Ow ((0:Int)<=i/\a[Int.toNat i]? = some A) (Ow ((0:Int)<=i/\a[Int.toNat i]? = some A) (Ow (FK 69 [dA A,dA A] B) (I8 E (Jm C { tm:=[(0,dL a []),(1,dL a []),(5,dI E)],ob:=[] }))))) (Rt B []):Tr):=by intro A B C E;kernel_rfl
theorem Z9p (a:LD):let A:=(↑(List.length a):Int);gP (ctr libT) Z7F Z6g [dL a [],dL a []]=(brT (!decide (A=A)) (Rt (dB false) []) (Jm (cut Z6g 0) { tm:=[(0,dL a []),(1,dL a []),(5,dI 0)],ob:=[] }):Tr):=by intro A;kernel_rfl
theorem Z2A (a:LD) (i:Int) (x0 x1:D):let A:=dB true;let B:=cut Z6g 0;let C:=(i+(1:Int));gH (ctr (asmP A) Qs fun t x=>if t=19 then [x0,x1] else if t=23 then [x0,x1] else []) 0 true Z7F B (hdSa a i)=(brT (decide (i<(↑(List.length a):Int))) (Ow ((0:Int)<=i/\a[Int.toNat i]? = some [x0,x1]) (Ow ((0:Int)<=i/\a[Int.toNat i]? = some [x0,x1]) (Ow (FK 150 [dA [x0,x1],dA [x0,x1]] A) (I8 C (Jm B { tm:=[(0,dL a []),(1,dL a []),(5,dI C)],ob:=[] }))))) (Rt A []):Tr):=by intro A B C;kernel_rfl
theorem Z9r (a:LD):let A:=(↑(List.length a):Int);gP (ctr libT) rs36 sc36 [dL a [],dL a []]=(brT (!decide (A=A)) (Rt (dB false) []) (Jm (cut sc36 0) { tm:=[(0,dL a []),(1,dL a []),(5,dI 0)],ob:=[] }):Tr):=by intro A;kernel_rfl
theorem Z2C (a:LD) (i:Int) (x0 x1 x2 x3 x4 x5 x6 x7 x8 x9 x10 x11 x12 x13 x14 x15 x16 x17 x18 x19 x20 x21 x22:D):let A:=[x0,x1,x2,x3,x4,x5,x6,x7,x8,x9,x10,x11,x12,x13,x14,x15,x16,x17,x18,x19,x20,x21,x22];let B:=dB true;let C:=cut sc36 0;let E:=(i+(1:Int));gH (ctr (asmP B) Qs fun t x=>if t=19 then A else if t=23 then A else []) 0 true rs36 C (hdSa a i)=(brT (decide (i<(↑(List.length a):Int))) (Ow ((0:Int)<=i/\a[Int.toNat i]? = some A) (Ow ((0:Int)<=i/\a[Int.toNat i]? = some A) (Ow (FK 70 [dA A,dA A] B) (I8 E (Jm C { tm:=[(0,dL a []),(1,dL a []),(5,dI E)],ob:=[] }))))) (Rt B []):Tr):=by intro A B C E;kernel_rfl
theorem Z9q (a:LD):let A:=(↑(List.length a):Int);gP (ctr libT) rs39 sc39 [dL a [],dL a []]=(brT (!decide (A=A)) (Rt (dB false) []) (Jm (cut sc39 0) { tm:=[(0,dL a []),(1,dL a []),(5,dI 0)],ob:=[] }):Tr):=by intro A;kernel_rfl
theorem Z2B (a:LD) (i:Int) (x0 x1 x2 x3 x4:D):let A:=[x0,x1,x2,x3,x4];let B:=dB true;let C:=cut sc39 0;let E:=(i+(1:Int));gH (ctr (asmP B) Qs fun t x=>if t=19 then A else if t=23 then A else []) 0 true rs39 C (hdSa a i)=(brT (decide (i<(↑(List.length a):Int))) (Ow ((0:Int)<=i/\a[Int.toNat i]? = some A) (Ow ((0:Int)<=i/\a[Int.toNat i]? = some A) (Ow (FK 74 [dA A,dA A] B) (I8 E (Jm C { tm:=[(0,dL a []),(1,dL a []),(5,dI E)],ob:=[] }))))) (Rt B []):Tr):=by intro A B C E;kernel_rfl
theorem Z9m (a:LD):let A:=(↑(List.length a):Int);gP (ctr libT) rs10 sc10 [dL a [],dL a []]=(brT (!decide (A=A)) (Rt (dB false) []) (Jm (cut sc10 0) { tm:=[(0,dL a []),(1,dL a []),(5,dI 0)],ob:=[] }):Tr):=by intro A;kernel_rfl
theorem Z2x (a:LD) (i:Int) (x0 x1 x2 x3 x4 x5 x6 x7 x8 x9 x10 x11 x12 x13 x14 x15 x16 x17 x18 x19:D):let A:=[x0,x1,x2,x3,x4,x5,x6,x7,x8,x9,x10,x11,x12,x13,x14,x15,x16,x17,x18,x19];let B:=dB true;let C:=cut sc10 0;let E:=(i+(1:Int));gH (ctr (asmP B) Qs fun t x=>if t=19 then A else if t=23 then A else []) 0 true rs10 C (hdSa a i)=(brT (decide (i<(↑(List.length a):Int))) (Ow ((0:Int)<=i/\a[Int.toNat i]? = some A) (Ow ((0:Int)<=i/\a[Int.toNat i]? = some A) (Ow (FK 13 [dA A,dA A] B) (I8 E (Jm C { tm:=[(0,dL a []),(1,dL a []),(5,dI E)],ob:=[] }))))) (Rt B []):Tr):=by intro A B C E;kernel_rfl
theorem Z9l (a:LD):let A:=(↑(List.length a):Int);gP (ctr libT) rs40 sc40 [dL a [],dL a []]=(brT (!decide (A=A)) (Rt (dB false) []) (Jm (cut sc40 0) { tm:=[(0,dL a []),(1,dL a []),(5,dI 0)],ob:=[] }):Tr):=by intro A;kernel_rfl
theorem Z2w (a:LD) (i:Int) (s:LU) (n:Int):let A:=[dS s,dI n];let B:=cut sc40 0;let C:=(i+(1:Int));gH (ctr libT Qs fun t x=>A) 0 true rs40 B (hdSa a i)=(brT (decide (i<(↑(List.length a):Int))) (Ow ((0:Int)<=i/\a[Int.toNat i]? = some A) (Ow ((0:Int)<=i/\a[Int.toNat i]? = some A) (brT (match true with | true=> !(decide (s=s) && (decide (n=n) && true)) | false=>decide (s=s) && (decide (n=n) && true)) (Rt (dB false) []) (I8 C (Jm B { tm:=[(0,dL a []),(1,dL a []),(5,dI C)],ob:=[] }))))) (Rt (dB true) []):Tr):=by intro A B C;kernel_rfl
end Go.Proofs.YtecgehidegnmnaaGreatDoor
/- The kit's comparisons hold of equal things. -/
namespace Go.Proofs.YtecgehidegnmnaaGreatDoor
open Go.Sx
open Go.Sx.Ps (LtW CdW TuW ElW BoW HeW RuW CoW AcW)
theorem ex2 (l:List D) (h:l.length=2):l=[l.getD 0 .undef,l.getD 1 .undef]:=by
 match l,h with
 | [x0,x1],_=>rfl
theorem ex3 (l:List D) (h:l.length=3):l=[l.getD 0 .undef,l.getD 1 .undef,l.getD 2 .undef]:=by
 match l,h with
 | [x0,x1,x2],_=>rfl
theorem ex4 (l:List D) (h:l.length=4):l=[l.getD 0 .undef,l.getD 1 .undef,l.getD 2 .undef,l.getD 3 .undef]:=by
 match l,h with
 | [x0,x1,x2,x3],_=>rfl
theorem ex5 (l:List D) (h:l.length=5):l=[l.getD 0 .undef,l.getD 1 .undef,l.getD 2 .undef,l.getD 3 .undef,l.getD 4 .undef]:=by
 match l,h with
 | [x0,x1,x2,x3,x4],_=>rfl
theorem ex13 (l:List D) (h:l.length=13):l=[l.getD 0 .undef,l.getD 1 .undef,l.getD 2 .undef,l.getD 3 .undef,l.getD 4 .undef,l.getD 5 .undef,l.getD 6 .undef,l.getD 7 .undef,l.getD 8 .undef,l.getD 9 .undef,l.getD 10 .undef,l.getD 11 .undef,l.getD 12 .undef]:=by
 match l,h with
 | [x0,x1,x2,x3,x4,x5,x6,x7,x8,x9,x10,x11,x12],_=>rfl
theorem ex20 (l:List D) (h:l.length=20):l=[l.getD 0 .undef,l.getD 1 .undef,l.getD 2 .undef,l.getD 3 .undef,l.getD 4 .undef,l.getD 5 .undef,l.getD 6 .undef,l.getD 7 .undef,l.getD 8 .undef,l.getD 9 .undef,l.getD 10 .undef,l.getD 11 .undef,l.getD 12 .undef,l.getD 13 .undef,l.getD 14 .undef,l.getD 15 .undef,l.getD 16 .undef,l.getD 17 .undef,l.getD 18 .undef,l.getD 19 .undef]:=by
 match l,h with
 | [x0,x1,x2,x3,x4,x5,x6,x7,x8,x9,x10,x11,x12,x13,x14,x15,x16,x17,x18,x19],_=>rfl
theorem ex23 (l:List D) (h:l.length=23):l=[l.getD 0 .undef,l.getD 1 .undef,l.getD 2 .undef,l.getD 3 .undef,l.getD 4 .undef,l.getD 5 .undef,l.getD 6 .undef,l.getD 7 .undef,l.getD 8 .undef,l.getD 9 .undef,l.getD 10 .undef,l.getD 11 .undef,l.getD 12 .undef,l.getD 13 .undef,l.getD 14 .undef,l.getD 15 .undef,l.getD 16 .undef,l.getD 17 .undef,l.getD 18 .undef,l.getD 19 .undef,l.getD 20 .undef,l.getD 21 .undef,l.getD 22 .undef]:=by
 match l,h with
 | [x0,x1,x2,x3,x4,x5,x6,x7,x8,x9,x10,x11,x12,x13,x14,x15,x16,x17,x18,x19,x20,x21,x22],_=>rfl
theorem Zg5 (l:List Tm) (hl:l.length<=281474976710656) (hk: ∀ x∈l,(Tm.cells x).length=4) (H: ∀ x∈l,FK 35 [.agg (Tm.cells x),.agg (Tm.cells x)] (.bool true)):FK 37 [.slice (l.map Tm.cells) [],.slice (l.map Tm.cells) []] (.bool true):=by
 have at': ∀ (m i:Nat),l.length-i=m->i<=l.length->At Tryz.prog 0 (cut sc37 0) (hdSa (l.map Tm.cells) i) (FinQ true 0 rs37 fun r _=>r= .bool true):=by
  intro m
  induction m with
  | zero =>
   intro i hm hi
   refine At.tree (Z4 (Zf (.bool true)) Z3) (Z2v (l.map Tm.cells) i .undef .undef .undef .undef) ?_
   simp only[SS,List.length_map]
   first | exact⟨fun h=>by omega,fun _=>rfl⟩ | exact⟨fun h=>by omega,fun _=>trivial⟩ | exact fun h=>by omega
  | succ m ih =>
   intro i hm hi
   have h1:i<l.length:=by omega
   have hC:=H _ (List.getElem_mem h1)
   have hx:(l.map Tm.cells)[i]? = some (Tm.cells l[i]):=by simp[h1]
   have hI:=ih (i+1) (by omega) (by omega)
   rw[ex4 _ (hk _ (List.getElem_mem h1))] at hC hx
   refine At.tree (Z4 (Zf (.bool true)) Z3) (Z2v (l.map Tm.cells) i (((Tm.cells l[i]).getD 0 .undef)) (((Tm.cells l[i]).getD 1 .undef)) (((Tm.cells l[i]).getD 2 .undef)) (((Tm.cells l[i]).getD 3 .undef))) ?_
   simp only[SS,List.length_map]
   exact⟨fun _=>⟨⟨by omega,hx⟩,⟨by omega,hx⟩,hC,by omega,hI⟩,fun h=>by omega⟩
 refine FnOK.tree Z5 fp37 (Z4 Z1 Z3) (Z9k (l.map Tm.cells)) ?_
 simp only[SS,List.length_map]
 first | exact at' _ 0 rfl (Nat.zero_le _) | exact⟨fun h=>absurd rfl h,fun _=>at' _ 0 rfl (Nat.zero_le _)⟩ | exact⟨fun h=>absurd trivial h,at' _ 0 rfl (Nat.zero_le _)⟩
theorem Ziz (l:List Lt) (hl:l.length<=281474976710656) (hk: ∀ x∈l,(Lt.c x).length=13) (H: ∀ x∈l,FK 115 [.agg (Lt.c x),.agg (Lt.c x)] (.bool true)):FK 114 [.slice (l.map Lt.c) [],.slice (l.map Lt.c) []] (.bool true):=by
 have at': ∀ (m i:Nat),l.length-i=m->i<=l.length->At Tryz.prog 0 (cut Z6h 0) (hdSa (l.map Lt.c) i) (FinQ true 0 Z7G fun r _=>r= .bool true):=by
  intro m
  induction m with
  | zero =>
   intro i hm hi
   refine At.tree (Z4 (Zf (.bool true)) Z3) (Z2y (l.map Lt.c) i .undef .undef .undef .undef .undef .undef .undef .undef .undef .undef .undef .undef .undef) ?_
   simp only[SS,List.length_map]
   first | exact⟨fun h=>by omega,fun _=>rfl⟩ | exact⟨fun h=>by omega,fun _=>trivial⟩ | exact fun h=>by omega
  | succ m ih =>
   intro i hm hi
   have h1:i<l.length:=by omega
   have hC:=H _ (List.getElem_mem h1)
   have hx:(l.map Lt.c)[i]? = some (Lt.c l[i]):=by simp[h1]
   have hI:=ih (i+1) (by omega) (by omega)
   rw[ex13 _ (hk _ (List.getElem_mem h1))] at hC hx
   refine At.tree (Z4 (Zf (.bool true)) Z3) (Z2y (l.map Lt.c) i (((Lt.c l[i]).getD 0 .undef)) (((Lt.c l[i]).getD 1 .undef)) (((Lt.c l[i]).getD 2 .undef)) (((Lt.c l[i]).getD 3 .undef)) (((Lt.c l[i]).getD 4 .undef)) (((Lt.c l[i]).getD 5 .undef)) (((Lt.c l[i]).getD 6 .undef)) (((Lt.c l[i]).getD 7 .undef)) (((Lt.c l[i]).getD 8 .undef)) (((Lt.c l[i]).getD 9 .undef)) (((Lt.c l[i]).getD 10 .undef)) (((Lt.c l[i]).getD 11 .undef)) (((Lt.c l[i]).getD 12 .undef))) ?_
   simp only[SS,List.length_map]
   exact⟨fun _=>⟨⟨by omega,hx⟩,⟨by omega,hx⟩,hC,by omega,hI⟩,fun h=>by omega⟩
 refine FnOK.tree Z5 Zhn (Z4 Z1 Z3) (Z9n (l.map Lt.c)) ?_
 simp only[SS,List.length_map]
 first | exact at' _ 0 rfl (Nat.zero_le _) | exact⟨fun h=>absurd rfl h,fun _=>at' _ 0 rfl (Nat.zero_le _)⟩ | exact⟨fun h=>absurd trivial h,at' _ 0 rfl (Nat.zero_le _)⟩
theorem ZiA (l:List He) (hl:l.length<=281474976710656) (hk: ∀ x∈l,(He.cs x).length=3) (H: ∀ x∈l,FK 69 [.agg (He.cs x),.agg (He.cs x)] (.bool true)):FK 34 [.slice (l.map He.cs) [],.slice (l.map He.cs) []] (.bool true):=by
 have at': ∀ (m i:Nat),l.length-i=m->i<=l.length->At Tryz.prog 0 (cut sc34 0) (hdSa (l.map He.cs) i) (FinQ true 0 rs34 fun r _=>r= .bool true):=by
  intro m
  induction m with
  | zero =>
   intro i hm hi
   refine At.tree (Z4 (Zf (.bool true)) Z3) (Z2z (l.map He.cs) i .undef .undef .undef) ?_
   simp only[SS,List.length_map]
   first | exact⟨fun h=>by omega,fun _=>rfl⟩ | exact⟨fun h=>by omega,fun _=>trivial⟩ | exact fun h=>by omega
  | succ m ih =>
   intro i hm hi
   have h1:i<l.length:=by omega
   have hC:=H _ (List.getElem_mem h1)
   have hx:(l.map He.cs)[i]? = some (He.cs l[i]):=by simp[h1]
   have hI:=ih (i+1) (by omega) (by omega)
   rw[ex3 _ (hk _ (List.getElem_mem h1))] at hC hx
   refine At.tree (Z4 (Zf (.bool true)) Z3) (Z2z (l.map He.cs) i (((He.cs l[i]).getD 0 .undef)) (((He.cs l[i]).getD 1 .undef)) (((He.cs l[i]).getD 2 .undef))) ?_
   simp only[SS,List.length_map]
   exact⟨fun _=>⟨⟨by omega,hx⟩,⟨by omega,hx⟩,hC,by omega,hI⟩,fun h=>by omega⟩
 refine FnOK.tree Z5 fp34 (Z4 Z1 Z3) (Z9o (l.map He.cs)) ?_
 simp only[SS,List.length_map]
 first | exact at' _ 0 rfl (Nat.zero_le _) | exact⟨fun h=>absurd rfl h,fun _=>at' _ 0 rfl (Nat.zero_le _)⟩ | exact⟨fun h=>absurd trivial h,at' _ 0 rfl (Nat.zero_le _)⟩
theorem ZiB (l:List El) (hl:l.length<=281474976710656) (hk: ∀ x∈l,(El.cs x).length=2) (H: ∀ x∈l,FK 150 [.agg (El.cs x),.agg (El.cs x)] (.bool true)):FK 116 [.slice (l.map El.cs) [],.slice (l.map El.cs) []] (.bool true):=by
 have at': ∀ (m i:Nat),l.length-i=m->i<=l.length->At Tryz.prog 0 (cut Z6g 0) (hdSa (l.map El.cs) i) (FinQ true 0 Z7F fun r _=>r= .bool true):=by
  intro m
  induction m with
  | zero =>
   intro i hm hi
   refine At.tree (Z4 (Zf (.bool true)) Z3) (Z2A (l.map El.cs) i .undef .undef) ?_
   simp only[SS,List.length_map]
   first | exact⟨fun h=>by omega,fun _=>rfl⟩ | exact⟨fun h=>by omega,fun _=>trivial⟩ | exact fun h=>by omega
  | succ m ih =>
   intro i hm hi
   have h1:i<l.length:=by omega
   have hC:=H _ (List.getElem_mem h1)
   have hx:(l.map El.cs)[i]? = some (El.cs l[i]):=by simp[h1]
   have hI:=ih (i+1) (by omega) (by omega)
   rw[ex2 _ (hk _ (List.getElem_mem h1))] at hC hx
   refine At.tree (Z4 (Zf (.bool true)) Z3) (Z2A (l.map El.cs) i (((El.cs l[i]).getD 0 .undef)) (((El.cs l[i]).getD 1 .undef))) ?_
   simp only[SS,List.length_map]
   exact⟨fun _=>⟨⟨by omega,hx⟩,⟨by omega,hx⟩,hC,by omega,hI⟩,fun h=>by omega⟩
 refine FnOK.tree Z5 Zhl (Z4 Z1 Z3) (Z9p (l.map El.cs)) ?_
 simp only[SS,List.length_map]
 first | exact at' _ 0 rfl (Nat.zero_le _) | exact⟨fun h=>absurd rfl h,fun _=>at' _ 0 rfl (Nat.zero_le _)⟩ | exact⟨fun h=>absurd trivial h,at' _ 0 rfl (Nat.zero_le _)⟩
theorem ZiD (l:List Bo) (hl:l.length<=281474976710656) (hk: ∀ x∈l,(Bo.cs x).length=23) (H: ∀ x∈l,FK 70 [.agg (Bo.cs x),.agg (Bo.cs x)] (.bool true)):FK 36 [.slice (l.map Bo.cs) [],.slice (l.map Bo.cs) []] (.bool true):=by
 have at': ∀ (m i:Nat),l.length-i=m->i<=l.length->At Tryz.prog 0 (cut sc36 0) (hdSa (l.map Bo.cs) i) (FinQ true 0 rs36 fun r _=>r= .bool true):=by
  intro m
  induction m with
  | zero =>
   intro i hm hi
   refine At.tree (Z4 (Zf (.bool true)) Z3) (Z2C (l.map Bo.cs) i .undef .undef .undef .undef .undef .undef .undef .undef .undef .undef .undef .undef .undef .undef .undef .undef .undef .undef .undef .undef .undef .undef .undef) ?_
   simp only[SS,List.length_map]
   first | exact⟨fun h=>by omega,fun _=>rfl⟩ | exact⟨fun h=>by omega,fun _=>trivial⟩ | exact fun h=>by omega
  | succ m ih =>
   intro i hm hi
   have h1:i<l.length:=by omega
   have hC:=H _ (List.getElem_mem h1)
   have hx:(l.map Bo.cs)[i]? = some (Bo.cs l[i]):=by simp[h1]
   have hI:=ih (i+1) (by omega) (by omega)
   rw[ex23 _ (hk _ (List.getElem_mem h1))] at hC hx
   refine At.tree (Z4 (Zf (.bool true)) Z3) (Z2C (l.map Bo.cs) i (((Bo.cs l[i]).getD 0 .undef)) (((Bo.cs l[i]).getD 1 .undef)) (((Bo.cs l[i]).getD 2 .undef)) (((Bo.cs l[i]).getD 3 .undef)) (((Bo.cs l[i]).getD 4 .undef)) (((Bo.cs l[i]).getD 5 .undef)) (((Bo.cs l[i]).getD 6 .undef)) (((Bo.cs l[i]).getD 7 .undef)) (((Bo.cs l[i]).getD 8 .undef)) (((Bo.cs l[i]).getD 9 .undef)) (((Bo.cs l[i]).getD 10 .undef)) (((Bo.cs l[i]).getD 11 .undef)) (((Bo.cs l[i]).getD 12 .undef)) (((Bo.cs l[i]).getD 13 .undef)) (((Bo.cs l[i]).getD 14 .undef)) (((Bo.cs l[i]).getD 15 .undef)) (((Bo.cs l[i]).getD 16 .undef)) (((Bo.cs l[i]).getD 17 .undef)) (((Bo.cs l[i]).getD 18 .undef)) (((Bo.cs l[i]).getD 19 .undef)) (((Bo.cs l[i]).getD 20 .undef)) (((Bo.cs l[i]).getD 21 .undef)) (((Bo.cs l[i]).getD 22 .undef))) ?_
   simp only[SS,List.length_map]
   exact⟨fun _=>⟨⟨by omega,hx⟩,⟨by omega,hx⟩,hC,by omega,hI⟩,fun h=>by omega⟩
 refine FnOK.tree Z5 fp36 (Z4 Z1 Z3) (Z9r (l.map Bo.cs)) ?_
 simp only[SS,List.length_map]
 first | exact at' _ 0 rfl (Nat.zero_le _) | exact⟨fun h=>absurd rfl h,fun _=>at' _ 0 rfl (Nat.zero_le _)⟩ | exact⟨fun h=>absurd trivial h,at' _ 0 rfl (Nat.zero_le _)⟩
theorem ZiC (l:List Co) (hl:l.length<=281474976710656) (hk: ∀ x∈l,(Co.cs x).length=5) (H: ∀ x∈l,FK 74 [.agg (Co.cs x),.agg (Co.cs x)] (.bool true)):FK 39 [.slice (l.map Co.cs) [],.slice (l.map Co.cs) []] (.bool true):=by
 have at': ∀ (m i:Nat),l.length-i=m->i<=l.length->At Tryz.prog 0 (cut sc39 0) (hdSa (l.map Co.cs) i) (FinQ true 0 rs39 fun r _=>r= .bool true):=by
  intro m
  induction m with
  | zero =>
   intro i hm hi
   refine At.tree (Z4 (Zf (.bool true)) Z3) (Z2B (l.map Co.cs) i .undef .undef .undef .undef .undef) ?_
   simp only[SS,List.length_map]
   first | exact⟨fun h=>by omega,fun _=>rfl⟩ | exact⟨fun h=>by omega,fun _=>trivial⟩ | exact fun h=>by omega
  | succ m ih =>
   intro i hm hi
   have h1:i<l.length:=by omega
   have hC:=H _ (List.getElem_mem h1)
   have hx:(l.map Co.cs)[i]? = some (Co.cs l[i]):=by simp[h1]
   have hI:=ih (i+1) (by omega) (by omega)
   rw[ex5 _ (hk _ (List.getElem_mem h1))] at hC hx
   refine At.tree (Z4 (Zf (.bool true)) Z3) (Z2B (l.map Co.cs) i (((Co.cs l[i]).getD 0 .undef)) (((Co.cs l[i]).getD 1 .undef)) (((Co.cs l[i]).getD 2 .undef)) (((Co.cs l[i]).getD 3 .undef)) (((Co.cs l[i]).getD 4 .undef))) ?_
   simp only[SS,List.length_map]
   exact⟨fun _=>⟨⟨by omega,hx⟩,⟨by omega,hx⟩,hC,by omega,hI⟩,fun h=>by omega⟩
 refine FnOK.tree Z5 fp39 (Z4 Z1 Z3) (Z9q (l.map Co.cs)) ?_
 simp only[SS,List.length_map]
 first | exact at' _ 0 rfl (Nat.zero_le _) | exact⟨fun h=>absurd rfl h,fun _=>at' _ 0 rfl (Nat.zero_le _)⟩ | exact⟨fun h=>absurd trivial h,at' _ 0 rfl (Nat.zero_le _)⟩
theorem Ziy (l:List Ru) (hl:l.length<=281474976710656) (hk: ∀ x∈l,(Ru.cs x).length=20) (H: ∀ x∈l,FK 13 [.agg (Ru.cs x),.agg (Ru.cs x)] (.bool true)):FK 10 [.slice (l.map Ru.cs) [],.slice (l.map Ru.cs) []] (.bool true):=by
 have at': ∀ (m i:Nat),l.length-i=m->i<=l.length->At Tryz.prog 0 (cut sc10 0) (hdSa (l.map Ru.cs) i) (FinQ true 0 rs10 fun r _=>r= .bool true):=by
  intro m
  induction m with
  | zero =>
   intro i hm hi
   refine At.tree (Z4 (Zf (.bool true)) Z3) (Z2x (l.map Ru.cs) i .undef .undef .undef .undef .undef .undef .undef .undef .undef .undef .undef .undef .undef .undef .undef .undef .undef .undef .undef .undef) ?_
   simp only[SS,List.length_map]
   first | exact⟨fun h=>by omega,fun _=>rfl⟩ | exact⟨fun h=>by omega,fun _=>trivial⟩ | exact fun h=>by omega
  | succ m ih =>
   intro i hm hi
   have h1:i<l.length:=by omega
   have hC:=H _ (List.getElem_mem h1)
   have hx:(l.map Ru.cs)[i]? = some (Ru.cs l[i]):=by simp[h1]
   have hI:=ih (i+1) (by omega) (by omega)
   rw[ex20 _ (hk _ (List.getElem_mem h1))] at hC hx
   refine At.tree (Z4 (Zf (.bool true)) Z3) (Z2x (l.map Ru.cs) i (((Ru.cs l[i]).getD 0 .undef)) (((Ru.cs l[i]).getD 1 .undef)) (((Ru.cs l[i]).getD 2 .undef)) (((Ru.cs l[i]).getD 3 .undef)) (((Ru.cs l[i]).getD 4 .undef)) (((Ru.cs l[i]).getD 5 .undef)) (((Ru.cs l[i]).getD 6 .undef)) (((Ru.cs l[i]).getD 7 .undef)) (((Ru.cs l[i]).getD 8 .undef)) (((Ru.cs l[i]).getD 9 .undef)) (((Ru.cs l[i]).getD 10 .undef)) (((Ru.cs l[i]).getD 11 .undef)) (((Ru.cs l[i]).getD 12 .undef)) (((Ru.cs l[i]).getD 13 .undef)) (((Ru.cs l[i]).getD 14 .undef)) (((Ru.cs l[i]).getD 15 .undef)) (((Ru.cs l[i]).getD 16 .undef)) (((Ru.cs l[i]).getD 17 .undef)) (((Ru.cs l[i]).getD 18 .undef)) (((Ru.cs l[i]).getD 19 .undef))) ?_
   simp only[SS,List.length_map]
   exact⟨fun _=>⟨⟨by omega,hx⟩,⟨by omega,hx⟩,hC,by omega,hI⟩,fun h=>by omega⟩
 refine FnOK.tree Z5 fp10 (Z4 Z1 Z3) (Z9m (l.map Ru.cs)) ?_
 simp only[SS,List.length_map]
 first | exact at' _ 0 rfl (Nat.zero_le _) | exact⟨fun h=>absurd rfl h,fun _=>at' _ 0 rfl (Nat.zero_le _)⟩ | exact⟨fun h=>absurd trivial h,at' _ 0 rfl (Nat.zero_le _)⟩
theorem Zix (l:List (LU × Int)) (hl:l.length<=281474976710656):FK 40 [.slice (shL l) [],.slice (shL l) []] (.bool true):=by
 have at': ∀ (m i:Nat),l.length-i=m->i<=l.length->At Tryz.prog 0 (cut sc40 0) (hdSa (shL l) i) (FinQ true 0 rs40 fun r _=>r= .bool true):=by
  intro m
  induction m with
  | zero =>
   intro i hm hi
   refine At.tree (Z4 Z1 Z3) (Z2w (shL l) i [] 0) ?_
   simp only[SS,Z0n]
   first | exact⟨fun h=>by omega,fun _=>rfl⟩ | exact⟨fun h=>by omega,fun _=>trivial⟩ | exact fun h=>by omega
  | succ m ih =>
   intro i hm hi
   have h1:i<l.length:=by omega
   have hx:(shL l)[i]? = some [.str l[i].1,.int .i64 l[i].2]:=by simp[shL,h1]
   have hI:=ih (i+1) (by omega) (by omega)
   refine At.tree (Z4 Z1 Z3) (Z2w (shL l) i l[i].1 l[i].2) ?_
   simp only[SS,Z0n]
   refine⟨fun _=>⟨⟨by omega,hx⟩,⟨by omega,hx⟩, ?_⟩,fun h=>by omega⟩
   first | exact⟨by omega,hI⟩ | exact⟨fun h=>by simp at h,fun _=>⟨by omega,hI⟩⟩ | (simp; exact⟨by omega,hI⟩)
 refine FnOK.tree Z5 fp40 (Z4 Z1 Z3) (Z9l (shL l)) ?_
 simp only[SS,Z0n]
 first | exact at' _ 0 rfl (Nat.zero_le _) | exact⟨fun h=>absurd rfl h,fun _=>at' _ 0 rfl (Nat.zero_le _)⟩ | exact⟨fun h=>absurd trivial h,at' _ 0 rfl (Nat.zero_le _)⟩
theorem saTm: ∀ (x:Tm),x.wf 281474976710656->FK 35 [.agg x.cells,.agg x.cells] (.bool true)
 | .mk k n s l,hx=>by
  simp only[Tm.wf] at hx
  have hC:=Zg5 l hx.2.2.2.2.1 (fun x _=>Zv x) fun x h=>saTm x (Z42.1 hx.2.2.2.2.2 x h)
  rw[<- Q9] at hC
  refine FnOK.tree Z5 fp35 (Z4 (Zf (.bool true)) Z3) (Zb3 k n s (Tm.cellsL l)) ?_
  simp only[SS]
  first | exact hC | exact⟨hC,trivial⟩ | (simp; exact hC)
termination_by x=>SizeOf.sizeOf x
decreasing_by
 have:=List.sizeOf_lt_of_mem h
 simp only[Tm.mk.sizeOf_spec]
 omega
theorem Z3p (x:Tm) (h:x.wf 281474976710656):FK 35 [tmE x,tmE x] (.bool true):=by rw[Z59]; exact saTm x h
theorem Z6j (l:List Tm) (h:TuW l):FK 37 [.slice (Tm.cellsL l) [],.slice (Tm.cellsL l) []] (.bool true):=by
 rw[Q9]
 exact Zg5 l (by have:=h.2; omega) (fun x _=>Zv x) fun x hx=>saTm x (h.1 x hx)
theorem saAm (s:LU) (l:List Tm) (h:TuW l):FK 113 [.agg [.str s,.slice (Tm.cellsL l) []],.agg [.str s,.slice (Tm.cellsL l) []]] (.bool true):=by
 refine FnOK.tree Z5 Zho (Z4 (Zf (.bool true)) Z3) (Zbb s (Tm.cellsL l)) ?_
 simp only[SS]
 first | exact Z6j l h | exact⟨Z6j l h,trivial⟩ | (simp; exact Z6j l h)
theorem saLt (x:Lt) (h:LtW x):FK 115 [.agg x.c,.agg x.c] (.bool true):=by
 rw[<- Z88]
 have h1:=Z3p x.l h.1
 have h2:=Z3p x.r h.2.1
 have h3:=saAm x.p x.a ⟨h.2.2.1,h.2.2.2⟩
 refine FnOK.tree Z5 Zhm (Z4 (Zf (.bool true)) Z3) (Zb6 x.k x.no x.p (Tm.cellsL x.a) x.op (Ps.kT x.l:Nat) (nT x.l) (Ps.nmT x.l) (Tm.cellsL (Ps.arT x.l)) (Ps.kT x.r:Nat) (nT x.r) (Ps.nmT x.r) (Tm.cellsL (Ps.arT x.r))) ?_
 simp only[SS]
 first | exact⟨h3,h1,h2⟩ | exact⟨h3,h1,h2⟩ | (simp; exact⟨h3,h1,h2⟩)
theorem Z3q (l:List Lt) (h:CdW l):FK 114 [.slice (ltL l) [],.slice (ltL l) []] (.bool true) :=
 Ziz l (by have:=h.2; omega) (fun x _=>Z85 x) fun x hx=>saLt x (h.1 x hx)
theorem saHe (x:He) (h:HeW x):FK 69 [.agg x.cs,.agg x.cs] (.bool true):=by
 refine FnOK.tree Z5 fp69 (Z4 (Zf (.bool true)) Z3) (Zb7 x.p (Tm.cellsL x.a) (ltL x.c)) ?_
 simp only[SS]
 first | exact⟨saAm x.p x.a h.1,Z3q x.c h.2⟩ | (simp; exact⟨saAm x.p x.a h.1,Z3q x.c h.2⟩)
theorem saEl (x:El) (h:ElW x):FK 150 [.agg x.cs,.agg x.cs] (.bool true):=by
 refine FnOK.tree Z5 Zh5 (Z4 (Zf (.bool true)) Z3) (Zb8 (Tm.cellsL x.t) (ltL x.c)) ?_
 simp only[SS]
 first | exact⟨Z6j x.t h.1,Z3q x.c h.2⟩ | (simp; exact⟨Z6j x.t h.1,Z3q x.c h.2⟩)
theorem Zg8 (l:List El) (h: ∀ x∈l,ElW x) (hl:l.length<=1000000):FK 116 [.slice (elL l) [],.slice (elL l) []] (.bool true) :=
 ZiB l (by omega) (fun x _=>rfl) fun x hx=>saEl x (h x hx)
theorem saBo (x:Bo) (h:BoW x):FK 70 [.agg x.cs,.agg x.cs] (.bool true):=by
 rw[<- Zc8]
 have h1:=saLt x.l h.2.1
 rw[<- Z88] at h1
 have h2:=Z3q x.c h.2.2.1
 have h3:=Zg8 x.e h.2.2.2.1 h.2.2.2.2
 have h4:=Z3p x.b h.1
 refine FnOK.tree Z5 fp70 (Z4 (Zf (.bool true)) Z3) (Zba x.k x.l.k x.l.no x.l.p (Tm.cellsL x.l.a) x.l.op (Ps.kT x.l.l:Nat) (nT x.l.l) (Ps.nmT x.l.l) (Tm.cellsL (Ps.arT x.l.l)) (Ps.kT x.l.r:Nat) (nT x.l.r) (Ps.nmT x.l.r) (Tm.cellsL (Ps.arT x.l.r)) (ltL x.c) x.no x.f (elL x.e) x.op (Ps.kT x.b:Nat) (nT x.b) (Ps.nmT x.b) (Tm.cellsL (Ps.arT x.b))) ?_
 simp only[SS]
 first | exact⟨h1,h2,h3,h4⟩ | (simp; exact⟨h1,h2,h3,h4⟩)
theorem Zg9 (l:List Bo) (h: ∀ x∈l,BoW x) (hl:l.length<=1000000):FK 36 [.slice (boL l) [],.slice (boL l) []] (.bool true) :=
 ZiD l (by omega) (fun x _=>by simp[Bo.cs,Z85,Zv]) fun x hx=>saBo x (h x hx)
theorem Zg7 (l:List He) (h: ∀ x∈l,HeW x) (hl:l.length<=1000000):FK 34 [.slice (heL l) [],.slice (heL l) []] (.bool true) :=
 ZiA l (by omega) (fun x _=>rfl) fun x hx=>saHe x (h x hx)
theorem saRu (x:Ru) (h:RuW x):FK 13 [ruE x,ruE x] (.bool true):=by
 obtain⟨a1,a2,a3,a4,a5,a6,a7,a8⟩:=h
 have h1:=Zg7 x.h a6.1 a6.2
 have h2:=Z3p x.lo a1
 have h3:=Z3p x.up a2
 have h4:=Zg9 x.b a7 a8
 have h5:=Z3p x.w a3
 have h6:=Z3p x.lv a4
 have h7:=Z6j x.t a5
 refine FnOK.tree Z5 fp13 (Z4 (Zf (.bool true)) Z3) (Zb4 x.k (heL x.h) (Ps.kT x.lo:Nat) (nT x.lo) (Ps.nmT x.lo) (Tm.cellsL (Ps.arT x.lo)) (Ps.kT x.up:Nat) (nT x.up) (Ps.nmT x.up) (Tm.cellsL (Ps.arT x.up)) (boL x.b) (Ps.kT x.w:Nat) (nT x.w) (Ps.nmT x.w) (Tm.cellsL (Ps.arT x.w)) (Ps.kT x.lv:Nat) (nT x.lv) (Ps.nmT x.lv) (Tm.cellsL (Ps.arT x.lv)) (Tm.cellsL x.t)) ?_
 simp only[SS]
 first | exact⟨h1,h2,h3,h4,h5,h6,h7⟩ | (simp; exact⟨h1,h2,h3,h4,h5,h6,h7⟩)
theorem saCo (x:Co) (h:CoW x):FK 74 [.agg x.cs,.agg x.cs] (.bool true):=by
 have h1:=Z3p x.v h
 have e:(.agg x.cs:D)= .agg [.str x.n,.int .u8 (Ps.kT x.v:Nat),.int .i64 (nT x.v),.str (Ps.nmT x.v),.slice (Tm.cellsL (Ps.arT x.v)) []]:=by
  obtain⟨n,⟨k,m,s,l⟩⟩:=x; rfl
 rw[e]
 refine FnOK.tree Z5 fp74 (Z4 (Zf (.bool true)) Z3) (Zb9 x.n (Ps.kT x.v:Nat) (nT x.v) (Ps.nmT x.v) (Tm.cellsL (Ps.arT x.v))) ?_
 simp only[SS]
 first | exact h1 | (simp; exact h1)
theorem Zg6 (l:List Ru) (h: ∀ x∈l,RuW x) (hl:l.length<=1000000):FK 10 [.slice (ruL l) [],.slice (ruL l) []] (.bool true) :=
 Ziy l (by omega) (fun x _=>by simp[Ru.cs,Zv]) fun x hx=>by rw[<- Z7x]; exact saRu x (h x hx)
theorem saPg (a:Ps.Ac) (h:AcW a):FK 15 [.agg (pgCs a),.agg (pgCs a)] (.bool true):=by
 have h1:=Zg6 a.r h.1.1 h.1.2
 have h2:FK 39 [.slice (coL a.c) [],.slice (coL a.c) []] (.bool true):=ZiC a.c (by have:=h.2.1.2; omega) (fun x _=>by simp[Co.cs,Zv]) fun x hx=>saCo x (h.2.1.1 x hx)
 have h3:=Zix a.s (by have:=h.2.2; omega)
 refine FnOK.tree Z5 fp15 (Z4 (Zf (.bool true)) Z3) (Zb5 (ruL a.r) (coL a.c) (shL a.s) a.so) ?_
 simp only[SS]
 first | exact⟨h1,h2,h3⟩ | (simp; exact⟨h1,h2,h3⟩)
end Go.Proofs.YtecgehidegnmnaaGreatDoor
/- Single rules. -/
namespace Go.Proofs.YtecgehidegnmnaaGreatDoor
open Go.Sx
open Go.Sx.Lx (Tk tokC)
open Go.Sx.Ps (Ac)
def fnT (l:List (FuncId × D)):PT:=fun f xs=>match lk l f with
 | some r=>some (.ok (FK f xs r) r [])
 | none=>libT f xs
theorem ZhA (l:List (FuncId × D)):(fnT l).OK:=by
 intro f xs rt h
 unfold fnT at h
 split at h
 ·cases h; exact fun hp=>hp
 ·exact Z1 _ _ _ h
end Go.Proofs.YtecgehidegnmnaaGreatDoor
