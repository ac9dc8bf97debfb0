/- Own work: a layer over the kit: plain data,a walk over it,its soundness. -/
import Derived.Test.YtecgehidegnmnaaGreatDoorPrA
import Derived.Test.YtecgehidegnmnaaGreatDoorSx8
import Derived.Test.YtecgehidegnmnaaGreatDoorLibT
set_option linter.all false
set_option maxRecDepth 100000
/- The tests for the bytes of some classes;(*input).while. -/
open Go.Sx.Lx (Zw Zl Zz Q4 Q3 Z2V ZA ZF Z03 Qc ZQ tok ZiM Tk Zq Z1q Z3Q Z0F Q5 skp)
namespace Go.Proofs.YtecgehidegnmnaaGreatDoor
open Go.Sx
def inC (c:Int) (b:Nat):Bool:=!decide (bitI .and .i64 (cls b) c=0)
theorem ZhX (b c:Int):goT Tryz.prog (ctr clsP) 1 (finF false 1 Zgg) 200 [Fr.sc Zfq] {tm:=Zx 0 ([]++[dU b]++[dP 0 0]),ob:=[(0,oC [dI c])]}=(Ow ((0:Int)<=b/\b<(256:Int)) (Rt (D.bool !decide (bitI BinOp.and IntKind.i64 (cls (Int.toNat b)) c=(0:Int))) [(0,oC [dI c])]):Tr):=by kernel_rfl
theorem ZjU (b c:Int) (a:0<=b/\b<256):CallL Tryz.prog (.func (.func 140) [] [.ptr 0 0]) [.int .u8 b] [(0,.cells [.int .i64 c])] λr ob=>r=.bool (inC c b.toNat)/\ob=[(0,.cells [.int .i64 c])] :=
 CallL.tree Z6 Zky (Z7 Z04 Z5) (ZhX b c) ⟨a,rfl,rfl⟩
theorem Zlm (c:Int):goT Tryz.prog (ctr clsP) 0 (finF false 0 Zgx) 200 [Fr.sc ZfH] {tm:=Zx 0 ([]++[dI c]++[]),ob:=[]}=(Rt (dF 140 [] [dP 0 0]) [(0,oC [dI c])]:Tr):=by kernel_rfl
theorem ZmK (c:Int):CF 102 [.int .i64 c] [] λr ob=>r=.func (.func 140) [] [.ptr 0 0]/\ob=[(0,.cells [.int .i64 c])] :=
 CallL.tree Z6 ZkU (Z7 Z04 Z5) (Zlm c) ⟨rfl,rfl⟩
theorem Zln (b:Int):goT Tryz.prog (ctr clsP) 0 (finF false 0 Zgw) 200 [Fr.sc ZfG] {tm:=Zx 0 ([]++[dU b]++[]),ob:=[]}=(Rt (D.bool !decide (b=(10:Int))) []:Tr):=by kernel_rfl
theorem ZmM (b:Int):CF 103 [.int .u8 b] [] λr ob=>r=.bool (!decide (b=10))/\ob=[] :=
 CallL.tree Z6 ZkT (Z7 Z04 Z5) (Zln b) ⟨rfl,rfl⟩
def Z5F:QT:=λd xs ob=>match d,xs,ob with
 |.func (.func f) [] [.ptr 0 0],[.int .u8 b],[(0,.cells [.int .i64 c])]=>if f=140 then some (.ok (0<=b/\b<256) (.bool (inC c b.toNat)) [(0,.cells [.int .i64 c])]) else none
 |.func (.func f) [] [],[.int .u8 b],[]=>if f=103 then some (.ok True (.bool (!decide (b=10))) []) else none
 |.func (.func f) [] [],[.int .i64 c],[]=>if f=102 then some (.ok True (.func (.func 140) [] [.ptr 0 0]) [(0,.cells [.int .i64 c])]) else none
 |_,_,_=>none
theorem Z0G:Z5F.OK:=by
 intro d xs ob rt h;unfold Z5F at h;split at h;all_goals try (split at h)
 all_goals first
  |(cases h;done)
  |(rename_i hf;subst hf;cases h;first|exact λhp=>ZjU _ _ hp|exact λ_=>ZmM _|exact λ_=>ZmK _)
theorem ZhU (src:LU) (c i:Int):let A:=[(0,oC [dS src,dI i]),(1,oC [dI c])];goT Tryz.prog (ctr clsP Z5F) 2 (finF false 2 Z55) 200 [Fr.sc Z3z] {tm:=Zx 0 ([]++[dP 0 0,dF 140 [] [dP 1 0]]++[]),ob:=A}=(Jm (cut Z3z 0) {tm:=[(0,dP 0 0),(1,dF 140 [] [dP 1 0]),(5,dI i)],ob:=A}:Tr):=by intro A;kernel_rfl
def hdW (src:LU) (c fr i:Int):St:=⟨[(0,.ptr 0 0),(1,.func (.func 140) [] [.ptr 1 0]),(5,.int .i64 fr)],[(0,.cells [.str src,.int .i64 i]),(1,.cells [.int .i64 c])]⟩
theorem Zbh (src:LU) (c fr i:Int):let A:=(↑(UInt8.toNat (List.getD src (Int.toNat i) (0:UInt8))):Int);let B:=Rt (dS (List.drop (Int.toNat fr) (List.take (Int.toNat i) src))) [(0,oC [dS src,dI i]),(1,oC [dI c])];let C:=(↑(List.length src):Int);let E:=cut Z3z 0;let F:=(i+(1:Int));goT Tryz.prog (ctr clsP Z5F) 2 (finF false 2 Z55) 200 E (hdW src c fr i)=(brT (decide (i<C)) (Ow ((0:Int)<=i/\i<C) (Ow ((0:Int)<=A/\A<(256:Int)) (brT (inC c (Int.toNat A)) (I8 F (Jm E {tm:=[(0,dP 0 0),(1,dF 140 [] [dP 1 0]),(5,dI fr)],ob:=[(0,oC [dS src,dI F]),(1,oC [dI c])]})) (Ow ((0:Int)<=fr/\fr<=i/\i<=C) B)))) (Ow ((0:Int)<=fr/\fr<=i/\i<=C) B):Tr):=by intro A B C E F;kernel_rfl
theorem ZbM (src:LU) (c:Int) (fr:Nat) (hl:src.length<=4611686018427387904): ∀ (m i:Nat),src.length-i=m->fr<=i->i<=src.length →
  At Tryz.prog 2 (cut Z3z 0) (hdW src c fr i) (FinQ false 2 Z55 λr ob=>r=.str ((src.take (Zp (λb=>inC c b.toNat) src i)).drop fr)/\ob=[(0,.cells [.str src,.int .i64 (Zp (λb=>inC c b.toNat) src i:Nat)]),(1,.cells [.int .i64 c])]):=by
 intro m;induction m with
 |zero =>
  intro i hm hf hi;refine At.tree (Z7 Z04 Z0G) (Zbh src c fr i) ?_;rw[Z53 (by omega)];simp only[Qb,Zo,Zk,decide_eq_true_eq,decide_eq_false_iff_not];exact⟨λh=>by omega,λ_=>⟨by omega,by simp⟩⟩
 |succ m a =>
  intro i hm hf hi;refine At.tree (Z7 Z04 Z0G) (Zbh src c fr i) ?_;simp only[Qb,Zo,Zk,QY,decide_eq_true_eq,decide_eq_false_iff_not,Int.toNat_natCast];refine⟨λ_=>⟨by omega,Z6r _ _,λhp=>⟨by omega,?_⟩,λhp=>?_⟩,λh=>by omega⟩
  ·have:=a (i+1) (by omega) (by omega) (by omega);rw[Z27 (by omega) hp];exact this
  ·rw[Z3S (by omega) hp];exact⟨by omega,rfl,rfl⟩
theorem ZbL (src:LU) (c:Int) (i:Nat) (hi:i<=src.length) (hl:src.length<=4611686018427387904) :
  CF 101 [.ptr 0 0,.func (.func 140) [] [.ptr 1 0]] [(0,.cells [.str src,.int .i64 i]),(1,.cells [.int .i64 c])]
   λr ob=>r=.str ((src.take (Zp (λb=>inC c b.toNat) src i)).drop i)/\ob=[(0,.cells [.str src,.int .i64 (Zp (λb=>inC c b.toNat) src i:Nat)]),(1,.cells [.int .i64 c])] :=
 CallL.tree Z6 Zhl (Z7 Z04 Z0G) (ZhU src c i) (ZbM src c i hl _ i rfl (Nat.le_refl _) hi)
theorem ZhT (src:LU) (i:Int):let A:=[(0,oC [dS src,dI i])];goT Tryz.prog (ctr clsP Z5F) 1 (finF false 1 Z55) 200 [Fr.sc Z3z] {tm:=Zx 0 ([]++[dP 0 0,dF 103 [] []]++[]),ob:=A}=(Jm (cut Z3z 0) {tm:=[(0,dP 0 0),(1,dF 103 [] []),(5,dI i)],ob:=A}:Tr):=by intro A;kernel_rfl
def hdL (src:LU) (fr i:Int):St:=⟨[(0,.ptr 0 0),(1,.func (.func 103) [] []),(5,.int .i64 fr)],[(0,.cells [.str src,.int .i64 i])]⟩
theorem Zbg (src:LU) (fr i:Int):let A:=Rt (dS (List.drop (Int.toNat fr) (List.take (Int.toNat i) src))) [(0,oC [dS src,dI i])];let B:=(↑(List.length src):Int);let C:=cut Z3z 0;let E:=(i+(1:Int));goT Tryz.prog (ctr clsP Z5F) 1 (finF false 1 Z55) 200 C (hdL src fr i)=(brT (decide (i<B)) (Ow ((0:Int)<=i/\i<B) (Ow True (brT (!decide ((↑(UInt8.toNat (List.getD src (Int.toNat i) (0:UInt8))):Int)=(10:Int))) (I8 E (Jm C {tm:=[(0,dP 0 0),(1,dF 103 [] []),(5,dI fr)],ob:=[(0,oC [dS src,dI E])]})) (Ow ((0:Int)<=fr/\fr<=i/\i<=B) A)))) (Ow ((0:Int)<=fr/\fr<=i/\i<=B) A):Tr):=by intro A B C E;kernel_rfl
def Qs (b:UInt8):Bool:=!decide ((b.toNat:Int)=10)
theorem ZgY (src:LU) (fr:Nat) (hl:src.length<=4611686018427387904): ∀ (m i:Nat),src.length-i=m->fr<=i->i<=src.length →
  At Tryz.prog 1 (cut Z3z 0) (hdL src fr i) (FinQ false 1 Z55 λr ob=>r=.str ((src.take (Zp Qs src i)).drop fr)/\ob=[(0,.cells [.str src,.int .i64 (Zp Qs src i:Nat)])]):=by
 intro m;induction m with
 |zero =>
  intro i hm hf hi;refine At.tree (Z7 Z04 Z0G) (Zbg src fr i) ?_;rw[Z53 (by omega)];simp only[Qb,Zo,Zk,decide_eq_true_eq,decide_eq_false_iff_not];exact⟨λh=>by omega,λ_=>⟨by omega,by simp⟩⟩
 |succ m a =>
  intro i hm hf hi;refine At.tree (Z7 Z04 Z0G) (Zbg src fr i) ?_;simp only[Qb,Zo,Zk,QY,decide_eq_true_eq,decide_eq_false_iff_not,Int.toNat_natCast,true_and];refine⟨λ_=>⟨by omega,λhp=>⟨by omega,?_⟩,λhp=>?_⟩,λh=>by omega⟩
  ·have:=a (i+1) (by omega) (by omega) (by omega);rw[Z27 (by omega) hp];exact this
  ·rw[Z3S (by omega) hp];exact⟨by omega,rfl,rfl⟩
theorem ZgX (src:LU) (i:Nat) (hi:i<=src.length) (hl:src.length<=4611686018427387904) :
  CF 101 [.ptr 0 0,.func (.func 103) [] []] [(0,.cells [.str src,.int .i64 i])]
   λr ob=>r=.str ((src.take (Zp Qs src i)).drop i)/\ob=[(0,.cells [.str src,.int .i64 (Zp Qs src i:Nat)])] :=
 CallL.tree Z6 Zhl (Z7 Z04 Z0G) (ZhT src i) (ZgY src i hl _ i rfl (Nat.le_refl _) hi)
def whQ:QT:=λd xs ob=>match d,xs,ob with
 |.func (.func w) [] [],[.ptr 0 0,.func (.func g) [] [.ptr 1 0]],[(0,.cells [.str src,.int .i64 i]),(1,.cells [.int .i64 c])]=>if w=101/\g=140 then
   some (.ok (0<=i/\i<=src.length/\src.length<=4611686018427387904) (.str ((src.take (Zp (λb=>inC c b.toNat) src i.toNat)).drop i.toNat)) [(0,.cells [.str src,.int .i64 (Zp (λb=>inC c b.toNat) src i.toNat:Nat)]),(1,.cells [.int .i64 c])]) else none
 |.func (.func w) [] [],[.ptr 0 0,.func (.func g) [] []],[(0,.cells [.str src,.int .i64 i])]=>if w=101/\g=103 then
   some (.ok (0<=i/\i<=src.length/\src.length<=4611686018427387904) (.str ((src.take (Zp Qs src i.toNat)).drop i.toNat)) [(0,.cells [.str src,.int .i64 (Zp Qs src i.toNat:Nat)])]) else none
 |_,_,_=>none
theorem ZiN:whQ.OK:=by
 intro d xs ob rt h;unfold whQ at h;split at h
 ·rename_i w g src i c;split at h
  ·rename_i hf;obtain⟨rfl,rfl⟩:=hf;cases h;rintro⟨h0,h1,h2⟩
   have:=ZbL src c i.toNat (by omega) h2;rwa [Int.toNat_of_nonneg h0] at this
  ·cases h
 ·rename_i w g src i;split at h
  ·rename_i hf;obtain⟨rfl,rfl⟩:=hf;cases h;rintro⟨h0,h1,h2⟩
   have:=ZgX src i.toNat (by omega) h2;rwa [Int.toNat_of_nonneg h0] at this
  ·cases h
 ·cases h
end Go.Proofs.YtecgehidegnmnaaGreatDoor
/- (*scanner).skip: blanks and comments. -/
namespace Go.Proofs.YtecgehidegnmnaaGreatDoor
open Go.Sx
theorem Z0d {p q:UInt8->Bool} (h:(List.range 256).all (λn=>p (UInt8.ofNat n) == q (UInt8.ofNat n))=true):p=q:=by
 funext b
 have:=List.all_eq_true.1 h b.toNat (List.mem_range.2 b.toNat_lt);simpa using this
theorem inC8:(λb:UInt8=>inC 8 b.toNat)=Zw:=Z0d (by kernel_rfl)
theorem inC7:(λb:UInt8=>inC 7 b.toNat)=Zl:=Z0d (by kernel_rfl)
theorem inC2:(λb:UInt8=>inC 2 b.toNat)=Zz:=Z0d (by kernel_rfl)
theorem inC1:(λb:UInt8=>inC 1 b.toNat)=Q4:=Z0d (by kernel_rfl)
theorem Zaj:Qs=Lx.Qs:=Z0d (by kernel_rfl)
def skQ:QT:=Z5F.or whQ
theorem Z9i:skQ.OK:=QT.or_ok Z0G ZiN
theorem ZhW (src:LU) (i:Int):let A:=[(0,oC [dS src,dI i])];goT Tryz.prog (ctr clsP skQ) 1 (finF false 1 rs61) 200 [Fr.sc sc61] {tm:=Zx 0 ([]++[dP 0 0]++[]),ob:=A}=(Jm (cut sc61 0) {tm:=[(0,dP 0 0)],ob:=A}:Tr):=by intro A;kernel_rfl
def hdS (src:LU) (i:Int):St:=⟨[(0,.ptr 0 0)],[(0,.cells [.str src,.int .i64 i])]⟩
theorem ZhV (src:LU) (i:Int):let A:=Int.toNat i;let B:=(↑(List.length src):Int);let C:=cut sc61 0;let E:=D.tuple [];goT Tryz.prog (ctr clsP skQ) 1 (finF false 1 rs61) 200 C (hdS src i)=(Ow True (Ow ((0:Int)<=i/\i<=B/\List.length src<=4611686018427387904) (brT (decide ((↑(Zp (λb=>inC (8:Int) (UInt8.toNat b)) src A):Int)=B)) (Rt E [(0,oC [dS src,dI (↑(Zp (λb=>inC (8:Int) (UInt8.toNat b)) src A):Int)])]) (Ow ((0:Int)<=(↑(Zp (λb=>inC (8:Int) (UInt8.toNat b)) src A):Int)/\(↑(Zp (λb=>inC (8:Int) (UInt8.toNat b)) src A):Int)<B) (brT (!decide ((↑(UInt8.toNat (List.getD src (Int.toNat (↑(Zp (λb=>inC (8:Int) (UInt8.toNat b)) src A):Int)) (0:UInt8))):Int)=(37:Int))) (Rt E [(0,oC [dS src,dI (↑(Zp (λb=>inC (8:Int) (UInt8.toNat b)) src A):Int)])]) (Ow ((0:Int)<=(↑(Zp (λb=>inC (8:Int) (UInt8.toNat b)) src A):Int)/\(↑(Zp (λb=>inC (8:Int) (UInt8.toNat b)) src A):Int)<=B/\List.length src<=4611686018427387904) (Jm C {tm:=[(0,dP 0 0)],ob:=[(0,oC [dS src,dI (↑(Zp Qs src (Int.toNat (↑(Zp (λb=>inC (8:Int) (UInt8.toNat b)) src A):Int))):Int)])]})))))):Tr):=by intro A B C E;kernel_rfl
theorem Zf8 (src:LU) (hl:src.length<=4611686018427387904): ∀ (m i:Nat),src.length-i<m->i<=src.length →
  At Tryz.prog 1 (cut sc61 0) (hdS src i) (FinQ false 1 rs61 λr ob=>r=.tuple []/\ob=[(0,.cells [.str src,.int .i64 (Q3 src i:Nat)])]):=by
 intro m;induction m with
 |zero=>intro i hm hi;omega
 |succ m d =>
  intro i hm hi;refine At.tree (Z7 Z04 Z9i) (ZhV src i) ?_;simp only[Qb,Zo,Zk,QY,decide_eq_true_eq,decide_eq_false_iff_not,Int.toNat_natCast,true_and,inC8,Zaj,Bool.not_eq_true',Bool.not_eq_false'];have h1:=Z2Y (p:=Zw) hi;have h2:=Z4q Zw src i;refine⟨⟨by omega,by omega,hl⟩,λc=>?_,λc=>⟨by omega,λhc=>?_,λhc=>⟨by omega,?_⟩⟩⟩
  ·rw[Z2V (.inl (by omega)) hi]
  ·rw[Z2V (.inr λh=>hc (by rw[h];rfl)) hi]
  ·have a:src.getD (Zp Zw src i) 0=37:=UInt8.toNat_inj.1 (by show _=37;omega);rw[Lx.Z2q,Lx.Z81 (by omega) a];have e:=Z4q Lx.Qs src (Zp Zw src i);have b:=Z2Y (p:=Lx.Qs) (s:=src) (i:=Zp Zw src i) (by omega);have f:Zp Lx.Qs src (Zp Zw src i)=Zp Lx.Qs src (Zp Zw src i+1):=Z27 (by omega) (by rw[a];rfl);have g:=Z4q Lx.Qs src (Zp Zw src i+1);exact d _ (by omega) b
theorem Zf7 (src:LU) (i:Nat) (hi:i<=src.length) (hl:src.length<=4611686018427387904) :
  CF 61 [.ptr 0 0] [(0,.cells [.str src,.int .i64 i])] λr ob=>r=.tuple []/\ob=[(0,.cells [.str src,.int .i64 (Q3 src i:Nat)])] :=
 CallL.tree Z6 fp61 (Z7 Z04 Z9i) (ZhW src i) (Zf8 src hl _ i (Nat.lt_succ_self _) hi)
end Go.Proofs.YtecgehidegnmnaaGreatDoor
/- number: whether digits are a valid number. -/
namespace Go.Proofs.YtecgehidegnmnaaGreatDoor
open Go.Sx
def Z61 (s:LU):Int:=match Lib.atoiAll s with
 |.ok n=>if 2147483647<n then 32 else if Lib.itoa n=s then 0 else 32
 |_=>32
noncomputable def Zbi (s:LU):Tr:=brT
 (match Lib.atoiAll s with
 |Lib.NumEnd.ok v=>true
 |x=>false)
 (Ow (List.length s<=281474976710656)
  (brT
   (decide
    ((2147483647:Int) <
     match Lib.atoiAll s with
     |Lib.NumEnd.ok n=>n
     |x=>(0:Int)))
   (Rt (dI 32) [])
   (Ow
    (((-9223372036854775808:Int) ≤
      match Lib.atoiAll s with
      |Lib.NumEnd.ok n=>n
      |x=>(0:Int)) ∧
     (match Lib.atoiAll s with
      |Lib.NumEnd.ok n=>n
      |x=>(0:Int)) ≤
      (9223372036854775807:Int))
    (brT
     (!decide
       (Lib.itoa
         (match Lib.atoiAll s with
         |Lib.NumEnd.ok n=>n
         |x=>(0:Int)) =
        s))
     (Rt (dI 32) []) (Rt (dI 0) [])))))
 (Ow (List.length s<=281474976710656) (Rt (dI 32) []))
theorem Z8G (s:LU):goT Tryz.prog (ctr libT) 0 (finF true 0 Zgu) 200 [Fr.sc ZfE] {tm:=Zx 0 [dS s],ob:=[]}=Zbi s:=by kernel_rfl
theorem Z9Z (s:LU) (hs:s.length<=281474976710656):FK 106 [.str s] (.int .i64 (Z61 s)):=by
 refine FnOK.tree Z6 ZkR (Z7 Z2 Z5) (Z8G s) ?_;unfold Zbi Z61;cases h:Lib.atoiAll s with
 |ok n =>
  obtain⟨b,c⟩:=Lib.atoiAll_bounds h;simp only[Qb,Zo,Zk,hs,true_and];by_cases hm:2147483647<n<;>by_cases a:Lib.itoa n=s<;>simp[hm,a]<;>omega
 |_=>simp[Qb,Zo,Zk,hs]
end Go.Proofs.YtecgehidegnmnaaGreatDoor
/- next: one token. -/
namespace Go.Proofs.YtecgehidegnmnaaGreatDoor
open Go.Sx
def symP:PT:=λf xs=>match xs with
 |[.str s]=>if f=16 then some (.ok (s.length<=4611686018427387904) (.bool (ZA s)) []) else if f=84 then some (.ok (s.length<=4611686018427387904) (.bool (ZF s)) []) else none
 |_=>none
theorem Zf1:symP.OK:=by
 intro f xs rt h;unfold symP at h;split at h
 ·split at h
  ·rename_i hf;subst hf;cases h;exactλhp=>Z2S _ hp
  split at h
  ·rename_i hf;subst hf;cases h;exactλhp=>Z2Q _ hp
  ·cases h
 ·cases h
noncomputable def Zlp (s:LU):Tr:=brT (decide (s=[(110:UInt8),(111:UInt8),(116:UInt8)])) (Rt (D.tuple [dU 4,dI 0]) []) (Ow (List.length s<=4611686018427387904) (brT (ZA s) (Rt (D.tuple [dU 1,dI 0]) []) (Ow (List.length s<=4611686018427387904) (brT (ZF s) (Rt (D.tuple [dU 2,dI 0]) []) (Rt (D.tuple [dU 0,dI 31]) [])))))
theorem Zdf (s:LU):gP (ctr symP) Zgv ZfF [dS s]=Zlp s:=by kernel_rfl
theorem ZeM (s:LU) (hl:s.length<=4611686018427387904):FK 105 [.str s] (.tuple [.int .u8 (Z03 s).1,.int .i64 (Z03 s).2]):=by
 refine FnOK.tree Z6 ZkS (Z7 Zf1 Z5) (Zdf s) ?_;unfold Zlp Z03 Lx.ZG;simp only[SS];refine⟨λh=>by rw[if_pos h],λh=>⟨hl,λh2=>by rw[if_neg h,if_pos h2],λh2=>⟨hl,λa=>by rw[if_neg h,if_neg (by simp[h2]),if_pos a],λa=>by rw[if_neg h,if_neg (by simp[h2]),if_neg (by simp[a])]⟩⟩⟩
def nxP:PT:=λf xs=>match xs with
 |[.str s]=>if f=105 then some (.ok (s.length<=4611686018427387904) (.tuple [.int .u8 (Z03 s).1,.int .i64 (Z03 s).2]) []) else if f=106 then some (.ok (s.length<=281474976710656) (.int .i64 (Lx.Z61 s)) []) else none
 |[.int .u8 b]=>clsP f [.int .u8 b]
 |[.slice es ext,.str t]=>if f=107 then some (.ok (es=strC (es.map deS)/\es.length<=4611686018427387904) (.bool (decide (t∈es.map deS))) []) else none
 |_=>none
theorem Z1t:nxP.OK:=by
 intro f xs rt h;unfold nxP at h;split at h
 ·split at h
  ·rename_i hf;subst hf;cases h;exactλhp=>ZeM _ hp
  split at h
  ·rename_i hf;subst hf;cases h;exactλhp=>Z9Z _ hp
  ·cases h
 ·exact Z04 _ _ _ h
 ·rename_i es ext t;split at h
  ·rename_i hf;subst hf;cases h;rintro⟨a,hl⟩
   have:=Zer (es.map deS) ext t (by simpa using hl);rwa [<- a] at this
  ·cases h
 ·cases h
def sgQ:QT:=λd xs ob=>match d,xs,ob with
 |.func (.func f) [] [],[.ptr 0 0],[(0,.cells [.str src,.int .i64 a])]=>if f=108 then some (.ok (0<=a/\a<=src.length/\src.length<=4611686018427387904) (.str (Qc (src.drop a.toNat))) [(0,.cells [.str src,.int .i64 ((a.toNat+(Qc (src.drop a.toNat)).length:Nat):Int)])])
  else if f=61 then some (.ok (0<=a/\a<=src.length/\src.length<=4611686018427387904) (.tuple []) [(0,.cells [.str src,.int .i64 (Q3 src a.toNat:Nat)])]) else none
 |_,_,_=>none
theorem Zj6:sgQ.OK:=by
 intro d xs ob rt h;unfold sgQ at h;split at h
 ·rename_i f src a;split at h
  ·rename_i hf;subst hf;cases h;rintro⟨h0,h1,h2⟩
   have:=Zf9 src a.toNat (by omega) h2;rwa [Int.toNat_of_nonneg h0] at this
  split at h
  ·rename_i hf;subst hf;cases h;rintro⟨h0,h1,h2⟩
   have:=Zf7 src a.toNat (by omega) h2;rwa [Int.toNat_of_nonneg h0] at this
  ·cases h
 ·cases h
def nxQ:QT:=skQ.or sgQ
theorem Z39:nxQ.OK:=QT.or_ok Z9i Zj6
theorem ZdG (src:LU) (a:Int):let A:=Int.toNat a;let B:=(Int.toNat (a+(1:Int)));let C:=(↑(UInt8.toNat (List.getD src A (0:UInt8))):Int);let E:=[(0,oC [dS src,dI (↑(Int.toNat a+List.length (Qc (List.drop A src))):Int)])];let F:=[[dS (deS [dS [35,99,111,110,115,116]])],[dS (deS [dS [35,115,104,111,119]])],[dS (deS [dS [35,109,105,110,105,109,105,122,101]])],[dS (deS [dS [35,99,111,117,110,116]])],[dS (deS [dS [35,115,117,109]])]];let G:=(↑(List.length src):Int);let H:=[deS [dS [35,99,111,110,115,116]],deS [dS [35,115,104,111,119]],deS [dS [35,109,105,110,105,109,105,122,101]],deS [dS [35,99,111,117,110,116]],deS [dS [35,115,117,109]]];let I:=[[dS [35,99,111,110,115,116]],[dS [35,115,104,111,119]],[dS [35,109,105,110,105,109,105,122,101]],[dS [35,99,111,117,110,116]],[dS [35,115,117,109]]];let J:=[dU 6,dS (Qc (List.drop A src)),dI a];let K:=Int.toNat C;let L:=[(35:UInt8)];let M:=Rt (D.tuple [dA J,dI 30]) E;let N:=Rt (D.tuple [dA J,dI 0]) E;let O:=List.drop A src;let P:=(a+(1:Int));gC (ctr nxP nxQ) 1 rs62 sc62 [] [dP 0 0] [] [(0,oC [dS src,dI a])]=(Ow ((0:Int)<=a/\a<G) (Ow ((0:Int)<=C/\C<(256:Int)) (brT (decide (cls K=(1:Int))) (brT (decide (cls K=(1:Int))) (Ow True (Ow ((0:Int)<=a/\a<=G/\List.length src<=4611686018427387904) (Ow (List.length (List.drop A (List.take (Zp (λb=>inC (7:Int) (UInt8.toNat b)) src A) src))<=4611686018427387904) (Rt (D.tuple [dA [dU (Prod.fst (Z03 (List.drop A (List.take (Zp (λb=>inC (7:Int) (UInt8.toNat b)) src A) src)))),dS (List.drop A (List.take (Zp (λb=>inC (7:Int) (UInt8.toNat b)) src A) src)),dI a],dI (Prod.snd (Z03 (List.drop A (List.take (Zp (λb=>inC (7:Int) (UInt8.toNat b)) src A) src))))]) [(0,oC [dS src,dI (↑(Zp (λb=>inC (7:Int) (UInt8.toNat b)) src A):Int)])])))) (brT (decide (cls K=(2:Int))) (Ow True (Ow ((0:Int)<=a/\a<=G/\List.length src<=4611686018427387904) (Ow (List.length (List.drop A (List.take (Zp (λb=>inC (2:Int) (UInt8.toNat b)) src A) src))<=281474976710656) (Rt (D.tuple [dA [dU 3,dS (List.drop A (List.take (Zp (λb=>inC (2:Int) (UInt8.toNat b)) src A) src)),dI a],dI (Lx.Z61 (List.drop A (List.take (Zp (λb=>inC (2:Int) (UInt8.toNat b)) src A) src)))]) [(0,oC [dS src,dI (↑(Zp (λb=>inC (2:Int) (UInt8.toNat b)) src A):Int)])])))) (brT (decide (cls K=(16:Int))) (I8 P (Ow True (Ow ((0:Int)<=a+(1:Int)/\a+(1:Int)<=G/\List.length src<=4611686018427387904) (Ow (1+List.length (List.drop B (List.take (Zp (λb=>inC (1:Int) (UInt8.toNat b)) src B) src))<=4611686018427387904) (Ow (I=F/\5<=4611686018427387904) (brT (!decide (L++List.drop B (List.take (Zp (λb=>inC (1:Int) (UInt8.toNat b)) src B) src)∈H)) (Rt (D.tuple [dA [dU 5,dS (L++List.drop B (List.take (Zp (λb=>inC (1:Int) (UInt8.toNat b)) src B) src)),dI a],dI 31]) [(0,oC [dS src,dI (↑(Zp (λb=>inC (1:Int) (UInt8.toNat b)) src B):Int)])]) (Rt (D.tuple [dA [dU 5,dS (L++List.drop B (List.take (Zp (λb=>inC (1:Int) (UInt8.toNat b)) src B) src)),dI a],dI 0]) [(0,oC [dS src,dI (↑(Zp (λb=>inC (1:Int) (UInt8.toNat b)) src B):Int)])]))))))) (Ow ((0:Int)<=a/\a<=G/\List.length src<=4611686018427387904) (brT (decide (Qc O=[])) M N))))) (brT (decide (cls K=(4:Int))) (Ow True (Ow ((0:Int)<=a/\a<=G/\List.length src<=4611686018427387904) (Ow (List.length (List.drop A (List.take (Zp (λb=>inC (7:Int) (UInt8.toNat b)) src A) src))<=4611686018427387904) (Rt (D.tuple [dA [dU (Prod.fst (Z03 (List.drop A (List.take (Zp (λb=>inC (7:Int) (UInt8.toNat b)) src A) src)))),dS (List.drop A (List.take (Zp (λb=>inC (7:Int) (UInt8.toNat b)) src A) src)),dI a],dI (Prod.snd (Z03 (List.drop A (List.take (Zp (λb=>inC (7:Int) (UInt8.toNat b)) src A) src))))]) [(0,oC [dS src,dI (↑(Zp (λb=>inC (7:Int) (UInt8.toNat b)) src A):Int)])])))) (brT (decide (cls K=(2:Int))) (Ow True (Ow ((0:Int)<=a/\a<=G/\List.length src<=4611686018427387904) (Ow (List.length (List.drop A (List.take (Zp (λb=>inC (2:Int) (UInt8.toNat b)) src A) src))<=281474976710656) (Rt (D.tuple [dA [dU 3,dS (List.drop A (List.take (Zp (λb=>inC (2:Int) (UInt8.toNat b)) src A) src)),dI a],dI (Lx.Z61 (List.drop A (List.take (Zp (λb=>inC (2:Int) (UInt8.toNat b)) src A) src)))]) [(0,oC [dS src,dI (↑(Zp (λb=>inC (2:Int) (UInt8.toNat b)) src A):Int)])])))) (brT (decide (cls K=(16:Int))) (I8 P (Ow True (Ow ((0:Int)<=a+(1:Int)/\a+(1:Int)<=G/\List.length src<=4611686018427387904) (Ow (1+List.length (List.drop B (List.take (Zp (λb=>inC (1:Int) (UInt8.toNat b)) src B) src))<=4611686018427387904) (Ow (I=F/\5<=4611686018427387904) (brT (!decide (L++List.drop B (List.take (Zp (λb=>inC (1:Int) (UInt8.toNat b)) src B) src)∈H)) (Rt (D.tuple [dA [dU 5,dS (L++List.drop B (List.take (Zp (λb=>inC (1:Int) (UInt8.toNat b)) src B) src)),dI a],dI 31]) [(0,oC [dS src,dI (↑(Zp (λb=>inC (1:Int) (UInt8.toNat b)) src B):Int)])]) (Rt (D.tuple [dA [dU 5,dS (L++List.drop B (List.take (Zp (λb=>inC (1:Int) (UInt8.toNat b)) src B) src)),dI a],dI 0]) [(0,oC [dS src,dI (↑(Zp (λb=>inC (1:Int) (UInt8.toNat b)) src B):Int)])]))))))) (Ow ((0:Int)<=a/\a<=G/\List.length src<=4611686018427387904) (brT (decide (Qc O=[])) M N))))))):Tr):=by intro A B C E F G H I J K L M N O P;kernel_rfl
theorem cls1:(λb:UInt8=>decide (cls b.toNat=1))=Q4:=Z0d (by kernel_rfl)
theorem cls4:(λb:UInt8=>decide (cls b.toNat=4))=ZQ:=Z0d (by kernel_rfl)
theorem cls2:(λb:UInt8=>decide (cls b.toNat=2))=Zz:=Z0d (by kernel_rfl)
theorem Zn6:(λb:UInt8=>decide (cls b.toNat=16))=(λb=>b == 35):=Z0d (by kernel_rfl)
def tokD (k:Int) (t:LU) (a:Int):D:=.agg [.int .u8 k,.str t,.int .i64 a]
theorem ZgN (src:LU) (a:Nat) (ha:a<src.length) (hl:src.length<=281474976710656):CF 62 [.ptr 0 0] [(0,.cells [.str src,.int .i64 a])]
  λr ob=>r=.tuple [tokD (tok (src.drop a)).1 (tok (src.drop a)).2.1 a,.int .i64 (tok (src.drop a)).2.2]/\ob=[(0,.cells [.str src,.int .i64 ((a+(tok (src.drop a)).2.1.length:Nat):Int)])]:=by
 refine CallL.tree Z6 fp62 (Z7 Z1t Z39) (ZdG src a) ?_;have hd:src.drop a=src.getD a 0::src.drop (a+1):=Z19 ha;generalize u:src.getD a 0=b at hd;have h1:decide (cls b.toNat=1)=Q4 b:=congrFun cls1 b;have t:decide (cls b.toNat=4)=ZQ b:=congrFun cls4 b;have h2:decide (cls b.toNat=2)=Zz b:=congrFun cls2 b;have o:decide (cls b.toNat=16)=(b == 35):=congrFun Zn6 b;have w: ∀ p,Zp p src a=a+((src.drop a).takeWhile p).length:=λp=>rfl;have e: ∀ p,Zp p src (a+1)=a+1+((src.drop (a+1)).takeWhile p).length:=λp=>rfl;have g: ∀ p,((src.drop a).takeWhile p).length<=src.length:=λp=>Nat.le_trans (List.takeWhile_sublist p).length_le (by rw[List.length_drop];omega);have m: ∀ p,((src.drop (a+1)).takeWhile p).length+1<=src.length:=λp=>by
  have:=(List.takeWhile_sublist (l:=src.drop (a+1)) p).length_le;rw[List.length_drop] at this;omega
 have s:((a:Int)+1).toNat=a+1:=by omega
 have v:=b.toNat_lt;simp only[Qb,Zo,Zk,Int.toNat_natCast,true_and,s,inC7,inC2,inC1,Z8e,h1,h2,t,o,u];refine⟨by omega,by omega,?_⟩;have c: ∀ (h:Q4 b=true\/ZQ b=true),tok (src.drop a)=((Z03 ((src.drop a).takeWhile Zl)).1,(src.drop a).takeWhile Zl,(Z03 ((src.drop a).takeWhile Zl)).2):=λh=>by
  rw[hd];simp only[tok];rw[if_pos (by simpa using h)]
 have d:(0<=(a:Int)/\(a:Int)<=src.length/\src.length<=4611686018427387904):=⟨by omega,by omega,by omega⟩;refine⟨λi=>⟨λ_=>⟨d,Nat.le_trans (g _) (by omega),?_⟩,λh=>by simp[i] at h⟩,λi=>⟨λj=>⟨d,Nat.le_trans (g _) (by omega),?_⟩,λj=>⟨λn=>⟨d,Nat.le_trans (g _) (by omega),?_⟩,λn=>⟨λq=>⟨by omega,by omega,?_⟩,λq=>⟨d,?_⟩⟩⟩⟩⟩
 ·rw[c (.inl i)];exact⟨rfl,rfl⟩
 ·rw[c (.inr j)];exact⟨rfl,rfl⟩
 ·have k:tok (src.drop a)=(3,(src.drop a).takeWhile Zz,Lx.Z61 ((src.drop a).takeWhile Zz)):=by
   rw[hd];simp only[tok];rw[if_neg (by simp[i,j]),if_pos n]
  rw[k];exact⟨rfl,rfl⟩
 ·have k:tok (src.drop a)=(5,35::(src.drop (a+1)).takeWhile Q4,if 35::(src.drop (a+1)).takeWhile Q4∈ZiM then 0 else 31):=by
   rw[hd];simp only[tok];rw[if_neg (by simp[i,j]),if_neg (by simp[n]),if_pos q]
  rw[k];refine⟨Nat.le_trans (Nat.add_comm .. ▸ m _) (by omega),⟨rfl,by omega⟩,λhm=>?_,λhm=>?_⟩
  ·have f: ¬ 35::(src.drop (a+1)).takeWhile Q4∈ZiM:=of_decide_eq_false ((Bool.not_eq_true' _).mp hm);rw[if_neg f];refine⟨rfl,?_⟩;rw[e,List.length_cons,Nat.add_assoc,Nat.add_comm 1]
  ·have f:35::(src.drop (a+1)).takeWhile Q4∈ZiM:=of_decide_eq_true ((Bool.not_eq_false' _).mp hm);rw[if_pos f];refine⟨rfl,?_⟩;rw[e,List.length_cons,Nat.add_assoc,Nat.add_comm 1]
 ·have k:tok (src.drop a)=(6,Qc (src.drop a),if Qc (src.drop a)=[] then 30 else 0):=by
   rw[hd];simp only[tok];rw[if_neg (by simp[i,j]),if_neg (by simp[n]),if_neg (by simp[q])]
  rw[k];simp only[decide_eq_true_eq,decide_eq_false_iff_not];exact⟨λh=>by rw[if_pos h];exact⟨rfl,trivial⟩,λh=>by rw[if_neg h];exact⟨rfl,trivial⟩⟩
end Go.Proofs.YtecgehidegnmnaaGreatDoor
/- all and Lex. -/
namespace Go.Proofs.YtecgehidegnmnaaGreatDoor
open Go.Sx
theorem ZiJ (src:LU) (a:Int):let A:=(0,oC [dS src,dI a]);gC (ctr nxP nxQ) 1 rs31 sc31 [] [dP 0 0] [] [A]=(Rt (dF 60 [] [dP 1 0]) [A,(1,oC [dP 0 0])]:Tr):=by intro A;kernel_rfl
def dsL (src:LU):List D:=[.func (.func 60) [] [.ptr 0 0],.ptr 2 0,.ptr 2 0,.ptr 2 0,.agg [.str src,.int .i64 0],.agg [.str src,.int .i64 0],.str src,.bool (decide (32768<(src.length:Int))),.int .i64 src.length,.str src,.ptr 3 0,.ptr 4 0,.ptr 5 0,.str src]
def Z8p:List Nat:=[16,15,5,14,13,12,11,10,9,8,4,3,2,0]
def recL (src:LU) (st:LoopState) (pend:Option Code):Ob:=.gen (.loop st pend #[17,18] (sc11.rngA 0) (sc11.rngB 0) 29 Z8p) (dsL src)
def obN (src:LU) (i a e:Int) (st:LoopState) (pend:Option Code):Obs:=[(0,.cells [.ptr 2 0]),(1,recL src st pend),(2,.cells [.str src,.int .i64 i]),(3,.cells [.int .i64 e]),(4,.cells [.int .i64 a]),(5,.cells [.nils])]
def obV (src:LU) (i a e:Int) (st:LoopState) (pend:Option Code) (acc:LD):Obs:=[(0,.cells [.ptr 2 0]),(1,recL src st pend),(2,.cells [.str src,.int .i64 i]),(3,.cells [.int .i64 e]),(4,.cells [.int .i64 a]),(5,.cells [.vec 6]),(6,.arr true 3 47 acc)]
def dsY (src:LU):List D:=[.func (.func 60) [] [.ptr 1 0],.ptr 2 0,.ptr 2 0,.ptr 2 0,.agg [.str src,.int .i64 0],.agg [.str src,.int .i64 0],.str src,.bool (decide (32768<(src.length:Int))),.int .i64 src.length,.str src,.ptr 3 0,.ptr 4 0,.ptr 5 0,.str src]
def recY (src:LU) (st:LoopState) (pend:Option Code):Ob:=.gen (.loop st pend #[17,18] (sc11.rngA 0) (sc11.rngB 0) 29 Z8p) (dsY src)
theorem Zeu (src t:LU) (i a e k b c:Int) (acc:LD):let A:=(↑(List.length src):Int);let B:=(2,oC [dS src,dI i]);let C:=[dS src,dI 0];let E:=SC.rngA sc11 0;let F:=SC.rngB sc11 0;let G:=(1,oC [dP 2 0]);let H:=(6,oR true 3 47 acc);let I:=[[dU k,dS t,dI b]];let J:=(3,oC [dI e]);let K:=(4,oC [dI a]);let L:=(32768:Int);yldT Tryz.prog (ctr nxP nxQ) 7 0 29 #[17,18] E F Z8p (dsY src) 2000 {tm:=putP (List.zip [17,18] [tokD k t b,dI c]) (List.zip Z8p (dsY src)),ob:=[G,B,J,K,(5,oC [dV 6]),H]}=(brT (!decide (c=(0:Int))) (Rt (dB false) [(0,Ob.gen (Gen.loop LoopState.done (some Code.ret) #[17,18] E F 29 [16,15,5,14,13,12,11,10,9,8,4,3,2,0]) [dF 60 [] [dP 1 0],dP 2 0,dP 2 0,dP 2 0,dA C,dA C,dS src,dB (decide (L<A)),dI A,dS src,dP 3 0,dP 4 0,dP 5 0,dS src]),G,B,(3,oC [dI c]),(4,oC [dI b]),(5,oC [D.nils]),H]) (Ow (Zy 3 I/\List.length acc+1<=1073741824) (Rt (dB true) [(0,Ob.gen (Gen.loop LoopState.ready none #[17,18] E F 29 [16,15,5,14,13,12,11,10,9,8,4,3,2,0]) [dF 60 [] [dP 1 0],dP 2 0,dP 2 0,dP 2 0,dA C,dA C,dS src,dB (decide (L<A)),dI A,dS src,dP 3 0,dP 4 0,dP 5 0,dS src]),G,B,J,K,(5,oC [dV 7]),(7,oR true 3 47 (acc++I))])):Tr):=by intro A B C E F G H I J K L;kernel_rfl
theorem Zev (src t:LU) (i a e k b c:Int):let A:=(↑(List.length src):Int);let B:=(2,oC [dS src,dI i]);let C:=[dS src,dI 0];let E:=SC.rngA sc11 0;let F:=SC.rngB sc11 0;let G:=(1,oC [dP 2 0]);let H:=[[dU k,dS t,dI b]];let I:=(5,oC [D.nils]);let J:=(3,oC [dI e]);let K:=(4,oC [dI a]);let L:=(32768:Int);yldT Tryz.prog (ctr nxP nxQ) 6 0 29 #[17,18] E F Z8p (dsY src) 2000 {tm:=putP (List.zip [17,18] [tokD k t b,dI c]) (List.zip Z8p (dsY src)),ob:=[G,B,J,K,I]}=(brT (!decide (c=(0:Int))) (Rt (dB false) [(0,Ob.gen (Gen.loop LoopState.done (some Code.ret) #[17,18] E F 29 [16,15,5,14,13,12,11,10,9,8,4,3,2,0]) [dF 60 [] [dP 1 0],dP 2 0,dP 2 0,dP 2 0,dA C,dA C,dS src,dB (decide (L<A)),dI A,dS src,dP 3 0,dP 4 0,dP 5 0,dS src]),G,B,(3,oC [dI c]),(4,oC [dI b]),I]) (Ow (Zy 3 H/\1<=1073741824) (Rt (dB true) [(0,Ob.gen (Gen.loop LoopState.ready none #[17,18] E F 29 [16,15,5,14,13,12,11,10,9,8,4,3,2,0]) [dF 60 [] [dP 1 0],dP 2 0,dP 2 0,dP 2 0,dA C,dA C,dS src,dB (decide (L<A)),dI A,dS src,dP 3 0,dP 4 0,dP 5 0,dS src]),G,B,J,K,(5,oC [dV 6]),(6,oR true 3 47 H)])):Tr):=by intro A B C E F G H I J K L;kernel_rfl
def yldQ:QT:=λd xs ob=>match d,xs,ob with
 |.yld 0,[.agg [.int .u8 k,.str t,.int .i64 b],.int .i64 c],[(0,.gen g ds),(1,.cells [.ptr 2 0]),(2,.cells [.str src,.int .i64 i]),(3,.cells [.int .i64 e]),(4,.cells [.int .i64 a]),(5,.cells [.vec 6]),(6,.arr true 3 T acc)] =>
  some (.br (decide (c=0)) (.ok ((Ob.gen g ds=recY src .ready none/\T=47)/\acc.length+1<=1073741824) (.bool true) [(0,recY src .ready none),(1,.cells [.ptr 2 0]),(2,.cells [.str src,.int .i64 i]),(3,.cells [.int .i64 e]),(4,.cells [.int .i64 a]),(5,.cells [.vec 7]),(7,.arr true 3 T (acc++[[.int .u8 k,.str t,.int .i64 b]]))])
   (.ok (Ob.gen g ds=recY src .ready none/\T=47) (.bool false) [(0,recY src .done (some .ret)),(1,.cells [.ptr 2 0]),(2,.cells [.str src,.int .i64 i]),(3,.cells [.int .i64 c]),(4,.cells [.int .i64 b]),(5,.cells [.nils]),(6,.arr true 3 T acc)]))
 |.yld 0,[.agg [.int .u8 k,.str t,.int .i64 b],.int .i64 c],[(0,.gen g ds),(1,.cells [.ptr 2 0]),(2,.cells [.str src,.int .i64 i]),(3,.cells [.int .i64 e]),(4,.cells [.int .i64 a]),(5,.cells [.nils])] =>
  some (.br (decide (c=0)) (.ok (Ob.gen g ds=recY src .ready none) (.bool true) [(0,recY src .ready none),(1,.cells [.ptr 2 0]),(2,.cells [.str src,.int .i64 i]),(3,.cells [.int .i64 e]),(4,.cells [.int .i64 a]),(5,.cells [.vec 6]),(6,.arr true 3 47 [[.int .u8 k,.str t,.int .i64 b]])])
   (.ok (Ob.gen g ds=recY src .ready none) (.bool false) [(0,recY src .done (some .ret)),(1,.cells [.ptr 2 0]),(2,.cells [.str src,.int .i64 i]),(3,.cells [.int .i64 c]),(4,.cells [.int .i64 b]),(5,.cells [.nils])]))
 |_,_,_=>none
theorem ZeI:yldQ.OK:=by
 intro d xs ob rt h;unfold yldQ at h;split at h
 ·rename_i k t f b g ds src i e a T acc;cases h;cases j:decide (b=0) with
  |true =>
   rintro⟨⟨c,rfl⟩,hl⟩;rw[c];refine CallL.yldT Z6 (Z7 Z1t Z39) rfl (Zeu src t i a e k f b acc) ?_;rw[Qb,Zo,Zk,Zk,j];exact⟨λh=>(by cases h),λ_=>⟨⟨Z1E.2 ⟨rfl,Z2l _⟩,hl⟩,rfl,rfl⟩⟩
  |false =>
   rintro⟨c,rfl⟩;rw[c];refine CallL.yldT Z6 (Z7 Z1t Z39) rfl (Zeu src t i a e k f b acc) ?_;rw[Qb,Zo,Zk,Zk,j];exact⟨λ_=>⟨rfl,rfl⟩,λh=>(by cases h)⟩
 ·rename_i k t f b g ds src i e a;cases h;cases j:decide (b=0) with
  |true =>
   rintro c;rw[c];refine CallL.yldT Z6 (Z7 Z1t Z39) rfl (Zev src t i a e k f b) ?_;rw[Qb,Zo,Zk,Zk,j];exact⟨λh=>(by cases h),λ_=>⟨⟨Z1E.2 ⟨rfl,Z2l _⟩,by decide⟩,rfl,rfl⟩⟩
  |false =>
   rintro c;rw[c];refine CallL.yldT Z6 (Z7 Z1t Z39) rfl (Zev src t i a e k f b) ?_;rw[Qb,Zo,Zk,Zk,j];exact⟨λ_=>⟨rfl,rfl⟩,λh=>(by cases h)⟩
 ·cases h
def ZgO:QT:=λd xs ob=>match d,xs,ob with
 |.func (.func f) [] [],[.ptr 0 0],[(0,.cells [.str src,.int .i64 a])]=>if f=62 then some (.ok (0<=a/\a<src.length/\src.length<=281474976710656) (.tuple [.agg [.int .u8 (tok (src.drop a.toNat)).1,.str (tok (src.drop a.toNat)).2.1,.int .i64 a],.int .i64 (tok (src.drop a.toNat)).2.2]) [(0,.cells [.str src,.int .i64 ((a.toNat+(tok (src.drop a.toNat)).2.1.length:Nat):Int)])]) else none
 |_,_,_=>none
theorem Zct:ZgO.OK:=by
 intro d xs ob rt h;unfold ZgO at h;split at h
 ·rename_i f src a;split at h
  ·rename_i hf;subst hf;cases h;rintro⟨h0,h1,h2⟩
   have:=ZgN src a.toNat (by omega) h2;rwa [Int.toNat_of_nonneg h0] at this
  ·cases h
 ·cases h
def alQ:QT:=(nxQ.or ZgO).or yldQ
theorem Zbf:alQ.OK:=QT.or_ok (QT.or_ok Z39 Zct) ZeI
theorem Zm5 (src:LU) (i a e:Int):let A:=(↑(List.length src):Int);let B:=[dS src,dI 0];gC (ctr nxP alQ) 6 rs60 sc60 [] [D.yld 1] [dP 0 0] (obN src i a e LoopState.ready none)=(Ow ((0:Int)<=i/\i<=A/\List.length src<=4611686018427387904) (Jm (cut sc60 0) {tm:=[(0,D.yld 1),(1,dP 0 0)],ob:=[(0,oC [dP 2 0]),(1,Ob.gen (Gen.loop LoopState.ready none #[17,18] (SC.rngA sc11 0) (SC.rngB sc11 0) 29 [16,15,5,14,13,12,11,10,9,8,4,3,2,0]) [dF 60 [] [dP 0 0],dP 2 0,dP 2 0,dP 2 0,dA B,dA B,dS src,dB (decide ((32768:Int)<A)),dI A,dS src,dP 3 0,dP 4 0,dP 5 0,dS src]),(2,oC [dS src,dI (↑(Q3 src (Int.toNat i)):Int)]),(3,oC [dI e]),(4,oC [dI a]),(5,oC [D.nils])]}):Tr):=by intro A B;kernel_rfl
def hdA (ob:Obs):St:=⟨[(0,.yld 1),(1,.ptr 0 0)],ob⟩
theorem Zm4 (src:LU) (i a e:Int):let A:=Prod.snd (tok (List.drop (Int.toNat i) src));let B:=(↑(List.length src):Int);let C:=[dS src,dI 0];let E:=(↑(Int.toNat i+List.length (Prod.fst A)):Int);let F:=SC.rngA sc11 0;let G:=SC.rngB sc11 0;let H:=(6,oR true 3 47 [[dU (Prod.fst (tok (List.drop (Int.toNat i) src))),dS (Prod.fst A),dI i]]);let I:=(32768:Int);let J:=(0,oC [dP 2 0]);let K:=(3,oC [dI e]);let L:=(4,oC [dI a]);let M:=D.tuple [];let N:=(2,oC [dS src,dI E]);let O:=(5,oC [D.nils]);let P:=(5,oC [dV 6]);let Q:=cut sc60 0;gH (ctr nxP alQ) 6 false rs60 Q (hdA (obN src i a e LoopState.ready none))=(brT (decide (i<B)) (Ow ((0:Int)<=i/\i<B/\List.length src<=281474976710656) (brT (decide (Prod.snd A=(0:Int))) (Ow (Ob.gen (Gen.loop LoopState.ready none #[17,18] F G 29 [16,15,5,14,13,12,11,10,9,8,4,3,2,0]) [dF 60 [] [dP 1 0],dP 2 0,dP 2 0,dP 2 0,dA C,dA C,dS src,dB (decide (I<B)),dI B,dS src,dP 3 0,dP 4 0,dP 5 0,dS src]=Ob.gen (Gen.loop LoopState.ready none #[17,18] F G 29 [16,15,5,14,13,12,11,10,9,8,4,3,2,0]) [dF 60 [] [dP 1 0],dP 2 0,dP 2 0,dP 2 0,dA C,dA C,dS src,dB (decide (I<B)),dI B,dS src,dP 3 0,dP 4 0,dP 5 0,dS src]) (brT (!decide (Prod.snd A=(0:Int))) (Rt M [J,(1,Ob.gen (Gen.loop LoopState.ready none #[17,18] F G 29 [16,15,5,14,13,12,11,10,9,8,4,3,2,0]) [dF 60 [] [dP 0 0],dP 2 0,dP 2 0,dP 2 0,dA C,dA C,dS src,dB (decide (I<B)),dI B,dS src,dP 3 0,dP 4 0,dP 5 0,dS src]),N,K,L,P,H]) (Ow ((0:Int)<=E/\E<=B/\List.length src<=4611686018427387904) (Jm Q {tm:=[(0,D.yld 1),(1,dP 0 0)],ob:=[J,(1,Ob.gen (Gen.loop LoopState.ready none #[17,18] F G 29 [16,15,5,14,13,12,11,10,9,8,4,3,2,0]) [dF 60 [] [dP 0 0],dP 2 0,dP 2 0,dP 2 0,dA C,dA C,dS src,dB (decide (I<B)),dI B,dS src,dP 3 0,dP 4 0,dP 5 0,dS src]),(2,oC [dS src,dI (↑(Q3 src (Int.toNat E)):Int)]),K,L,P,H]})))) (Ow (Ob.gen (Gen.loop LoopState.ready none #[17,18] F G 29 [16,15,5,14,13,12,11,10,9,8,4,3,2,0]) [dF 60 [] [dP 1 0],dP 2 0,dP 2 0,dP 2 0,dA C,dA C,dS src,dB (decide (I<B)),dI B,dS src,dP 3 0,dP 4 0,dP 5 0,dS src]=Ob.gen (Gen.loop LoopState.ready none #[17,18] F G 29 [16,15,5,14,13,12,11,10,9,8,4,3,2,0]) [dF 60 [] [dP 1 0],dP 2 0,dP 2 0,dP 2 0,dA C,dA C,dS src,dB (decide (I<B)),dI B,dS src,dP 3 0,dP 4 0,dP 5 0,dS src]) (Rt M [J,(1,Ob.gen (Gen.loop LoopState.done (some Code.ret) #[17,18] F G 29 [16,15,5,14,13,12,11,10,9,8,4,3,2,0]) [dF 60 [] [dP 0 0],dP 2 0,dP 2 0,dP 2 0,dA C,dA C,dS src,dB (decide (I<B)),dI B,dS src,dP 3 0,dP 4 0,dP 5 0,dS src]),N,(3,oC [dI (Prod.snd A)]),(4,oC [dI i]),O])))) (Rt M [J,(1,Ob.gen (Gen.loop LoopState.ready none #[17,18] F G 29 [16,15,5,14,13,12,11,10,9,8,4,3,2,0]) [dF 60 [] [dP 0 0],dP 2 0,dP 2 0,dP 2 0,dA C,dA C,dS src,dB (decide (I<B)),dI B,dS src,dP 3 0,dP 4 0,dP 5 0,dS src]),(2,oC [dS src,dI i]),K,L,O]):Tr):=by intro A B C E F G H I J K L M N O P Q;kernel_rfl
theorem Zm3 (src:LU) (i a e:Int) (acc:LD):let A:=Prod.snd (tok (List.drop (Int.toNat i) src));let B:=(↑(List.length src):Int);let C:=[dS src,dI 0];let E:=(↑(Int.toNat i+List.length (Prod.fst A)):Int);let F:=SC.rngA sc11 0;let G:=SC.rngB sc11 0;let H:=(6,oR true 3 47 (acc++[[dU (Prod.fst (tok (List.drop (Int.toNat i) src))),dS (Prod.fst A),dI i]]));let I:=(32768:Int);let J:=(0,oC [dP 2 0]);let K:=(3,oC [dI e]);let L:=(4,oC [dI a]);let M:=(5,oC [dV 6]);let N:=D.tuple [];let O:=(2,oC [dS src,dI E]);let P:=cut sc60 0;gH (ctr nxP alQ) 6 false rs60 P (hdA (obV src i a e LoopState.ready none acc))=(brT (decide (i<B)) (Ow ((0:Int)<=i/\i<B/\List.length src<=281474976710656) (brT (decide (Prod.snd A=(0:Int))) (Ow ((Ob.gen (Gen.loop LoopState.ready none #[17,18] F G 29 [16,15,5,14,13,12,11,10,9,8,4,3,2,0]) [dF 60 [] [dP 1 0],dP 2 0,dP 2 0,dP 2 0,dA C,dA C,dS src,dB (decide (I<B)),dI B,dS src,dP 3 0,dP 4 0,dP 5 0,dS src]=Ob.gen (Gen.loop LoopState.ready none #[17,18] F G 29 [16,15,5,14,13,12,11,10,9,8,4,3,2,0]) [dF 60 [] [dP 1 0],dP 2 0,dP 2 0,dP 2 0,dA C,dA C,dS src,dB (decide (I<B)),dI B,dS src,dP 3 0,dP 4 0,dP 5 0,dS src]/\47=47)/\List.length acc+1<=1073741824) (brT (!decide (Prod.snd A=(0:Int))) (Rt N [J,(1,Ob.gen (Gen.loop LoopState.ready none #[17,18] F G 29 [16,15,5,14,13,12,11,10,9,8,4,3,2,0]) [dF 60 [] [dP 0 0],dP 2 0,dP 2 0,dP 2 0,dA C,dA C,dS src,dB (decide (I<B)),dI B,dS src,dP 3 0,dP 4 0,dP 5 0,dS src]),O,K,L,M,H]) (Ow ((0:Int)<=E/\E<=B/\List.length src<=4611686018427387904) (Jm P {tm:=[(0,D.yld 1),(1,dP 0 0)],ob:=[J,(1,Ob.gen (Gen.loop LoopState.ready none #[17,18] F G 29 [16,15,5,14,13,12,11,10,9,8,4,3,2,0]) [dF 60 [] [dP 0 0],dP 2 0,dP 2 0,dP 2 0,dA C,dA C,dS src,dB (decide (I<B)),dI B,dS src,dP 3 0,dP 4 0,dP 5 0,dS src]),(2,oC [dS src,dI (↑(Q3 src (Int.toNat E)):Int)]),K,L,M,H]})))) (Ow (Ob.gen (Gen.loop LoopState.ready none #[17,18] F G 29 [16,15,5,14,13,12,11,10,9,8,4,3,2,0]) [dF 60 [] [dP 1 0],dP 2 0,dP 2 0,dP 2 0,dA C,dA C,dS src,dB (decide (I<B)),dI B,dS src,dP 3 0,dP 4 0,dP 5 0,dS src]=Ob.gen (Gen.loop LoopState.ready none #[17,18] F G 29 [16,15,5,14,13,12,11,10,9,8,4,3,2,0]) [dF 60 [] [dP 1 0],dP 2 0,dP 2 0,dP 2 0,dA C,dA C,dS src,dB (decide (I<B)),dI B,dS src,dP 3 0,dP 4 0,dP 5 0,dS src]/\47=47) (Rt N [J,(1,Ob.gen (Gen.loop LoopState.done (some Code.ret) #[17,18] F G 29 [16,15,5,14,13,12,11,10,9,8,4,3,2,0]) [dF 60 [] [dP 0 0],dP 2 0,dP 2 0,dP 2 0,dA C,dA C,dS src,dB (decide (I<B)),dI B,dS src,dP 3 0,dP 4 0,dP 5 0,dS src]),O,(3,oC [dI (Prod.snd A)]),(4,oC [dI i]),(5,oC [D.nils])])))) (Rt N [J,(1,Ob.gen (Gen.loop LoopState.ready none #[17,18] F G 29 [16,15,5,14,13,12,11,10,9,8,4,3,2,0]) [dF 60 [] [dP 0 0],dP 2 0,dP 2 0,dP 2 0,dA C,dA C,dS src,dB (decide (I<B)),dI B,dS src,dP 3 0,dP 4 0,dP 5 0,dS src]),(2,oC [dS src,dI i]),K,L,M,(6,oR true 3 47 acc)]):Tr):=by intro A B C E F G H I J K L M N O P;kernel_rfl
def obA (src:LU) (i a e:Int) (acc:List Tk):Obs:=match acc with
 |[]=>obN src i a e .ready none
 |t::r=>obV src i a e .ready none ((t::r).map Zq)
def outA (src:LU) (a e:Int) (acc:List Tk) (r:List Tk × Option (Nat × Int) × Nat):Obs:=match r.2.1 with
 |some (b,c)=>obN src r.2.2 b c .done (some .ret)
 |none=>obA src r.2.2 a e (acc++r.1)
theorem Zlj (src:LU) (a e:Int) (hl:src.length<=281474976710656): ∀ (f i:Nat) (acc:List Tk),src.length-i<f->i<=src.length->acc.length+(src.length-i)<=1073741824 →
  At Tryz.prog 6 (cut sc60 0) (hdA (obA src i a e acc)) (FinQ false 6 rs60 λr ob=>r=.tuple []/\ob=outA src a e acc (Z1q f i (src.drop i))):=by
 intro f;induction f with
 |zero=>intro i acc hf hi m;omega
 |succ f o =>
  intro i acc hf hi m;have g: ¬ (i<src.length)->Z1q (f+1) i (src.drop i)=([],none,i):=λh=>by
   rw[List.drop_eq_nil_of_le (by omega)];rfl
  have c:i<src.length->Z1q (f+1) i (src.drop i)=if (tok (src.drop i)).2.2=0 then
    (((tok (src.drop i)).1,(tok (src.drop i)).2.1,(i:Int))::(Z1q f (Q3 src (i+(tok (src.drop i)).2.1.length)) (src.drop (Q3 src (i+(tok (src.drop i)).2.1.length)))).1,
     (Z1q f (Q3 src (i+(tok (src.drop i)).2.1.length)) (src.drop (Q3 src (i+(tok (src.drop i)).2.1.length)))).2)
    else ([],some (i,(tok (src.drop i)).2.2),i+(tok (src.drop i)).2.1.length):=λh=>by
   rw[Z19 (d:=0) h];simp only[Z1q];rw[<- Z19 (d:=0) h,List.drop_drop,List.drop_drop];unfold Q3;rw[Nat.add_assoc i]
  have j:=Lx.Z5D (src.drop i);rw[List.length_drop] at j;have k:i<src.length->src.drop i≠[]:=λh b=>by
   have:=congrArg List.length b;rw[List.length_drop] at this;simp at this;omega
  have l:=Z3Q (s:=src) (i:=i+(tok (src.drop i)).2.1.length) (by omega);have n:i+(tok (src.drop i)).2.1.length<=Q3 src (i+(tok (src.drop i)).2.1.length):=by unfold Q3;omega
  cases acc with
  |nil =>
   refine At.tree (Z7 Z1t Zbf) (Zm4 src i a e) ?_;simp only[Qb,Zo,Zk,QY,decide_eq_true_eq,decide_eq_false_iff_not,Int.toNat_natCast,true_and,Bool.not_eq_true',Bool.not_eq_false',Int.ofNat_lt];refine⟨λh=>⟨⟨by omega,h,hl⟩,λb=>⟨λh'=>absurd b h',λ_=>⟨by omega,?_⟩⟩,λb=>?_⟩,λh=>?_⟩
   ·have hp:=Z0F (k h) b
    have:=o (Q3 src (i+(tok (src.drop i)).2.1.length)) [((tok (src.drop i)).1,(tok (src.drop i)).2.1,(i:Int))] (by omega) l (by simp only[List.length_cons,List.length_nil] at m ⊢;omega);rw[c h,if_pos b];exact this
   ·rw[c h,if_neg b];rfl
   ·rw[g h];rfl
  |cons t r =>
   refine At.tree (Z7 Z1t Zbf) (Zm3 src i a e ((t::r).map Zq)) ?_;simp only[Qb,Zo,Zk,QY,decide_eq_true_eq,decide_eq_false_iff_not,Int.toNat_natCast,true_and,Bool.not_eq_true',Bool.not_eq_false',Int.ofNat_lt,List.length_map];refine⟨λh=>⟨⟨by omega,h,hl⟩,λb=>⟨by simp only[List.length_cons] at m ⊢;omega,λh'=>absurd b h',λ_=>⟨by omega,?_⟩⟩,λb=>?_⟩,λh=>?_⟩
   ·have hp:=Z0F (k h) b
    have:=o (Q3 src (i+(tok (src.drop i)).2.1.length)) (t::r++[((tok (src.drop i)).1,(tok (src.drop i)).2.1,(i:Int))]) (by omega) l (by simp only[List.length_cons,List.length_append,List.length_nil] at m ⊢;omega);rw[c h,if_pos b];simp only[outA,List.append_assoc,List.cons_append,List.nil_append] at this ⊢;simp only[obA,List.map_cons,List.map_append,List.cons_append] at this ⊢;exact this
   ·rw[c h,if_neg b];rfl
   ·rw[g h];simp only[outA,List.append_nil];rfl
def runA (src:LU) (i:Nat):List Tk × Option (Nat × Int) × Nat:=Z1q (src.length+1) (Q3 src i) (src.drop (Q3 src i))
theorem ZhS (src:LU) (i:Nat) (a e:Int) (hi:i<=src.length) (hl:src.length<=1073741824):CallL Tryz.prog (.func (.func 60) [] [.ptr 0 0]) [.yld 1] (obN src i a e .ready none)
  λr ob=>r=.tuple []/\ob=outA src a e [] (runA src i):=by
 refine CallL.tree Z6 fp60 (Z7 Z1t Zbf) (Zm5 src i a e) ?_;simp only[Zo,QY,Int.toNat_natCast]
 have:=Z3Q hi;exact⟨⟨by omega,by omega,by omega⟩,Zlj src a e (by omega) _ (Q3 src i) [] (by omega) this (by simp only[List.length_nil];omega)⟩
def a1Q:QT:=λd xs ob=>match d,xs,ob with
 |.func (.func f) [] [.ptr 0 0],[.yld 1],[(0,.cells [.ptr 2 0]),(1,.gen g ds),(2,.cells [.str src,.int .i64 i]),(3,.cells [.int .i64 e]),(4,.cells [.int .i64 a]),(5,.cells [.nils])]=>if f=60 then
   some (.br (runA src i.toNat).2.1.isSome (.ok (Ob.gen g ds=recL src .ready none/\0<=i/\i<=src.length/\src.length<=1073741824) (.tuple []) (obN src (runA src i.toNat).2.2 ((runA src i.toNat).2.1.getD (0,0)).1 ((runA src i.toNat).2.1.getD (0,0)).2 .done (some .ret)))
    (.br (decide ((runA src i.toNat).1=[])) (.ok (Ob.gen g ds=recL src .ready none/\0<=i/\i<=src.length/\src.length<=1073741824) (.tuple []) (obN src (runA src i.toNat).2.2 a e .ready none))
     (.ok (Ob.gen g ds=recL src .ready none/\0<=i/\i<=src.length/\src.length<=1073741824) (.tuple []) (obV src (runA src i.toNat).2.2 a e .ready none ((runA src i.toNat).1.map Zq))))) else none
 |.func (.func f) [] [],[.ptr 0 0],[(0,.cells [.str src,.int .i64 i])]=>if f=31 then some (.ok True (.func (.func 60) [] [.ptr 1 0]) [(0,.cells [.str src,.int .i64 i]),(1,.cells [.ptr 0 0])]) else none
 |_,_,_=>none
theorem Zlk:a1Q.OK:=by
 intro d xs ob rt h;unfold a1Q at h;split at h
 ·rename_i f g ds src i e a;split at h
  ·rename_i hf;subst hf;cases h;have key:Ob.gen g ds=recL src .ready none->0<=i->i<=src.length->src.length<=1073741824->CallL Tryz.prog (.func (.func 60) [] [.ptr 0 0]) [.yld 1] [(0,.cells [.ptr 2 0]),(1,.gen g ds),(2,.cells [.str src,.int .i64 i]),(3,.cells [.int .i64 e]),(4,.cells [.int .i64 a]),(5,.cells [.nils])]
     λr ob=>r=.tuple []/\ob=outA src a e [] (runA src i.toNat):=λb h0 h1 h2=>by
    rw[b]
    have:=ZhS src i.toNat a e (by omega) h2;rw[Int.toNat_of_nonneg h0] at this;exact this
   unfold outA at key;cases hs:(runA src i.toNat).2.1 with
   |some x =>
    rw[hs] at key;exactλhp=>key hp.1 hp.2.1 hp.2.2.1 hp.2.2.2
   |none =>
    rw[hs] at key;simp only[List.nil_append] at key;cases hr:(runA src i.toNat).1 with
    |nil =>
     rw[hr] at key;exactλhp=>key hp.1 hp.2.1 hp.2.2.1 hp.2.2.2
    |cons t r =>
     rw[hr] at key;exactλhp=>key hp.1 hp.2.1 hp.2.2.1 hp.2.2.2
  ·cases h
 ·rename_i f src i;split at h
  ·rename_i hf;subst hf;cases h;intro _;exact CallL.tree Z6 fp31 (Z7 Z1t Z39) (ZiJ src i) ⟨rfl,rfl⟩
  ·cases h
 ·cases h
theorem Zim (src:LU):let A:=SC.block 1 (SC.seq (SC.seq (SC.reg [so 19 AOp.mv [xt 7],so 20 (AOp.bin BinOp.neq) [xt 19,xc (dI 0)]]) (SC.cond (xt 20) (SC.seq (SC.drw [0,1,0,0,11,31] [so 21 (AOp.faddr 2) [xt 6],so 22 (AOp.load false 1) [xt 21],so 23 AOp.mv [xt 7],SOp.st none (SK.c 1) (xt 2) (xc D.nils),SOp.st none (SK.c 1) (xt 3) (xt 22),SOp.st none (SK.c 1) (xt 4) (xt 23)]) SC.ret) SC.skip)) (SC.reg [so 24 (AOp.load false 1) [xt 2],so 25 (AOp.load true 3) [xt 6],so 26 (AOp.bslice true 3 1 47 [dU 0,dS [],dI 0] [(0,3)]) [xt 25],SOp.app 27 none true 3 47 (xt 24) (xt 26),SOp.st none (SK.c 1) (xt 2) (xt 27)]));let B:=(↑(List.length src):Int);let C:=SC.seq (SC.reg [so 6 (AOp.alloc [dU 0,dS [],dI 0]) [],SOp.st none (SK.c 3) (xt 6) (xt 17)]) (SC.reg [so 7 AOp.mv [xt 18]]);let E:=[dS src,dI 0];let F:=Prod.fst (Prod.snd (runA src 0));let G:=(32768:Int);let H:=SC.rngA sc11 0;let I:=SC.rngB sc11 0;let J:=(Option.getD F (0,(0:Int)));let K:=runA src 0;gP (ctr nxP a1Q) rs11 sc11 [dS src]=(brT (decide (G<B)) (Rt (D.tuple [dL [] [],dI 0,dI 3]) []) (Ow True (brT (Option.isSome F) (Ow (Ob.gen (Gen.loop LoopState.ready none #[17,18] C A 29 [16,15,5,14,13,12,11,10,9,8,4,3,2,0]) [dF 60 [] [dP 0 0],dP 2 0,dP 2 0,dP 2 0,dA E,dA E,dS src,dB (decide (G<B)),dI B,dS src,dP 3 0,dP 4 0,dP 5 0,dS src]=Ob.gen (Gen.loop LoopState.ready none #[17,18] H I 29 [16,15,5,14,13,12,11,10,9,8,4,3,2,0]) [dF 60 [] [dP 0 0],dP 2 0,dP 2 0,dP 2 0,dA E,dA E,dS src,dB (decide (G<B)),dI B,dS src,dP 3 0,dP 4 0,dP 5 0,dS src]/\(0:Int)<=(0:Int)/\(0:Int)<=B/\List.length src<=1073741824) (Rt (D.tuple [dL [] [],dI (↑(Prod.fst J):Int),dI (Prod.snd J)]) [])) (brT (decide (Prod.fst K=[])) (Ow (Ob.gen (Gen.loop LoopState.ready none #[17,18] C A 29 [16,15,5,14,13,12,11,10,9,8,4,3,2,0]) [dF 60 [] [dP 0 0],dP 2 0,dP 2 0,dP 2 0,dA E,dA E,dS src,dB (decide (G<B)),dI B,dS src,dP 3 0,dP 4 0,dP 5 0,dS src]=Ob.gen (Gen.loop LoopState.ready none #[17,18] H I 29 [16,15,5,14,13,12,11,10,9,8,4,3,2,0]) [dF 60 [] [dP 0 0],dP 2 0,dP 2 0,dP 2 0,dA E,dA E,dS src,dB (decide (G<B)),dI B,dS src,dP 3 0,dP 4 0,dP 5 0,dS src]/\(0:Int)<=(0:Int)/\(0:Int)<=B/\List.length src<=1073741824) (Rt (D.tuple [dL [] [],dI 0,dI 0]) [])) (Ow (Ob.gen (Gen.loop LoopState.ready none #[17,18] C A 29 [16,15,5,14,13,12,11,10,9,8,4,3,2,0]) [dF 60 [] [dP 0 0],dP 2 0,dP 2 0,dP 2 0,dA E,dA E,dS src,dB (decide (G<B)),dI B,dS src,dP 3 0,dP 4 0,dP 5 0,dS src]=Ob.gen (Gen.loop LoopState.ready none #[17,18] H I 29 [16,15,5,14,13,12,11,10,9,8,4,3,2,0]) [dF 60 [] [dP 0 0],dP 2 0,dP 2 0,dP 2 0,dA E,dA E,dS src,dB (decide (G<B)),dI B,dS src,dP 3 0,dP 4 0,dP 5 0,dS src]/\(0:Int)<=(0:Int)/\(0:Int)<=B/\List.length src<=1073741824) (Rt (D.tuple [dL (List.map Zq (Prod.fst K)) [],dI 0,dI 0]) []))))):Tr):=by intro A B C E F G H I J K;kernel_rfl
theorem Z7r (src:LU):FK 11 [.str src] (.tuple [.slice ((Q5 src).1.map Zq) [],.int .i64 (Q5 src).2.1,.int .i64 (Q5 src).2.2]):=by
 refine FnOK.tree Z6 fp11 (Z7 Z1t Zlk) (Zim src) ?_;simp only[Qb,Zo,Zk,decide_eq_true_eq,decide_eq_false_iff_not,true_and];have hr:runA src 0=Z1q (src.length+1) (skp false src) (src.drop (skp false src)):=by
  unfold runA Q3;rw[List.drop_zero,Nat.zero_add]
 unfold Q5;rw[<- hr];refine⟨λh=>?_,λh=>⟨λh1=>⟨⟨rfl,by omega,by omega,by omega⟩,?_⟩,λh1=>⟨λh2=>⟨⟨rfl,by omega,by omega,by omega⟩,?_⟩,λh2=>⟨⟨rfl,by omega,by omega,by omega⟩,?_⟩⟩⟩⟩
 ·rw[if_pos (by omega)];rfl
 ·rw[if_neg (by omega)];rcases a:runA src 0 with⟨l,o,p⟩;rw[a] at h1;cases o with
  |none=>cases h1
  |some x=>rfl
 ·rw[if_neg (by omega)];rcases a:runA src 0 with⟨l,o,p⟩;rw[a] at h1 h2;cases o with
  |none=>simp only at h2;subst h2;rfl
  |some x=>cases h1
 ·rw[if_neg (by omega)];rcases a:runA src 0 with⟨l,o,p⟩;rw[a] at h1 h2;cases o with
  |none=>rfl
  |some x=>cases h1
end Go.Proofs.YtecgehidegnmnaaGreatDoor
