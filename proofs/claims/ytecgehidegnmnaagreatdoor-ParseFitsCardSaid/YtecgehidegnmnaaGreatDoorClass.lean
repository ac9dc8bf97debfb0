/- Own work: a layer over the kit: plain data,a walk over it,its soundness. -/
import Derived.Test.YtecgehidegnmnaaGreatDoorPrA
import Derived.Test.YtecgehidegnmnaaGreatDoorSx8
import Derived.Test.YtecgehidegnmnaaGreatDoorLibT
set_option linter.all false
set_option maxRecDepth 100000
/- The tests for the bytes of some classes;(*input).while. -/
open Go.Sx.Lx (ZQ Q0 Qx Z09 ZU Z2F ZM ZW Z0x Qm QR tok Zhh Tk Zo Z1p Z3x Z0R Qh skp)
namespace Go.Proofs.YtecgehidegnmnaaGreatDoor
open Go.Sx
def inC (c:Int) (b:Nat):Bool:=!decide (bitI .and .i64 (cls b) c=0)
theorem Zgt (b c:Int):goT Tryz.prog (ctr clsP) 1 (finF false 1 Zf7) 200 [Fr.sc Zen] {tm:=Zu 0 ([]++[dU b]++[dP 0 0]),ob:=[(0,oC [dI c])]}=(Ow ((0:Int)<=b/\b<(256:Int)) (Rt (D.bool !decide (bitI BinOp.and IntKind.i64 (cls (Int.toNat b)) c=(0:Int))) [(0,oC [dI c])]):Tr):=by kernel_rfl
theorem Zip (b c:Int) (a:0<=b/\b<256):CallL Tryz.prog (.func (.func 140) [] [.ptr 0 0]) [.int .u8 b] [(0,.cells [.int .i64 c])] λr ob=>r=.bool (inC c b.toNat)/\ob=[(0,.cells [.int .i64 c])] :=
 CallL.tree Z5 Zj4 (Z9 QU Z8) (Zgt b c) ⟨a,rfl,rfl⟩
theorem ZjN (c:Int):goT Tryz.prog (ctr clsP) 0 (finF false 0 Zfm) 200 [Fr.sc ZeC] {tm:=Zu 0 ([]++[dI c]++[]),ob:=[]}=(Rt (dF 140 [] [dP 0 0]) [(0,oC [dI c])]:Tr):=by kernel_rfl
theorem Zl3 (c:Int):CF 102 [.int .i64 c] [] λr ob=>r=.func (.func 140) [] [.ptr 0 0]/\ob=[(0,.cells [.int .i64 c])] :=
 CallL.tree Z5 Zjn (Z9 QU Z8) (ZjN c) ⟨rfl,rfl⟩
theorem ZjO (b:Int):goT Tryz.prog (ctr clsP) 0 (finF false 0 Zfl) 200 [Fr.sc ZeB] {tm:=Zu 0 ([]++[dU b]++[]),ob:=[]}=(Rt (D.bool !decide (b=(10:Int))) []:Tr):=by kernel_rfl
theorem Zl5 (b:Int):CF 103 [.int .u8 b] [] λr ob=>r=.bool (!decide (b=10))/\ob=[] :=
 CallL.tree Z5 Zjm (Z9 QU Z8) (ZjO b) ⟨rfl,rfl⟩
def Z5p:QT:=λd xs ob=>match d,xs,ob with
 |.func (.func f) [] [.ptr 0 0],[.int .u8 b],[(0,.cells [.int .i64 c])]=>if f=140 then some (.ok (0<=b/\b<256) (.bool (inC c b.toNat)) [(0,.cells [.int .i64 c])]) else none
 |.func (.func f) [] [],[.int .u8 b],[]=>if f=103 then some (.ok True (.bool (!decide (b=10))) []) else none
 |.func (.func f) [] [],[.int .i64 c],[]=>if f=102 then some (.ok True (.func (.func 140) [] [.ptr 0 0]) [(0,.cells [.int .i64 c])]) else none
 |_,_,_=>none
theorem Z0z:Z5p.OK:=by
 intro d xs ob rt h;unfold Z5p at h;split at h;all_goals try (split at h)
 all_goals first
  |(cases h;done)
  |(rename_i hf;subst hf;cases h;first|exact λhp=>Zip _ _ hp|exact λ_=>Zl5 _|exact λ_=>Zl3 _)
theorem Zgq (src:LU) (c i:Int):let A:=[(0,oC [dS src,dI i]),(1,oC [dI c])];goT Tryz.prog (ctr clsP Z5p) 2 (finF false 2 Z4N) 200 [Fr.sc Z3j] {tm:=Zu 0 ([]++[dP 0 0,dF 140 [] [dP 1 0]]++[]),ob:=A}=(Jm (cut Z3j 0) {tm:=[(0,dP 0 0),(1,dF 140 [] [dP 1 0]),(5,dI i)],ob:=A}:Tr):=by intro A;kernel_rfl
def hdW (src:LU) (c fr i:Int):St:=⟨[(0,.ptr 0 0),(1,.func (.func 140) [] [.ptr 1 0]),(5,.int .i64 fr)],[(0,.cells [.str src,.int .i64 i]),(1,.cells [.int .i64 c])]⟩
theorem ZaA (src:LU) (c fr i:Int):let A:=(↑(UInt8.toNat (List.getD src (Int.toNat i) (0:UInt8))):Int);let B:=Rt (dS (List.drop (Int.toNat fr) (List.take (Int.toNat i) src))) [(0,oC [dS src,dI i]),(1,oC [dI c])];let C:=(↑(List.length src):Int);let E:=cut Z3j 0;let F:=(i+(1:Int));goT Tryz.prog (ctr clsP Z5p) 2 (finF false 2 Z4N) 200 E (hdW src c fr i)=(brT (decide (i<C)) (Ow ((0:Int)<=i/\i<C) (Ow ((0:Int)<=A/\A<(256:Int)) (brT (inC c (Int.toNat A)) (I8 F (Jm E {tm:=[(0,dP 0 0),(1,dF 140 [] [dP 1 0]),(5,dI fr)],ob:=[(0,oC [dS src,dI F]),(1,oC [dI c])]})) (Ow ((0:Int)<=fr/\fr<=i/\i<=C) B)))) (Ow ((0:Int)<=fr/\fr<=i/\i<=C) B):Tr):=by intro A B C E F;kernel_rfl
theorem Zb8 (src:LU) (c:Int) (fr:Nat) (hl:src.length<=4611686018427387904): ∀ (m i:Nat),src.length-i=m->fr<=i->i<=src.length →
  At Tryz.prog 2 (cut Z3j 0) (hdW src c fr i) (FinQ false 2 Z4N λr ob=>r=.str ((src.take (Zl (λb=>inC c b.toNat) src i)).drop fr)/\ob=[(0,.cells [.str src,.int .i64 (Zl (λb=>inC c b.toNat) src i:Nat)]),(1,.cells [.int .i64 c])]):=by
 intro m;induction m with
 |zero =>
  intro i hm hf hi;refine At.tree (Z9 QU Z0z) (ZaA src c fr i) ?_;rw[Z4L (by omega)];simp only[Qw,Zs,Zn,decide_eq_true_eq,decide_eq_false_iff_not];exact⟨λh=>by omega,λ_=>⟨by omega,by simp⟩⟩
 |succ m a =>
  intro i hm hf hi;refine At.tree (Z9 QU Z0z) (ZaA src c fr i) ?_;simp only[Qw,Zs,Zn,Z0r,decide_eq_true_eq,decide_eq_false_iff_not,Int.toNat_natCast];refine⟨λ_=>⟨by omega,Z61 _ _,λhp=>⟨by omega,?_⟩,λhp=>?_⟩,λh=>by omega⟩
  ·have:=a (i+1) (by omega) (by omega) (by omega);rw[Z1Y (by omega) hp];exact this
  ·rw[Z3y (by omega) hp];exact⟨by omega,rfl,rfl⟩
theorem Zb7 (src:LU) (c:Int) (i:Nat) (hi:i<=src.length) (hl:src.length<=4611686018427387904) :
  CF 101 [.ptr 0 0,.func (.func 140) [] [.ptr 1 0]] [(0,.cells [.str src,.int .i64 i]),(1,.cells [.int .i64 c])]
   λr ob=>r=.str ((src.take (Zl (λb=>inC c b.toNat) src i)).drop i)/\ob=[(0,.cells [.str src,.int .i64 (Zl (λb=>inC c b.toNat) src i:Nat)]),(1,.cells [.int .i64 c])] :=
 CallL.tree Z5 ZfX (Z9 QU Z0z) (Zgq src c i) (Zb8 src c i hl _ i rfl (Nat.le_refl _) hi)
theorem Zgp (src:LU) (i:Int):let A:=[(0,oC [dS src,dI i])];goT Tryz.prog (ctr clsP Z5p) 1 (finF false 1 Z4N) 200 [Fr.sc Z3j] {tm:=Zu 0 ([]++[dP 0 0,dF 103 [] []]++[]),ob:=A}=(Jm (cut Z3j 0) {tm:=[(0,dP 0 0),(1,dF 103 [] []),(5,dI i)],ob:=A}:Tr):=by intro A;kernel_rfl
def hdL (src:LU) (fr i:Int):St:=⟨[(0,.ptr 0 0),(1,.func (.func 103) [] []),(5,.int .i64 fr)],[(0,.cells [.str src,.int .i64 i])]⟩
theorem Zaz (src:LU) (fr i:Int):let A:=Rt (dS (List.drop (Int.toNat fr) (List.take (Int.toNat i) src))) [(0,oC [dS src,dI i])];let B:=(↑(List.length src):Int);let C:=cut Z3j 0;let E:=(i+(1:Int));goT Tryz.prog (ctr clsP Z5p) 1 (finF false 1 Z4N) 200 C (hdL src fr i)=(brT (decide (i<B)) (Ow ((0:Int)<=i/\i<B) (Ow True (brT (!decide ((↑(UInt8.toNat (List.getD src (Int.toNat i) (0:UInt8))):Int)=(10:Int))) (I8 E (Jm C {tm:=[(0,dP 0 0),(1,dF 103 [] []),(5,dI fr)],ob:=[(0,oC [dS src,dI E])]})) (Ow ((0:Int)<=fr/\fr<=i/\i<=B) A)))) (Ow ((0:Int)<=fr/\fr<=i/\i<=B) A):Tr):=by intro A B C E;kernel_rfl
def Qf (b:UInt8):Bool:=!decide ((b.toNat:Int)=10)
theorem ZfG (src:LU) (fr:Nat) (hl:src.length<=4611686018427387904): ∀ (m i:Nat),src.length-i=m->fr<=i->i<=src.length →
  At Tryz.prog 1 (cut Z3j 0) (hdL src fr i) (FinQ false 1 Z4N λr ob=>r=.str ((src.take (Zl Qf src i)).drop fr)/\ob=[(0,.cells [.str src,.int .i64 (Zl Qf src i:Nat)])]):=by
 intro m;induction m with
 |zero =>
  intro i hm hf hi;refine At.tree (Z9 QU Z0z) (Zaz src fr i) ?_;rw[Z4L (by omega)];simp only[Qw,Zs,Zn,decide_eq_true_eq,decide_eq_false_iff_not];exact⟨λh=>by omega,λ_=>⟨by omega,by simp⟩⟩
 |succ m a =>
  intro i hm hf hi;refine At.tree (Z9 QU Z0z) (Zaz src fr i) ?_;simp only[Qw,Zs,Zn,Z0r,decide_eq_true_eq,decide_eq_false_iff_not,Int.toNat_natCast,true_and];refine⟨λ_=>⟨by omega,λhp=>⟨by omega,?_⟩,λhp=>?_⟩,λh=>by omega⟩
  ·have:=a (i+1) (by omega) (by omega) (by omega);rw[Z1Y (by omega) hp];exact this
  ·rw[Z3y (by omega) hp];exact⟨by omega,rfl,rfl⟩
theorem ZfF (src:LU) (i:Nat) (hi:i<=src.length) (hl:src.length<=4611686018427387904) :
  CF 101 [.ptr 0 0,.func (.func 103) [] []] [(0,.cells [.str src,.int .i64 i])]
   λr ob=>r=.str ((src.take (Zl Qf src i)).drop i)/\ob=[(0,.cells [.str src,.int .i64 (Zl Qf src i:Nat)])] :=
 CallL.tree Z5 ZfX (Z9 QU Z0z) (Zgp src i) (ZfG src i hl _ i rfl (Nat.le_refl _) hi)
def whQ:QT:=λd xs ob=>match d,xs,ob with
 |.func (.func w) [] [],[.ptr 0 0,.func (.func g) [] [.ptr 1 0]],[(0,.cells [.str src,.int .i64 i]),(1,.cells [.int .i64 c])]=>if w=101/\g=140 then
   some (.ok (0<=i/\i<=src.length/\src.length<=4611686018427387904) (.str ((src.take (Zl (λb=>inC c b.toNat) src i.toNat)).drop i.toNat)) [(0,.cells [.str src,.int .i64 (Zl (λb=>inC c b.toNat) src i.toNat:Nat)]),(1,.cells [.int .i64 c])]) else none
 |.func (.func w) [] [],[.ptr 0 0,.func (.func g) [] []],[(0,.cells [.str src,.int .i64 i])]=>if w=101/\g=103 then
   some (.ok (0<=i/\i<=src.length/\src.length<=4611686018427387904) (.str ((src.take (Zl Qf src i.toNat)).drop i.toNat)) [(0,.cells [.str src,.int .i64 (Zl Qf src i.toNat:Nat)])]) else none
 |_,_,_=>none
theorem Zhi:whQ.OK:=by
 intro d xs ob rt h;unfold whQ at h;split at h
 ·rename_i w g src i c;split at h
  ·rename_i hf;obtain⟨rfl,rfl⟩:=hf;cases h;rintro⟨h0,h1,h2⟩
   have:=Zb7 src c i.toNat (by omega) h2;rwa [Int.toNat_of_nonneg h0] at this
  ·cases h
 ·rename_i w g src i;split at h
  ·rename_i hf;obtain⟨rfl,rfl⟩:=hf;cases h;rintro⟨h0,h1,h2⟩
   have:=ZfF src i.toNat (by omega) h2;rwa [Int.toNat_of_nonneg h0] at this
  ·cases h
 ·cases h
end Go.Proofs.YtecgehidegnmnaaGreatDoor
/- (*scanner).skip: blanks and comments. -/
namespace Go.Proofs.YtecgehidegnmnaaGreatDoor
open Go.Sx
theorem Z02 {p q:UInt8->Bool} (h:(List.range 256).all (λn=>p (UInt8.ofNat n) == q (UInt8.ofNat n))=true):p=q:=by
 funext b
 have:=List.all_eq_true.1 h b.toNat (List.mem_range.2 b.toNat_lt);simpa using this
theorem inC8:(λb:UInt8=>inC 8 b.toNat)=ZQ:=Z02 (by kernel_rfl)
theorem inC7:(λb:UInt8=>inC 7 b.toNat)=Q0:=Z02 (by kernel_rfl)
theorem inC2:(λb:UInt8=>inC 2 b.toNat)=Qx:=Z02 (by kernel_rfl)
theorem inC1:(λb:UInt8=>inC 1 b.toNat)=Z09:=Z02 (by kernel_rfl)
theorem Z9F:Qf=Lx.Qf:=Z02 (by kernel_rfl)
def skQ:QT:=Z5p.or whQ
theorem Z8F:skQ.OK:=QT.or_ok Z0z Zhi
theorem Zgs (src:LU) (i:Int):let A:=[(0,oC [dS src,dI i])];goT Tryz.prog (ctr clsP skQ) 1 (finF false 1 rs61) 200 [Fr.sc sc61] {tm:=Zu 0 ([]++[dP 0 0]++[]),ob:=A}=(Jm (cut sc61 0) {tm:=[(0,dP 0 0)],ob:=A}:Tr):=by intro A;kernel_rfl
def hdS (src:LU) (i:Int):St:=⟨[(0,.ptr 0 0)],[(0,.cells [.str src,.int .i64 i])]⟩
theorem Zgr (src:LU) (i:Int):let A:=Int.toNat i;let B:=(↑(List.length src):Int);let C:=cut sc61 0;let E:=D.tuple [];goT Tryz.prog (ctr clsP skQ) 1 (finF false 1 rs61) 200 C (hdS src i)=(Ow True (Ow ((0:Int)<=i/\i<=B/\List.length src<=4611686018427387904) (brT (decide ((↑(Zl (λb=>inC (8:Int) (UInt8.toNat b)) src A):Int)=B)) (Rt E [(0,oC [dS src,dI (↑(Zl (λb=>inC (8:Int) (UInt8.toNat b)) src A):Int)])]) (Ow ((0:Int)<=(↑(Zl (λb=>inC (8:Int) (UInt8.toNat b)) src A):Int)/\(↑(Zl (λb=>inC (8:Int) (UInt8.toNat b)) src A):Int)<B) (brT (!decide ((↑(UInt8.toNat (List.getD src (Int.toNat (↑(Zl (λb=>inC (8:Int) (UInt8.toNat b)) src A):Int)) (0:UInt8))):Int)=(37:Int))) (Rt E [(0,oC [dS src,dI (↑(Zl (λb=>inC (8:Int) (UInt8.toNat b)) src A):Int)])]) (Ow ((0:Int)<=(↑(Zl (λb=>inC (8:Int) (UInt8.toNat b)) src A):Int)/\(↑(Zl (λb=>inC (8:Int) (UInt8.toNat b)) src A):Int)<=B/\List.length src<=4611686018427387904) (Jm C {tm:=[(0,dP 0 0)],ob:=[(0,oC [dS src,dI (↑(Zl Qf src (Int.toNat (↑(Zl (λb=>inC (8:Int) (UInt8.toNat b)) src A):Int))):Int)])]})))))):Tr):=by intro A B C E;kernel_rfl
theorem Ze5 (src:LU) (hl:src.length<=4611686018427387904): ∀ (m i:Nat),src.length-i<m->i<=src.length →
  At Tryz.prog 1 (cut sc61 0) (hdS src i) (FinQ false 1 rs61 λr ob=>r=.tuple []/\ob=[(0,.cells [.str src,.int .i64 (ZU src i:Nat)])]):=by
 intro m;induction m with
 |zero=>intro i hm hi;omega
 |succ m d =>
  intro i hm hi;refine At.tree (Z9 QU Z8F) (Zgr src i) ?_;simp only[Qw,Zs,Zn,Z0r,decide_eq_true_eq,decide_eq_false_iff_not,Int.toNat_natCast,true_and,inC8,Z9F,Bool.not_eq_true',Bool.not_eq_false'];have h1:=Z2H (p:=ZQ) hi;have h2:=Z48 ZQ src i;refine⟨⟨by omega,by omega,hl⟩,λc=>?_,λc=>⟨by omega,λhc=>?_,λhc=>⟨by omega,?_⟩⟩⟩
  ·rw[Z2F (.inl (by omega)) hi]
  ·rw[Z2F (.inr λh=>hc (by rw[h];rfl)) hi]
  ·have a:src.getD (Zl ZQ src i) 0=37:=UInt8.toNat_inj.1 (by show _=37;omega);rw[Lx.Z2h,Lx.Z7r (by omega) a];have e:=Z48 Lx.Qf src (Zl ZQ src i);have b:=Z2H (p:=Lx.Qf) (s:=src) (i:=Zl ZQ src i) (by omega);have f:Zl Lx.Qf src (Zl ZQ src i)=Zl Lx.Qf src (Zl ZQ src i+1):=Z1Y (by omega) (by rw[a];rfl);have g:=Z48 Lx.Qf src (Zl ZQ src i+1);exact d _ (by omega) b
theorem Ze4 (src:LU) (i:Nat) (hi:i<=src.length) (hl:src.length<=4611686018427387904) :
  CF 61 [.ptr 0 0] [(0,.cells [.str src,.int .i64 i])] λr ob=>r=.tuple []/\ob=[(0,.cells [.str src,.int .i64 (ZU src i:Nat)])] :=
 CallL.tree Z5 fp61 (Z9 QU Z8F) (Zgs src i) (Ze5 src hl _ i (Nat.lt_succ_self _) hi)
end Go.Proofs.YtecgehidegnmnaaGreatDoor
/- number: whether digits are a valid number. -/
namespace Go.Proofs.YtecgehidegnmnaaGreatDoor
open Go.Sx
def Z9o (s:LU):Int:=match Lib.atoiAll s with
 |.ok n=>if 2147483647<n then 32 else if Lib.itoa n=s then 0 else 32
 |_=>32
noncomputable def ZaB (s:LU):Tr:=brT
 (match Lib.atoiAll s with
 |Lib.NumEnd.ok v=>true
 |x=>false)
 (Ow (List.length s<=281474976710656)
  (brT
   (decide
    ((2147483647:Int) <
     match Lib.atoiAll s with
     |Lib.NumEnd.ok n=>n
     |x=>(0:Int)))
   (Rt (dI 32) [])
   (Ow
    (((-9223372036854775808:Int) ≤
      match Lib.atoiAll s with
      |Lib.NumEnd.ok n=>n
      |x=>(0:Int)) ∧
     (match Lib.atoiAll s with
      |Lib.NumEnd.ok n=>n
      |x=>(0:Int)) ≤
      (9223372036854775807:Int))
    (brT
     (!decide
       (Lib.itoa
         (match Lib.atoiAll s with
         |Lib.NumEnd.ok n=>n
         |x=>(0:Int)) =
        s))
     (Rt (dI 32) []) (Rt (dI 0) [])))))
 (Ow (List.length s<=281474976710656) (Rt (dI 32) []))
theorem Z87 (s:LU):goT Tryz.prog (ctr libT) 0 (finF true 0 Zfj) 200 [Fr.sc Zez] {tm:=Zu 0 [dS s],ob:=[]}=ZaB s:=by kernel_rfl
theorem Z9m (s:LU) (hs:s.length<=281474976710656):FK 106 [.str s] (.int .i64 (Z9o s)):=by
 refine FnOK.tree Z5 Zjk (Z9 Z3 Z8) (Z87 s) ?_;unfold ZaB Z9o;cases h:Lib.atoiAll s with
 |ok n =>
  obtain⟨b,c⟩:=Lib.atoiAll_bounds h;simp only[Qw,Zs,Zn,hs,true_and];by_cases hm:2147483647<n<;>by_cases a:Lib.itoa n=s<;>simp[hm,a]<;>omega
 |_=>simp[Qw,Zs,Zn,hs]
end Go.Proofs.YtecgehidegnmnaaGreatDoor
/- next: one token. -/
namespace Go.Proofs.YtecgehidegnmnaaGreatDoor
open Go.Sx
def symP:PT:=λf xs=>match xs with
 |[.str s]=>if f=16 then some (.ok (s.length<=4611686018427387904) (.bool (ZM s)) []) else if f=84 then some (.ok (s.length<=4611686018427387904) (.bool (ZW s)) []) else none
 |_=>none
theorem ZdY:symP.OK:=by
 intro f xs rt h;unfold symP at h;split at h
 ·split at h
  ·rename_i hf;subst hf;cases h;exactλhp=>Z0T _ hp
  split at h
  ·rename_i hf;subst hf;cases h;exactλhp=>Z2C _ hp
  ·cases h
 ·cases h
noncomputable def ZjQ (s:LU):Tr:=brT (decide (s=[(110:UInt8),(111:UInt8),(116:UInt8)])) (Rt (D.tuple [dU 4,dI 0]) []) (Ow (List.length s<=4611686018427387904) (brT (ZM s) (Rt (D.tuple [dU 1,dI 0]) []) (Ow (List.length s<=4611686018427387904) (brT (ZW s) (Rt (D.tuple [dU 2,dI 0]) []) (Rt (D.tuple [dU 0,dI 31]) [])))))
theorem Zcr (s:LU):gP (ctr symP) Zfk ZeA [dS s]=ZjQ s:=by kernel_rfl
theorem ZdM (s:LU) (hl:s.length<=4611686018427387904):FK 105 [.str s] (.tuple [.int .u8 (Z0x s).1,.int .i64 (Z0x s).2]):=by
 refine FnOK.tree Z5 Zjl (Z9 ZdY Z8) (Zcr s) ?_;unfold ZjQ Z0x Lx.ZC;simp only[SS];refine⟨λh=>by rw[if_pos h],λh=>⟨hl,λh2=>by rw[if_neg h,if_pos h2],λh2=>⟨hl,λa=>by rw[if_neg h,if_neg (by simp[h2]),if_pos a],λa=>by rw[if_neg h,if_neg (by simp[h2]),if_neg (by simp[a])]⟩⟩⟩
def nxP:PT:=λf xs=>match xs with
 |[.str s]=>if f=105 then some (.ok (s.length<=4611686018427387904) (.tuple [.int .u8 (Z0x s).1,.int .i64 (Z0x s).2]) []) else if f=106 then some (.ok (s.length<=281474976710656) (.int .i64 (Lx.Z9o s)) []) else none
 |[.int .u8 b]=>clsP f [.int .u8 b]
 |[.slice es ext,.str t]=>if f=107 then some (.ok (es=strC (es.map deS)/\es.length<=4611686018427387904) (.bool (decide (t∈es.map deS))) []) else none
 |_=>none
theorem Z1n:nxP.OK:=by
 intro f xs rt h;unfold nxP at h;split at h
 ·split at h
  ·rename_i hf;subst hf;cases h;exactλhp=>ZdM _ hp
  split at h
  ·rename_i hf;subst hf;cases h;exactλhp=>Z9m _ hp
  ·cases h
 ·exact QU _ _ _ h
 ·rename_i es ext t;split at h
  ·rename_i hf;subst hf;cases h;rintro⟨a,hl⟩
   have:=Zdu (es.map deS) ext t (by simpa using hl);rwa [<- a] at this
  ·cases h
 ·cases h
def sgQ:QT:=λd xs ob=>match d,xs,ob with
 |.func (.func f) [] [],[.ptr 0 0],[(0,.cells [.str src,.int .i64 a])]=>if f=108 then some (.ok (0<=a/\a<=src.length/\src.length<=4611686018427387904) (.str (Qm (src.drop a.toNat))) [(0,.cells [.str src,.int .i64 ((a.toNat+(Qm (src.drop a.toNat)).length:Nat):Int)])])
  else if f=61 then some (.ok (0<=a/\a<=src.length/\src.length<=4611686018427387904) (.tuple []) [(0,.cells [.str src,.int .i64 (ZU src a.toNat:Nat)])]) else none
 |_,_,_=>none
theorem ZhD:sgQ.OK:=by
 intro d xs ob rt h;unfold sgQ at h;split at h
 ·rename_i f src a;split at h
  ·rename_i hf;subst hf;cases h;rintro⟨h0,h1,h2⟩
   have:=Ze6 src a.toNat (by omega) h2;rwa [Int.toNat_of_nonneg h0] at this
  split at h
  ·rename_i hf;subst hf;cases h;rintro⟨h0,h1,h2⟩
   have:=Ze4 src a.toNat (by omega) h2;rwa [Int.toNat_of_nonneg h0] at this
  ·cases h
 ·cases h
def nxQ:QT:=skQ.or sgQ
theorem Z2N:nxQ.OK:=QT.or_ok Z8F ZhD
theorem ZcR (src:LU) (a:Int):let A:=Int.toNat a;let B:=(Int.toNat (a+(1:Int)));let C:=(↑(UInt8.toNat (List.getD src A (0:UInt8))):Int);let E:=[(0,oC [dS src,dI (↑(Int.toNat a+List.length (Qm (List.drop A src))):Int)])];let F:=[[dS (deS [dS [35,99,111,110,115,116]])],[dS (deS [dS [35,115,104,111,119]])],[dS (deS [dS [35,109,105,110,105,109,105,122,101]])],[dS (deS [dS [35,99,111,117,110,116]])],[dS (deS [dS [35,115,117,109]])]];let G:=(↑(List.length src):Int);let H:=[deS [dS [35,99,111,110,115,116]],deS [dS [35,115,104,111,119]],deS [dS [35,109,105,110,105,109,105,122,101]],deS [dS [35,99,111,117,110,116]],deS [dS [35,115,117,109]]];let I:=[[dS [35,99,111,110,115,116]],[dS [35,115,104,111,119]],[dS [35,109,105,110,105,109,105,122,101]],[dS [35,99,111,117,110,116]],[dS [35,115,117,109]]];let J:=[dU 6,dS (Qm (List.drop A src)),dI a];let K:=Int.toNat C;let L:=[(35:UInt8)];let M:=Rt (D.tuple [dA J,dI 30]) E;let N:=Rt (D.tuple [dA J,dI 0]) E;let O:=List.drop A src;let P:=(a+(1:Int));gC (ctr nxP nxQ) 1 rs62 sc62 [] [dP 0 0] [] [(0,oC [dS src,dI a])]=(Ow ((0:Int)<=a/\a<G) (Ow ((0:Int)<=C/\C<(256:Int)) (brT (decide (cls K=(1:Int))) (brT (decide (cls K=(1:Int))) (Ow True (Ow ((0:Int)<=a/\a<=G/\List.length src<=4611686018427387904) (Ow (List.length (List.drop A (List.take (Zl (λb=>inC (7:Int) (UInt8.toNat b)) src A) src))<=4611686018427387904) (Rt (D.tuple [dA [dU (Prod.fst (Z0x (List.drop A (List.take (Zl (λb=>inC (7:Int) (UInt8.toNat b)) src A) src)))),dS (List.drop A (List.take (Zl (λb=>inC (7:Int) (UInt8.toNat b)) src A) src)),dI a],dI (Prod.snd (Z0x (List.drop A (List.take (Zl (λb=>inC (7:Int) (UInt8.toNat b)) src A) src))))]) [(0,oC [dS src,dI (↑(Zl (λb=>inC (7:Int) (UInt8.toNat b)) src A):Int)])])))) (brT (decide (cls K=(2:Int))) (Ow True (Ow ((0:Int)<=a/\a<=G/\List.length src<=4611686018427387904) (Ow (List.length (List.drop A (List.take (Zl (λb=>inC (2:Int) (UInt8.toNat b)) src A) src))<=281474976710656) (Rt (D.tuple [dA [dU 3,dS (List.drop A (List.take (Zl (λb=>inC (2:Int) (UInt8.toNat b)) src A) src)),dI a],dI (Lx.Z9o (List.drop A (List.take (Zl (λb=>inC (2:Int) (UInt8.toNat b)) src A) src)))]) [(0,oC [dS src,dI (↑(Zl (λb=>inC (2:Int) (UInt8.toNat b)) src A):Int)])])))) (brT (decide (cls K=(16:Int))) (I8 P (Ow True (Ow ((0:Int)<=a+(1:Int)/\a+(1:Int)<=G/\List.length src<=4611686018427387904) (Ow (1+List.length (List.drop B (List.take (Zl (λb=>inC (1:Int) (UInt8.toNat b)) src B) src))<=4611686018427387904) (Ow (I=F/\5<=4611686018427387904) (brT (!decide (L++List.drop B (List.take (Zl (λb=>inC (1:Int) (UInt8.toNat b)) src B) src)∈H)) (Rt (D.tuple [dA [dU 5,dS (L++List.drop B (List.take (Zl (λb=>inC (1:Int) (UInt8.toNat b)) src B) src)),dI a],dI 31]) [(0,oC [dS src,dI (↑(Zl (λb=>inC (1:Int) (UInt8.toNat b)) src B):Int)])]) (Rt (D.tuple [dA [dU 5,dS (L++List.drop B (List.take (Zl (λb=>inC (1:Int) (UInt8.toNat b)) src B) src)),dI a],dI 0]) [(0,oC [dS src,dI (↑(Zl (λb=>inC (1:Int) (UInt8.toNat b)) src B):Int)])]))))))) (Ow ((0:Int)<=a/\a<=G/\List.length src<=4611686018427387904) (brT (decide (Qm O=[])) M N))))) (brT (decide (cls K=(4:Int))) (Ow True (Ow ((0:Int)<=a/\a<=G/\List.length src<=4611686018427387904) (Ow (List.length (List.drop A (List.take (Zl (λb=>inC (7:Int) (UInt8.toNat b)) src A) src))<=4611686018427387904) (Rt (D.tuple [dA [dU (Prod.fst (Z0x (List.drop A (List.take (Zl (λb=>inC (7:Int) (UInt8.toNat b)) src A) src)))),dS (List.drop A (List.take (Zl (λb=>inC (7:Int) (UInt8.toNat b)) src A) src)),dI a],dI (Prod.snd (Z0x (List.drop A (List.take (Zl (λb=>inC (7:Int) (UInt8.toNat b)) src A) src))))]) [(0,oC [dS src,dI (↑(Zl (λb=>inC (7:Int) (UInt8.toNat b)) src A):Int)])])))) (brT (decide (cls K=(2:Int))) (Ow True (Ow ((0:Int)<=a/\a<=G/\List.length src<=4611686018427387904) (Ow (List.length (List.drop A (List.take (Zl (λb=>inC (2:Int) (UInt8.toNat b)) src A) src))<=281474976710656) (Rt (D.tuple [dA [dU 3,dS (List.drop A (List.take (Zl (λb=>inC (2:Int) (UInt8.toNat b)) src A) src)),dI a],dI (Lx.Z9o (List.drop A (List.take (Zl (λb=>inC (2:Int) (UInt8.toNat b)) src A) src)))]) [(0,oC [dS src,dI (↑(Zl (λb=>inC (2:Int) (UInt8.toNat b)) src A):Int)])])))) (brT (decide (cls K=(16:Int))) (I8 P (Ow True (Ow ((0:Int)<=a+(1:Int)/\a+(1:Int)<=G/\List.length src<=4611686018427387904) (Ow (1+List.length (List.drop B (List.take (Zl (λb=>inC (1:Int) (UInt8.toNat b)) src B) src))<=4611686018427387904) (Ow (I=F/\5<=4611686018427387904) (brT (!decide (L++List.drop B (List.take (Zl (λb=>inC (1:Int) (UInt8.toNat b)) src B) src)∈H)) (Rt (D.tuple [dA [dU 5,dS (L++List.drop B (List.take (Zl (λb=>inC (1:Int) (UInt8.toNat b)) src B) src)),dI a],dI 31]) [(0,oC [dS src,dI (↑(Zl (λb=>inC (1:Int) (UInt8.toNat b)) src B):Int)])]) (Rt (D.tuple [dA [dU 5,dS (L++List.drop B (List.take (Zl (λb=>inC (1:Int) (UInt8.toNat b)) src B) src)),dI a],dI 0]) [(0,oC [dS src,dI (↑(Zl (λb=>inC (1:Int) (UInt8.toNat b)) src B):Int)])]))))))) (Ow ((0:Int)<=a/\a<=G/\List.length src<=4611686018427387904) (brT (decide (Qm O=[])) M N))))))):Tr):=by intro A B C E F G H I J K L M N O P;kernel_rfl
theorem cls1:(λb:UInt8=>decide (cls b.toNat=1))=Z09:=Z02 (by kernel_rfl)
theorem cls4:(λb:UInt8=>decide (cls b.toNat=4))=QR:=Z02 (by kernel_rfl)
theorem cls2:(λb:UInt8=>decide (cls b.toNat=2))=Qx:=Z02 (by kernel_rfl)
theorem Zlw:(λb:UInt8=>decide (cls b.toNat=16))=(λb=>b == 35):=Z02 (by kernel_rfl)
def tokD (k:Int) (t:LU) (a:Int):D:=.agg [.int .u8 k,.str t,.int .i64 a]
theorem Zfy (src:LU) (a:Nat) (ha:a<src.length) (hl:src.length<=281474976710656):CF 62 [.ptr 0 0] [(0,.cells [.str src,.int .i64 a])]
  λr ob=>r=.tuple [tokD (tok (src.drop a)).1 (tok (src.drop a)).2.1 a,.int .i64 (tok (src.drop a)).2.2]/\ob=[(0,.cells [.str src,.int .i64 ((a+(tok (src.drop a)).2.1.length:Nat):Int)])]:=by
 refine CallL.tree Z5 fp62 (Z9 Z1n Z2N) (ZcR src a) ?_;have k:src.drop a=src.getD a 0::src.drop (a+1):=Z17 ha;generalize v:src.getD a 0=b at k;have h1:decide (cls b.toNat=1)=Z09 b:=congrFun cls1 b;have u:decide (cls b.toNat=4)=QR b:=congrFun cls4 b;have h2:decide (cls b.toNat=2)=Qx b:=congrFun cls2 b;have q:decide (cls b.toNat=16)=(b == 35):=congrFun Zlw b;have x: ∀ p,Zl p src a=a+((src.drop a).takeWhile p).length:=λp=>rfl;have e: ∀ p,Zl p src (a+1)=a+1+((src.drop (a+1)).takeWhile p).length:=λp=>rfl;have g: ∀ p,((src.drop a).takeWhile p).length<=src.length:=λp=>Nat.le_trans (List.takeWhile_sublist p).length_le (by rw[List.length_drop];omega);have n: ∀ p,((src.drop (a+1)).takeWhile p).length+1<=src.length:=λp=>by
  have:=(List.takeWhile_sublist (l:=src.drop (a+1)) p).length_le;rw[List.length_drop] at this;omega
 have t:((a:Int)+1).toNat=a+1:=by omega
 have w:=b.toNat_lt;simp only[Qw,Zs,Zn,Int.toNat_natCast,true_and,t,inC7,inC2,inC1,Z7E,h1,h2,u,q,v];refine⟨by omega,by omega,?_⟩;have c: ∀ (h:Z09 b=true\/QR b=true),tok (src.drop a)=((Z0x ((src.drop a).takeWhile Q0)).1,(src.drop a).takeWhile Q0,(Z0x ((src.drop a).takeWhile Q0)).2):=λh=>by
  rw[k];simp only[tok];rw[if_pos (by simpa using h)]
 have d:(0<=(a:Int)/\(a:Int)<=src.length/\src.length<=4611686018427387904):=⟨by omega,by omega,by omega⟩;refine⟨λi=>⟨λ_=>⟨d,Nat.le_trans (g _) (by omega),?_⟩,λh=>by simp[i] at h⟩,λi=>⟨λj=>⟨d,Nat.le_trans (g _) (by omega),?_⟩,λj=>⟨λo=>⟨d,Nat.le_trans (g _) (by omega),?_⟩,λo=>⟨λs=>⟨by omega,by omega,?_⟩,λs=>⟨d,?_⟩⟩⟩⟩⟩
 ·rw[c (.inl i)];exact⟨rfl,rfl⟩
 ·rw[c (.inr j)];exact⟨rfl,rfl⟩
 ·have m:tok (src.drop a)=(3,(src.drop a).takeWhile Qx,Lx.Z9o ((src.drop a).takeWhile Qx)):=by
   rw[k];simp only[tok];rw[if_neg (by simp[i,j]),if_pos o]
  rw[m];exact⟨rfl,rfl⟩
 ·have m:tok (src.drop a)=(5,35::(src.drop (a+1)).takeWhile Z09,if 35::(src.drop (a+1)).takeWhile Z09∈Zhh then 0 else 31):=by
   rw[k];simp only[tok];rw[if_neg (by simp[i,j]),if_neg (by simp[o]),if_pos s]
  rw[m];refine⟨Nat.le_trans (Nat.add_comm .. ▸ n _) (by omega),⟨rfl,by omega⟩,λhm=>?_,λhm=>?_⟩
  ·have f: ¬ 35::(src.drop (a+1)).takeWhile Z09∈Zhh:=of_decide_eq_false ((Bool.not_eq_true' _).mp hm);rw[if_neg f];refine⟨rfl,?_⟩;rw[e,List.length_cons,Nat.add_assoc,Nat.add_comm 1]
  ·have f:35::(src.drop (a+1)).takeWhile Z09∈Zhh:=of_decide_eq_true ((Bool.not_eq_false' _).mp hm);rw[if_pos f];refine⟨rfl,?_⟩;rw[e,List.length_cons,Nat.add_assoc,Nat.add_comm 1]
 ·have m:tok (src.drop a)=(6,Qm (src.drop a),if Qm (src.drop a)=[] then 30 else 0):=by
   rw[k];simp only[tok];rw[if_neg (by simp[i,j]),if_neg (by simp[o]),if_neg (by simp[s])]
  rw[m];simp only[decide_eq_true_eq,decide_eq_false_iff_not];exact⟨λh=>by rw[if_pos h];exact⟨rfl,trivial⟩,λh=>by rw[if_neg h];exact⟨rfl,trivial⟩⟩
end Go.Proofs.YtecgehidegnmnaaGreatDoor
/- all and Lex. -/
namespace Go.Proofs.YtecgehidegnmnaaGreatDoor
open Go.Sx
theorem Zhd (src:LU) (a:Int):let A:=(0,oC [dS src,dI a]);gC (ctr nxP nxQ) 1 rs31 sc31 [] [dP 0 0] [] [A]=(Rt (dF 60 [] [dP 1 0]) [A,(1,oC [dP 0 0])]:Tr):=by intro A;kernel_rfl
def dsL (src:LU):List D:=[.func (.func 60) [] [.ptr 0 0],.ptr 2 0,.ptr 2 0,.ptr 2 0,.agg [.str src,.int .i64 0],.agg [.str src,.int .i64 0],.str src,.bool (decide (32768<(src.length:Int))),.int .i64 src.length,.str src,.ptr 3 0,.ptr 4 0,.ptr 5 0,.str src]
def Z7Q:List Nat:=[16,15,5,14,13,12,11,10,9,8,4,3,2,0]
def recL (src:LU) (st:LoopState) (pend:Option Code):Ob:=.gen (.loop st pend #[17,18] (sc11.rngA 0) (sc11.rngB 0) 29 Z7Q) (dsL src)
def obN (src:LU) (i a e:Int) (st:LoopState) (pend:Option Code):Obs:=[(0,.cells [.ptr 2 0]),(1,recL src st pend),(2,.cells [.str src,.int .i64 i]),(3,.cells [.int .i64 e]),(4,.cells [.int .i64 a]),(5,.cells [.nils])]
def obV (src:LU) (i a e:Int) (st:LoopState) (pend:Option Code) (acc:LD):Obs:=[(0,.cells [.ptr 2 0]),(1,recL src st pend),(2,.cells [.str src,.int .i64 i]),(3,.cells [.int .i64 e]),(4,.cells [.int .i64 a]),(5,.cells [.vec 6]),(6,.arr true 3 47 acc)]
def dsY (src:LU):List D:=[.func (.func 60) [] [.ptr 1 0],.ptr 2 0,.ptr 2 0,.ptr 2 0,.agg [.str src,.int .i64 0],.agg [.str src,.int .i64 0],.str src,.bool (decide (32768<(src.length:Int))),.int .i64 src.length,.str src,.ptr 3 0,.ptr 4 0,.ptr 5 0,.str src]
def recY (src:LU) (st:LoopState) (pend:Option Code):Ob:=.gen (.loop st pend #[17,18] (sc11.rngA 0) (sc11.rngB 0) 29 Z7Q) (dsY src)
theorem Zdw (src t:LU) (i a e k b c:Int) (acc:LD):let A:=(↑(List.length src):Int);let B:=(2,oC [dS src,dI i]);let C:=[dS src,dI 0];let E:=SC.rngA sc11 0;let F:=SC.rngB sc11 0;let G:=(1,oC [dP 2 0]);let H:=(6,oR true 3 47 acc);let I:=[[dU k,dS t,dI b]];let J:=(3,oC [dI e]);let K:=(4,oC [dI a]);let L:=(32768:Int);yldT Tryz.prog (ctr nxP nxQ) 7 0 29 #[17,18] E F Z7Q (dsY src) 2000 {tm:=putP (List.zip [17,18] [tokD k t b,dI c]) (List.zip Z7Q (dsY src)),ob:=[G,B,J,K,(5,oC [dV 6]),H]}=(brT (!decide (c=(0:Int))) (Rt (dB false) [(0,Ob.gen (Gen.loop LoopState.done (some Code.ret) #[17,18] E F 29 [16,15,5,14,13,12,11,10,9,8,4,3,2,0]) [dF 60 [] [dP 1 0],dP 2 0,dP 2 0,dP 2 0,dA C,dA C,dS src,dB (decide (L<A)),dI A,dS src,dP 3 0,dP 4 0,dP 5 0,dS src]),G,B,(3,oC [dI c]),(4,oC [dI b]),(5,oC [D.nils]),H]) (Ow (Zk 3 I/\List.length acc+1<=1073741824) (Rt (dB true) [(0,Ob.gen (Gen.loop LoopState.ready none #[17,18] E F 29 [16,15,5,14,13,12,11,10,9,8,4,3,2,0]) [dF 60 [] [dP 1 0],dP 2 0,dP 2 0,dP 2 0,dA C,dA C,dS src,dB (decide (L<A)),dI A,dS src,dP 3 0,dP 4 0,dP 5 0,dS src]),G,B,J,K,(5,oC [dV 7]),(7,oR true 3 47 (acc++I))])):Tr):=by intro A B C E F G H I J K L;kernel_rfl
theorem Zdx (src t:LU) (i a e k b c:Int):let A:=(↑(List.length src):Int);let B:=(2,oC [dS src,dI i]);let C:=[dS src,dI 0];let E:=SC.rngA sc11 0;let F:=SC.rngB sc11 0;let G:=(1,oC [dP 2 0]);let H:=[[dU k,dS t,dI b]];let I:=(5,oC [D.nils]);let J:=(3,oC [dI e]);let K:=(4,oC [dI a]);let L:=(32768:Int);yldT Tryz.prog (ctr nxP nxQ) 6 0 29 #[17,18] E F Z7Q (dsY src) 2000 {tm:=putP (List.zip [17,18] [tokD k t b,dI c]) (List.zip Z7Q (dsY src)),ob:=[G,B,J,K,I]}=(brT (!decide (c=(0:Int))) (Rt (dB false) [(0,Ob.gen (Gen.loop LoopState.done (some Code.ret) #[17,18] E F 29 [16,15,5,14,13,12,11,10,9,8,4,3,2,0]) [dF 60 [] [dP 1 0],dP 2 0,dP 2 0,dP 2 0,dA C,dA C,dS src,dB (decide (L<A)),dI A,dS src,dP 3 0,dP 4 0,dP 5 0,dS src]),G,B,(3,oC [dI c]),(4,oC [dI b]),I]) (Ow (Zk 3 H/\1<=1073741824) (Rt (dB true) [(0,Ob.gen (Gen.loop LoopState.ready none #[17,18] E F 29 [16,15,5,14,13,12,11,10,9,8,4,3,2,0]) [dF 60 [] [dP 1 0],dP 2 0,dP 2 0,dP 2 0,dA C,dA C,dS src,dB (decide (L<A)),dI A,dS src,dP 3 0,dP 4 0,dP 5 0,dS src]),G,B,J,K,(5,oC [dV 6]),(6,oR true 3 47 H)])):Tr):=by intro A B C E F G H I J K L;kernel_rfl
def yldQ:QT:=λd xs ob=>match d,xs,ob with
 |.yld 0,[.agg [.int .u8 k,.str t,.int .i64 b],.int .i64 c],[(0,.gen g ds),(1,.cells [.ptr 2 0]),(2,.cells [.str src,.int .i64 i]),(3,.cells [.int .i64 e]),(4,.cells [.int .i64 a]),(5,.cells [.vec 6]),(6,.arr true 3 T acc)] =>
  some (.br (decide (c=0)) (.ok ((Ob.gen g ds=recY src .ready none/\T=47)/\acc.length+1<=1073741824) (.bool true) [(0,recY src .ready none),(1,.cells [.ptr 2 0]),(2,.cells [.str src,.int .i64 i]),(3,.cells [.int .i64 e]),(4,.cells [.int .i64 a]),(5,.cells [.vec 7]),(7,.arr true 3 T (acc++[[.int .u8 k,.str t,.int .i64 b]]))])
   (.ok (Ob.gen g ds=recY src .ready none/\T=47) (.bool false) [(0,recY src .done (some .ret)),(1,.cells [.ptr 2 0]),(2,.cells [.str src,.int .i64 i]),(3,.cells [.int .i64 c]),(4,.cells [.int .i64 b]),(5,.cells [.nils]),(6,.arr true 3 T acc)]))
 |.yld 0,[.agg [.int .u8 k,.str t,.int .i64 b],.int .i64 c],[(0,.gen g ds),(1,.cells [.ptr 2 0]),(2,.cells [.str src,.int .i64 i]),(3,.cells [.int .i64 e]),(4,.cells [.int .i64 a]),(5,.cells [.nils])] =>
  some (.br (decide (c=0)) (.ok (Ob.gen g ds=recY src .ready none) (.bool true) [(0,recY src .ready none),(1,.cells [.ptr 2 0]),(2,.cells [.str src,.int .i64 i]),(3,.cells [.int .i64 e]),(4,.cells [.int .i64 a]),(5,.cells [.vec 6]),(6,.arr true 3 47 [[.int .u8 k,.str t,.int .i64 b]])])
   (.ok (Ob.gen g ds=recY src .ready none) (.bool false) [(0,recY src .done (some .ret)),(1,.cells [.ptr 2 0]),(2,.cells [.str src,.int .i64 i]),(3,.cells [.int .i64 c]),(4,.cells [.int .i64 b]),(5,.cells [.nils])]))
 |_,_,_=>none
theorem ZdI:yldQ.OK:=by
 intro d xs ob rt h;unfold yldQ at h;split at h
 ·rename_i k t f b g ds src i e a T acc;cases h;cases j:decide (b=0) with
  |true =>
   rintro⟨⟨c,rfl⟩,hl⟩;rw[c];refine CallL.yldT Z5 (Z9 Z1n Z2N) rfl (Zdw src t i a e k f b acc) ?_;rw[Qw,Zs,Zn,Zn,j];exact⟨λh=>(by cases h),λ_=>⟨⟨Z0d.2 ⟨rfl,Z1k _⟩,hl⟩,rfl,rfl⟩⟩
  |false =>
   rintro⟨c,rfl⟩;rw[c];refine CallL.yldT Z5 (Z9 Z1n Z2N) rfl (Zdw src t i a e k f b acc) ?_;rw[Qw,Zs,Zn,Zn,j];exact⟨λ_=>⟨rfl,rfl⟩,λh=>(by cases h)⟩
 ·rename_i k t f b g ds src i e a;cases h;cases j:decide (b=0) with
  |true =>
   rintro c;rw[c];refine CallL.yldT Z5 (Z9 Z1n Z2N) rfl (Zdx src t i a e k f b) ?_;rw[Qw,Zs,Zn,Zn,j];exact⟨λh=>(by cases h),λ_=>⟨⟨Z0d.2 ⟨rfl,Z1k _⟩,by decide⟩,rfl,rfl⟩⟩
  |false =>
   rintro c;rw[c];refine CallL.yldT Z5 (Z9 Z1n Z2N) rfl (Zdx src t i a e k f b) ?_;rw[Qw,Zs,Zn,Zn,j];exact⟨λ_=>⟨rfl,rfl⟩,λh=>(by cases h)⟩
 ·cases h
def Zfz:QT:=λd xs ob=>match d,xs,ob with
 |.func (.func f) [] [],[.ptr 0 0],[(0,.cells [.str src,.int .i64 a])]=>if f=62 then some (.ok (0<=a/\a<src.length/\src.length<=281474976710656) (.tuple [.agg [.int .u8 (tok (src.drop a.toNat)).1,.str (tok (src.drop a.toNat)).2.1,.int .i64 a],.int .i64 (tok (src.drop a.toNat)).2.2]) [(0,.cells [.str src,.int .i64 ((a.toNat+(tok (src.drop a.toNat)).2.1.length:Nat):Int)])]) else none
 |_,_,_=>none
theorem ZbL:Zfz.OK:=by
 intro d xs ob rt h;unfold Zfz at h;split at h
 ·rename_i f src a;split at h
  ·rename_i hf;subst hf;cases h;rintro⟨h0,h1,h2⟩
   have:=Zfy src a.toNat (by omega) h2;rwa [Int.toNat_of_nonneg h0] at this
  ·cases h
 ·cases h
def alQ:QT:=(nxQ.or Zfz).or yldQ
theorem Zay:alQ.OK:=QT.or_ok (QT.or_ok Z2N ZbL) ZdI
theorem Zkn (src:LU) (i a e:Int):let A:=(↑(List.length src):Int);let B:=[dS src,dI 0];gC (ctr nxP alQ) 6 rs60 sc60 [] [D.yld 1] [dP 0 0] (obN src i a e LoopState.ready none)=(Ow ((0:Int)<=i/\i<=A/\List.length src<=4611686018427387904) (Jm (cut sc60 0) {tm:=[(0,D.yld 1),(1,dP 0 0)],ob:=[(0,oC [dP 2 0]),(1,Ob.gen (Gen.loop LoopState.ready none #[17,18] (SC.rngA sc11 0) (SC.rngB sc11 0) 29 [16,15,5,14,13,12,11,10,9,8,4,3,2,0]) [dF 60 [] [dP 0 0],dP 2 0,dP 2 0,dP 2 0,dA B,dA B,dS src,dB (decide ((32768:Int)<A)),dI A,dS src,dP 3 0,dP 4 0,dP 5 0,dS src]),(2,oC [dS src,dI (↑(ZU src (Int.toNat i)):Int)]),(3,oC [dI e]),(4,oC [dI a]),(5,oC [D.nils])]}):Tr):=by intro A B;kernel_rfl
def hdA (ob:Obs):St:=⟨[(0,.yld 1),(1,.ptr 0 0)],ob⟩
theorem Zkm (src:LU) (i a e:Int):let A:=Prod.snd (tok (List.drop (Int.toNat i) src));let B:=(↑(List.length src):Int);let C:=[dS src,dI 0];let E:=(↑(Int.toNat i+List.length (Prod.fst A)):Int);let F:=SC.rngA sc11 0;let G:=SC.rngB sc11 0;let H:=(6,oR true 3 47 [[dU (Prod.fst (tok (List.drop (Int.toNat i) src))),dS (Prod.fst A),dI i]]);let I:=(32768:Int);let J:=(0,oC [dP 2 0]);let K:=(3,oC [dI e]);let L:=(4,oC [dI a]);let M:=D.tuple [];let N:=(2,oC [dS src,dI E]);let O:=(5,oC [D.nils]);let P:=(5,oC [dV 6]);let Q:=cut sc60 0;gH (ctr nxP alQ) 6 false rs60 Q (hdA (obN src i a e LoopState.ready none))=(brT (decide (i<B)) (Ow ((0:Int)<=i/\i<B/\List.length src<=281474976710656) (brT (decide (Prod.snd A=(0:Int))) (Ow (Ob.gen (Gen.loop LoopState.ready none #[17,18] F G 29 [16,15,5,14,13,12,11,10,9,8,4,3,2,0]) [dF 60 [] [dP 1 0],dP 2 0,dP 2 0,dP 2 0,dA C,dA C,dS src,dB (decide (I<B)),dI B,dS src,dP 3 0,dP 4 0,dP 5 0,dS src]=Ob.gen (Gen.loop LoopState.ready none #[17,18] F G 29 [16,15,5,14,13,12,11,10,9,8,4,3,2,0]) [dF 60 [] [dP 1 0],dP 2 0,dP 2 0,dP 2 0,dA C,dA C,dS src,dB (decide (I<B)),dI B,dS src,dP 3 0,dP 4 0,dP 5 0,dS src]) (brT (!decide (Prod.snd A=(0:Int))) (Rt M [J,(1,Ob.gen (Gen.loop LoopState.ready none #[17,18] F G 29 [16,15,5,14,13,12,11,10,9,8,4,3,2,0]) [dF 60 [] [dP 0 0],dP 2 0,dP 2 0,dP 2 0,dA C,dA C,dS src,dB (decide (I<B)),dI B,dS src,dP 3 0,dP 4 0,dP 5 0,dS src]),N,K,L,P,H]) (Ow ((0:Int)<=E/\E<=B/\List.length src<=4611686018427387904) (Jm Q {tm:=[(0,D.yld 1),(1,dP 0 0)],ob:=[J,(1,Ob.gen (Gen.loop LoopState.ready none #[17,18] F G 29 [16,15,5,14,13,12,11,10,9,8,4,3,2,0]) [dF 60 [] [dP 0 0],dP 2 0,dP 2 0,dP 2 0,dA C,dA C,dS src,dB (decide (I<B)),dI B,dS src,dP 3 0,dP 4 0,dP 5 0,dS src]),(2,oC [dS src,dI (↑(ZU src (Int.toNat E)):Int)]),K,L,P,H]})))) (Ow (Ob.gen (Gen.loop LoopState.ready none #[17,18] F G 29 [16,15,5,14,13,12,11,10,9,8,4,3,2,0]) [dF 60 [] [dP 1 0],dP 2 0,dP 2 0,dP 2 0,dA C,dA C,dS src,dB (decide (I<B)),dI B,dS src,dP 3 0,dP 4 0,dP 5 0,dS src]=Ob.gen (Gen.loop LoopState.ready none #[17,18] F G 29 [16,15,5,14,13,12,11,10,9,8,4,3,2,0]) [dF 60 [] [dP 1 0],dP 2 0,dP 2 0,dP 2 0,dA C,dA C,dS src,dB (decide (I<B)),dI B,dS src,dP 3 0,dP 4 0,dP 5 0,dS src]) (Rt M [J,(1,Ob.gen (Gen.loop LoopState.done (some Code.ret) #[17,18] F G 29 [16,15,5,14,13,12,11,10,9,8,4,3,2,0]) [dF 60 [] [dP 0 0],dP 2 0,dP 2 0,dP 2 0,dA C,dA C,dS src,dB (decide (I<B)),dI B,dS src,dP 3 0,dP 4 0,dP 5 0,dS src]),N,(3,oC [dI (Prod.snd A)]),(4,oC [dI i]),O])))) (Rt M [J,(1,Ob.gen (Gen.loop LoopState.ready none #[17,18] F G 29 [16,15,5,14,13,12,11,10,9,8,4,3,2,0]) [dF 60 [] [dP 0 0],dP 2 0,dP 2 0,dP 2 0,dA C,dA C,dS src,dB (decide (I<B)),dI B,dS src,dP 3 0,dP 4 0,dP 5 0,dS src]),(2,oC [dS src,dI i]),K,L,O]):Tr):=by intro A B C E F G H I J K L M N O P Q;kernel_rfl
theorem Zkl (src:LU) (i a e:Int) (acc:LD):let A:=Prod.snd (tok (List.drop (Int.toNat i) src));let B:=(↑(List.length src):Int);let C:=[dS src,dI 0];let E:=(↑(Int.toNat i+List.length (Prod.fst A)):Int);let F:=SC.rngA sc11 0;let G:=SC.rngB sc11 0;let H:=(6,oR true 3 47 (acc++[[dU (Prod.fst (tok (List.drop (Int.toNat i) src))),dS (Prod.fst A),dI i]]));let I:=(32768:Int);let J:=(0,oC [dP 2 0]);let K:=(3,oC [dI e]);let L:=(4,oC [dI a]);let M:=(5,oC [dV 6]);let N:=D.tuple [];let O:=(2,oC [dS src,dI E]);let P:=cut sc60 0;gH (ctr nxP alQ) 6 false rs60 P (hdA (obV src i a e LoopState.ready none acc))=(brT (decide (i<B)) (Ow ((0:Int)<=i/\i<B/\List.length src<=281474976710656) (brT (decide (Prod.snd A=(0:Int))) (Ow ((Ob.gen (Gen.loop LoopState.ready none #[17,18] F G 29 [16,15,5,14,13,12,11,10,9,8,4,3,2,0]) [dF 60 [] [dP 1 0],dP 2 0,dP 2 0,dP 2 0,dA C,dA C,dS src,dB (decide (I<B)),dI B,dS src,dP 3 0,dP 4 0,dP 5 0,dS src]=Ob.gen (Gen.loop LoopState.ready none #[17,18] F G 29 [16,15,5,14,13,12,11,10,9,8,4,3,2,0]) [dF 60 [] [dP 1 0],dP 2 0,dP 2 0,dP 2 0,dA C,dA C,dS src,dB (decide (I<B)),dI B,dS src,dP 3 0,dP 4 0,dP 5 0,dS src]/\47=47)/\List.length acc+1<=1073741824) (brT (!decide (Prod.snd A=(0:Int))) (Rt N [J,(1,Ob.gen (Gen.loop LoopState.ready none #[17,18] F G 29 [16,15,5,14,13,12,11,10,9,8,4,3,2,0]) [dF 60 [] [dP 0 0],dP 2 0,dP 2 0,dP 2 0,dA C,dA C,dS src,dB (decide (I<B)),dI B,dS src,dP 3 0,dP 4 0,dP 5 0,dS src]),O,K,L,M,H]) (Ow ((0:Int)<=E/\E<=B/\List.length src<=4611686018427387904) (Jm P {tm:=[(0,D.yld 1),(1,dP 0 0)],ob:=[J,(1,Ob.gen (Gen.loop LoopState.ready none #[17,18] F G 29 [16,15,5,14,13,12,11,10,9,8,4,3,2,0]) [dF 60 [] [dP 0 0],dP 2 0,dP 2 0,dP 2 0,dA C,dA C,dS src,dB (decide (I<B)),dI B,dS src,dP 3 0,dP 4 0,dP 5 0,dS src]),(2,oC [dS src,dI (↑(ZU src (Int.toNat E)):Int)]),K,L,M,H]})))) (Ow (Ob.gen (Gen.loop LoopState.ready none #[17,18] F G 29 [16,15,5,14,13,12,11,10,9,8,4,3,2,0]) [dF 60 [] [dP 1 0],dP 2 0,dP 2 0,dP 2 0,dA C,dA C,dS src,dB (decide (I<B)),dI B,dS src,dP 3 0,dP 4 0,dP 5 0,dS src]=Ob.gen (Gen.loop LoopState.ready none #[17,18] F G 29 [16,15,5,14,13,12,11,10,9,8,4,3,2,0]) [dF 60 [] [dP 1 0],dP 2 0,dP 2 0,dP 2 0,dA C,dA C,dS src,dB (decide (I<B)),dI B,dS src,dP 3 0,dP 4 0,dP 5 0,dS src]/\47=47) (Rt N [J,(1,Ob.gen (Gen.loop LoopState.done (some Code.ret) #[17,18] F G 29 [16,15,5,14,13,12,11,10,9,8,4,3,2,0]) [dF 60 [] [dP 0 0],dP 2 0,dP 2 0,dP 2 0,dA C,dA C,dS src,dB (decide (I<B)),dI B,dS src,dP 3 0,dP 4 0,dP 5 0,dS src]),O,(3,oC [dI (Prod.snd A)]),(4,oC [dI i]),(5,oC [D.nils])])))) (Rt N [J,(1,Ob.gen (Gen.loop LoopState.ready none #[17,18] F G 29 [16,15,5,14,13,12,11,10,9,8,4,3,2,0]) [dF 60 [] [dP 0 0],dP 2 0,dP 2 0,dP 2 0,dA C,dA C,dS src,dB (decide (I<B)),dI B,dS src,dP 3 0,dP 4 0,dP 5 0,dS src]),(2,oC [dS src,dI i]),K,L,M,(6,oR true 3 47 acc)]):Tr):=by intro A B C E F G H I J K L M N O P;kernel_rfl
def obA (src:LU) (i a e:Int) (acc:List Tk):Obs:=match acc with
 |[]=>obN src i a e .ready none
 |t::r=>obV src i a e .ready none ((t::r).map Zo)
def outA (src:LU) (a e:Int) (acc:List Tk) (r:List Tk × Option (Nat × Int) × Nat):Obs:=match r.2.1 with
 |some (b,c)=>obN src r.2.2 b c .done (some .ret)
 |none=>obA src r.2.2 a e (acc++r.1)
theorem ZjK (src:LU) (a e:Int) (hl:src.length<=281474976710656): ∀ (f i:Nat) (acc:List Tk),src.length-i<f->i<=src.length->acc.length+(src.length-i)<=1073741824 →
  At Tryz.prog 6 (cut sc60 0) (hdA (obA src i a e acc)) (FinQ false 6 rs60 λr ob=>r=.tuple []/\ob=outA src a e acc (Z1p f i (src.drop i))):=by
 intro f;induction f with
 |zero=>intro i acc hf hi m;omega
 |succ f o =>
  intro i acc hf hi m;have g: ¬ (i<src.length)->Z1p (f+1) i (src.drop i)=([],none,i):=λh=>by
   rw[List.drop_eq_nil_of_le (by omega)];rfl
  have c:i<src.length->Z1p (f+1) i (src.drop i)=if (tok (src.drop i)).2.2=0 then
    (((tok (src.drop i)).1,(tok (src.drop i)).2.1,(i:Int))::(Z1p f (ZU src (i+(tok (src.drop i)).2.1.length)) (src.drop (ZU src (i+(tok (src.drop i)).2.1.length)))).1,
     (Z1p f (ZU src (i+(tok (src.drop i)).2.1.length)) (src.drop (ZU src (i+(tok (src.drop i)).2.1.length)))).2)
    else ([],some (i,(tok (src.drop i)).2.2),i+(tok (src.drop i)).2.1.length):=λh=>by
   rw[Z17 (d:=0) h];simp only[Z1p];rw[<- Z17 (d:=0) h,List.drop_drop,List.drop_drop];unfold ZU;rw[Nat.add_assoc i]
  have j:=Lx.Z5n (src.drop i);rw[List.length_drop] at j;have k:i<src.length->src.drop i≠[]:=λh b=>by
   have:=congrArg List.length b;rw[List.length_drop] at this;simp at this;omega
  have l:=Z3x (s:=src) (i:=i+(tok (src.drop i)).2.1.length) (by omega);have n:i+(tok (src.drop i)).2.1.length<=ZU src (i+(tok (src.drop i)).2.1.length):=by unfold ZU;omega
  cases acc with
  |nil =>
   refine At.tree (Z9 Z1n Zay) (Zkm src i a e) ?_;simp only[Qw,Zs,Zn,Z0r,decide_eq_true_eq,decide_eq_false_iff_not,Int.toNat_natCast,true_and,Bool.not_eq_true',Bool.not_eq_false',Int.ofNat_lt];refine⟨λh=>⟨⟨by omega,h,hl⟩,λb=>⟨λh'=>absurd b h',λ_=>⟨by omega,?_⟩⟩,λb=>?_⟩,λh=>?_⟩
   ·have hp:=Z0R (k h) b
    have:=o (ZU src (i+(tok (src.drop i)).2.1.length)) [((tok (src.drop i)).1,(tok (src.drop i)).2.1,(i:Int))] (by omega) l (by simp only[List.length_cons,List.length_nil] at m ⊢;omega);rw[c h,if_pos b];exact this
   ·rw[c h,if_neg b];rfl
   ·rw[g h];rfl
  |cons t r =>
   refine At.tree (Z9 Z1n Zay) (Zkl src i a e ((t::r).map Zo)) ?_;simp only[Qw,Zs,Zn,Z0r,decide_eq_true_eq,decide_eq_false_iff_not,Int.toNat_natCast,true_and,Bool.not_eq_true',Bool.not_eq_false',Int.ofNat_lt,List.length_map];refine⟨λh=>⟨⟨by omega,h,hl⟩,λb=>⟨by simp only[List.length_cons] at m ⊢;omega,λh'=>absurd b h',λ_=>⟨by omega,?_⟩⟩,λb=>?_⟩,λh=>?_⟩
   ·have hp:=Z0R (k h) b
    have:=o (ZU src (i+(tok (src.drop i)).2.1.length)) (t::r++[((tok (src.drop i)).1,(tok (src.drop i)).2.1,(i:Int))]) (by omega) l (by simp only[List.length_cons,List.length_append,List.length_nil] at m ⊢;omega);rw[c h,if_pos b];simp only[outA,List.append_assoc,List.cons_append,List.nil_append] at this ⊢;simp only[obA,List.map_cons,List.map_append,List.cons_append] at this ⊢;exact this
   ·rw[c h,if_neg b];rfl
   ·rw[g h];simp only[outA,List.append_nil];rfl
def runA (src:LU) (i:Nat):List Tk × Option (Nat × Int) × Nat:=Z1p (src.length+1) (ZU src i) (src.drop (ZU src i))
theorem Zgo (src:LU) (i:Nat) (a e:Int) (hi:i<=src.length) (hl:src.length<=1073741824):CallL Tryz.prog (.func (.func 60) [] [.ptr 0 0]) [.yld 1] (obN src i a e .ready none)
  λr ob=>r=.tuple []/\ob=outA src a e [] (runA src i):=by
 refine CallL.tree Z5 fp60 (Z9 Z1n Zay) (Zkn src i a e) ?_;simp only[Zs,Z0r,Int.toNat_natCast]
 have:=Z3x hi;exact⟨⟨by omega,by omega,by omega⟩,ZjK src a e (by omega) _ (ZU src i) [] (by omega) this (by simp only[List.length_nil];omega)⟩
def a1Q:QT:=λd xs ob=>match d,xs,ob with
 |.func (.func f) [] [.ptr 0 0],[.yld 1],[(0,.cells [.ptr 2 0]),(1,.gen g ds),(2,.cells [.str src,.int .i64 i]),(3,.cells [.int .i64 e]),(4,.cells [.int .i64 a]),(5,.cells [.nils])]=>if f=60 then
   some (.br (runA src i.toNat).2.1.isSome (.ok (Ob.gen g ds=recL src .ready none/\0<=i/\i<=src.length/\src.length<=1073741824) (.tuple []) (obN src (runA src i.toNat).2.2 ((runA src i.toNat).2.1.getD (0,0)).1 ((runA src i.toNat).2.1.getD (0,0)).2 .done (some .ret)))
    (.br (decide ((runA src i.toNat).1=[])) (.ok (Ob.gen g ds=recL src .ready none/\0<=i/\i<=src.length/\src.length<=1073741824) (.tuple []) (obN src (runA src i.toNat).2.2 a e .ready none))
     (.ok (Ob.gen g ds=recL src .ready none/\0<=i/\i<=src.length/\src.length<=1073741824) (.tuple []) (obV src (runA src i.toNat).2.2 a e .ready none ((runA src i.toNat).1.map Zo))))) else none
 |.func (.func f) [] [],[.ptr 0 0],[(0,.cells [.str src,.int .i64 i])]=>if f=31 then some (.ok True (.func (.func 60) [] [.ptr 1 0]) [(0,.cells [.str src,.int .i64 i]),(1,.cells [.ptr 0 0])]) else none
 |_,_,_=>none
theorem ZjL:a1Q.OK:=by
 intro d xs ob rt h;unfold a1Q at h;split at h
 ·rename_i f g ds src i e a;split at h
  ·rename_i hf;subst hf;cases h;have key:Ob.gen g ds=recL src .ready none->0<=i->i<=src.length->src.length<=1073741824->CallL Tryz.prog (.func (.func 60) [] [.ptr 0 0]) [.yld 1] [(0,.cells [.ptr 2 0]),(1,.gen g ds),(2,.cells [.str src,.int .i64 i]),(3,.cells [.int .i64 e]),(4,.cells [.int .i64 a]),(5,.cells [.nils])]
     λr ob=>r=.tuple []/\ob=outA src a e [] (runA src i.toNat):=λb h0 h1 h2=>by
    rw[b]
    have:=Zgo src i.toNat a e (by omega) h2;rw[Int.toNat_of_nonneg h0] at this;exact this
   unfold outA at key;cases hs:(runA src i.toNat).2.1 with
   |some x =>
    rw[hs] at key;exactλhp=>key hp.1 hp.2.1 hp.2.2.1 hp.2.2.2
   |none =>
    rw[hs] at key;simp only[List.nil_append] at key;cases hr:(runA src i.toNat).1 with
    |nil =>
     rw[hr] at key;exactλhp=>key hp.1 hp.2.1 hp.2.2.1 hp.2.2.2
    |cons t r =>
     rw[hr] at key;exactλhp=>key hp.1 hp.2.1 hp.2.2.1 hp.2.2.2
  ·cases h
 ·rename_i f src i;split at h
  ·rename_i hf;subst hf;cases h;intro _;exact CallL.tree Z5 fp31 (Z9 Z1n Z2N) (Zhd src i) ⟨rfl,rfl⟩
  ·cases h
 ·cases h
theorem ZgP (src:LU):let A:=SC.block 1 (SC.seq (SC.seq (SC.reg [so 19 AOp.mv [xt 7],so 20 (AOp.bin BinOp.neq) [xt 19,xc (dI 0)]]) (SC.cond (xt 20) (SC.seq (SC.drw [0,1,0,0,11,31] [so 21 (AOp.faddr 2) [xt 6],so 22 (AOp.load false 1) [xt 21],so 23 AOp.mv [xt 7],SOp.st none (SK.c 1) (xt 2) (xc D.nils),SOp.st none (SK.c 1) (xt 3) (xt 22),SOp.st none (SK.c 1) (xt 4) (xt 23)]) SC.ret) SC.skip)) (SC.reg [so 24 (AOp.load false 1) [xt 2],so 25 (AOp.load true 3) [xt 6],so 26 (AOp.bslice true 3 1 47 [dU 0,dS [],dI 0] [(0,3)]) [xt 25],SOp.app 27 none true 3 47 (xt 24) (xt 26),SOp.st none (SK.c 1) (xt 2) (xt 27)]));let B:=(↑(List.length src):Int);let C:=SC.seq (SC.reg [so 6 (AOp.alloc [dU 0,dS [],dI 0]) [],SOp.st none (SK.c 3) (xt 6) (xt 17)]) (SC.reg [so 7 AOp.mv [xt 18]]);let E:=[dS src,dI 0];let F:=Prod.fst (Prod.snd (runA src 0));let G:=(32768:Int);let H:=SC.rngA sc11 0;let I:=SC.rngB sc11 0;let J:=(Option.getD F (0,(0:Int)));let K:=runA src 0;gP (ctr nxP a1Q) rs11 sc11 [dS src]=(brT (decide (G<B)) (Rt (D.tuple [dL [] [],dI 0,dI 3]) []) (Ow True (brT (Option.isSome F) (Ow (Ob.gen (Gen.loop LoopState.ready none #[17,18] C A 29 [16,15,5,14,13,12,11,10,9,8,4,3,2,0]) [dF 60 [] [dP 0 0],dP 2 0,dP 2 0,dP 2 0,dA E,dA E,dS src,dB (decide (G<B)),dI B,dS src,dP 3 0,dP 4 0,dP 5 0,dS src]=Ob.gen (Gen.loop LoopState.ready none #[17,18] H I 29 [16,15,5,14,13,12,11,10,9,8,4,3,2,0]) [dF 60 [] [dP 0 0],dP 2 0,dP 2 0,dP 2 0,dA E,dA E,dS src,dB (decide (G<B)),dI B,dS src,dP 3 0,dP 4 0,dP 5 0,dS src]/\(0:Int)<=(0:Int)/\(0:Int)<=B/\List.length src<=1073741824) (Rt (D.tuple [dL [] [],dI (↑(Prod.fst J):Int),dI (Prod.snd J)]) [])) (brT (decide (Prod.fst K=[])) (Ow (Ob.gen (Gen.loop LoopState.ready none #[17,18] C A 29 [16,15,5,14,13,12,11,10,9,8,4,3,2,0]) [dF 60 [] [dP 0 0],dP 2 0,dP 2 0,dP 2 0,dA E,dA E,dS src,dB (decide (G<B)),dI B,dS src,dP 3 0,dP 4 0,dP 5 0,dS src]=Ob.gen (Gen.loop LoopState.ready none #[17,18] H I 29 [16,15,5,14,13,12,11,10,9,8,4,3,2,0]) [dF 60 [] [dP 0 0],dP 2 0,dP 2 0,dP 2 0,dA E,dA E,dS src,dB (decide (G<B)),dI B,dS src,dP 3 0,dP 4 0,dP 5 0,dS src]/\(0:Int)<=(0:Int)/\(0:Int)<=B/\List.length src<=1073741824) (Rt (D.tuple [dL [] [],dI 0,dI 0]) [])) (Ow (Ob.gen (Gen.loop LoopState.ready none #[17,18] C A 29 [16,15,5,14,13,12,11,10,9,8,4,3,2,0]) [dF 60 [] [dP 0 0],dP 2 0,dP 2 0,dP 2 0,dA E,dA E,dS src,dB (decide (G<B)),dI B,dS src,dP 3 0,dP 4 0,dP 5 0,dS src]=Ob.gen (Gen.loop LoopState.ready none #[17,18] H I 29 [16,15,5,14,13,12,11,10,9,8,4,3,2,0]) [dF 60 [] [dP 0 0],dP 2 0,dP 2 0,dP 2 0,dA E,dA E,dS src,dB (decide (G<B)),dI B,dS src,dP 3 0,dP 4 0,dP 5 0,dS src]/\(0:Int)<=(0:Int)/\(0:Int)<=B/\List.length src<=1073741824) (Rt (D.tuple [dL (List.map Zo (Prod.fst K)) [],dI 0,dI 0]) []))))):Tr):=by intro A B C E F G H I J K;kernel_rfl
theorem Z9w (src:LU):FK 11 [.str src] (.tuple [.slice ((Qh src).1.map Zo) [],.int .i64 (Qh src).2.1,.int .i64 (Qh src).2.2]):=by
 refine FnOK.tree Z5 fp11 (Z9 Z1n ZjL) (ZgP src) ?_;simp only[Qw,Zs,Zn,decide_eq_true_eq,decide_eq_false_iff_not,true_and];have hr:runA src 0=Z1p (src.length+1) (skp false src) (src.drop (skp false src)):=by
  unfold runA ZU;rw[List.drop_zero,Nat.zero_add]
 unfold Qh;rw[<- hr];refine⟨λh=>?_,λh=>⟨λh1=>⟨⟨rfl,by omega,by omega,by omega⟩,?_⟩,λh1=>⟨λh2=>⟨⟨rfl,by omega,by omega,by omega⟩,?_⟩,λh2=>⟨⟨rfl,by omega,by omega,by omega⟩,?_⟩⟩⟩⟩
 ·rw[if_pos (by omega)];rfl
 ·rw[if_neg (by omega)];rcases a:runA src 0 with⟨l,o,p⟩;rw[a] at h1;cases o with
  |none=>cases h1
  |some x=>rfl
 ·rw[if_neg (by omega)];rcases a:runA src 0 with⟨l,o,p⟩;rw[a] at h1 h2;cases o with
  |none=>simp only at h2;subst h2;rfl
  |some x=>cases h1
 ·rw[if_neg (by omega)];rcases a:runA src 0 with⟨l,o,p⟩;rw[a] at h1 h2;cases o with
  |none=>rfl
  |some x=>cases h1
end Go.Proofs.YtecgehidegnmnaaGreatDoor
