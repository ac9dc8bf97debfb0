/- Own work: a layer over the kit: plain data,a walk over it,its soundness. -/
import Derived.Test.YtecgehidegnmnaaGreatDoorPrA
import Derived.Test.YtecgehidegnmnaaGreatDoorSx8
import Derived.Test.YtecgehidegnmnaaGreatDoorLibT
set_option linter.unusedSectionVars false
set_option linter.unusedVariables false
set_option linter.unusedSimpArgs false
set_option linter.deprecated false
set_option maxRecDepth 100000
/- The tests for the bytes of some classes; (*input).while. -/
open Go.Sx.Lx (ZL ZT Qn QG ZY Z2F Qt QF Z0n Q2 QN tok ZhI Tk Zq Z1p Z3B Z04 ZJ skp)
namespace Go.Proofs.YtecgehidegnmnaaGreatDoor
open Go.Sx
def inC (c:Int) (b:Nat):Bool:= !decide (bitI .and .i64 (cls b) c=0)
theorem Zh3 (b c:Int):goT Tryz.prog (ctr clsP) 1 (finF false 1 ZfI) 200 [Fr.sc ZeV] { tm:=Zv 0 ([]++[dU b]++[dP 0 0]),ob:=[(0,oC [dI c])] }=(Ow ((0:Int)<=b/\b<(256:Int)) (Rt (D.bool !decide (bitI BinOp.and IntKind.i64 (cls (Int.toNat b)) c=(0:Int))) [(0,oC [dI c])]):Tr):=by kernel_rfl
theorem ZiG (b c:Int) (hb:0<=b/\b<256):CallL Tryz.prog (.func (.func 140) [] [.ptr 0 0]) [.int .u8 b] [(0,.cells [.int .i64 c])] fun r ob=>r= .bool (inC c b.toNat)/\ob=[(0,.cells [.int .i64 c])] :=
 CallL.tree Z7 Zje (Z8 QP Z5) (Zh3 b c) ⟨hb,rfl,rfl⟩
theorem ZjT (c:Int):goT Tryz.prog (ctr clsP) 0 (finF false 0 ZfY) 200 [Fr.sc Zfb] { tm:=Zv 0 ([]++[dI c]++[]),ob:=[] }=(Rt (dF 140 [] [dP 0 0]) [(0,oC [dI c])]:Tr):=by kernel_rfl
theorem Zl0 (c:Int):CF 102 [.int .i64 c] [] fun r ob=>r= .func (.func 140) [] [.ptr 0 0]/\ob=[(0,.cells [.int .i64 c])] :=
 CallL.tree Z7 Zjz (Z8 QP Z5) (ZjT c) ⟨rfl,rfl⟩
theorem ZjU (b:Int):goT Tryz.prog (ctr clsP) 0 (finF false 0 ZfX) 200 [Fr.sc Zfa] { tm:=Zv 0 ([]++[dU b]++[]),ob:=[] }=(Rt (D.bool !decide (b=(10:Int))) []:Tr):=by kernel_rfl
theorem Zl2 (b:Int):CF 103 [.int .u8 b] [] fun r ob=>r= .bool (!decide (b=10))/\ob=[] :=
 CallL.tree Z7 Zjy (Z8 QP Z5) (ZjU b) ⟨rfl,rfl⟩
def Z5D:QT:=fun d xs ob=>match d,xs,ob with
 | .func (.func f) [] [.ptr 0 0],[.int .u8 b],[(0,.cells [.int .i64 c])]=>if f=140 then some (.ok (0<=b/\b<256) (.bool (inC c b.toNat)) [(0,.cells [.int .i64 c])]) else none
 | .func (.func f) [] [],[.int .u8 b],[]=>if f=103 then some (.ok True (.bool (!decide (b=10))) []) else none
 | .func (.func f) [] [],[.int .i64 c],[]=>if f=102 then some (.ok True (.func (.func 140) [] [.ptr 0 0]) [(0,.cells [.int .i64 c])]) else none
 | _,_,_=>none
theorem Z0u:Z5D.OK:=by
 intro d xs ob rt h
 unfold Z5D at h
 split at h
 all_goals try (split at h)
 all_goals first
  | (cases h; done)
  | (rename_i hf; subst hf; cases h; first | exact fun hp=>ZiG _ _ hp | exact fun _=>Zl2 _ | exact fun _=>Zl0 _)
theorem Zh0 (src:LU) (c i:Int):let A:=[(0,oC [dS src,dI i]),(1,oC [dI c])];goT Tryz.prog (ctr clsP Z5D) 2 (finF false 2 Z4Z) 200 [Fr.sc Z3n] { tm:=Zv 0 ([]++[dP 0 0,dF 140 [] [dP 1 0]]++[]),ob:=A }=(Jm (cut Z3n 0) { tm:=[(0,dP 0 0),(1,dF 140 [] [dP 1 0]),(5,dI i)],ob:=A }:Tr):=by intro A;kernel_rfl
def hdW (src:LU) (c fr i:Int):St:=⟨[(0,.ptr 0 0),(1,.func (.func 140) [] [.ptr 1 0]),(5,.int .i64 fr)],[(0,.cells [.str src,.int .i64 i]),(1,.cells [.int .i64 c])]⟩
theorem Zb5 (src:LU) (c fr i:Int):let A:=(↑(UInt8.toNat (List.getD src (Int.toNat i) (0:UInt8))):Int);let B:=Rt (dS (List.drop (Int.toNat fr) (List.take (Int.toNat i) src))) [(0,oC [dS src,dI i]),(1,oC [dI c])];let C:=(↑(List.length src):Int);let E:=cut Z3n 0;let F:=(i+(1:Int));goT Tryz.prog (ctr clsP Z5D) 2 (finF false 2 Z4Z) 200 E (hdW src c fr i)=(brT (decide (i<C)) (Ow ((0:Int)<=i/\i<C) (Ow ((0:Int)<=A/\A<(256:Int)) (brT (inC c (Int.toNat A)) (I8 F (Jm E { tm:=[(0,dP 0 0),(1,dF 140 [] [dP 1 0]),(5,dI fr)],ob:=[(0,oC [dS src,dI F]),(1,oC [dI c])] })) (Ow ((0:Int)<=fr/\fr<=i/\i<=C) B)))) (Ow ((0:Int)<=fr/\fr<=i/\i<=C) B):Tr):=by intro A B C E F;kernel_rfl
theorem ZbA (src:LU) (c:Int) (fr:Nat) (hl:src.length<=4611686018427387904): ∀ (m i:Nat),src.length-i=m->fr<=i->i<=src.length →
  At Tryz.prog 2 (cut Z3n 0) (hdW src c fr i) (FinQ false 2 Z4Z fun r ob=>r= .str ((src.take (Zm (fun b=>inC c b.toNat) src i)).drop fr)/\ob=[(0,.cells [.str src,.int .i64 (Zm (fun b=>inC c b.toNat) src i:Nat)]),(1,.cells [.int .i64 c])]):=by
 intro m
 induction m with
 | zero =>
  intro i hm hf hi
  refine At.tree (Z8 QP Z0u) (Zb5 src c fr i) ?_
  rw[Z4X (by omega)]
  simp only[Z07,Qh,Q3,decide_eq_true_eq,decide_eq_false_iff_not]
  exact⟨fun h=>by omega,fun _=>⟨by omega,by simp⟩⟩
 | succ m ih =>
  intro i hm hf hi
  refine At.tree (Z8 QP Z0u) (Zb5 src c fr i) ?_
  simp only[Z07,Qh,Q3,Z0Y,decide_eq_true_eq,decide_eq_false_iff_not,Int.toNat_natCast]
  refine⟨fun _=>⟨by omega,Z6l _ _,fun hp=>⟨by omega, ?_⟩,fun hp=> ?_⟩,fun h=>by omega⟩
  ·have:=ih (i+1) (by omega) (by omega) (by omega)
   rw[Z1X (by omega) hp]
   exact this
  ·rw[Z3C (by omega) hp]
   exact⟨by omega,rfl,rfl⟩
theorem Zbz (src:LU) (c:Int) (i:Nat) (hi:i<=src.length) (hl:src.length<=4611686018427387904) :
  CF 101 [.ptr 0 0,.func (.func 140) [] [.ptr 1 0]] [(0,.cells [.str src,.int .i64 i]),(1,.cells [.int .i64 c])]
   fun r ob=>r= .str ((src.take (Zm (fun b=>inC c b.toNat) src i)).drop i)/\ob=[(0,.cells [.str src,.int .i64 (Zm (fun b=>inC c b.toNat) src i:Nat)]),(1,.cells [.int .i64 c])] :=
 CallL.tree Z7 ZgB (Z8 QP Z0u) (Zh0 src c i) (ZbA src c i hl _ i rfl (Nat.le_refl _) hi)
theorem ZgZ (src:LU) (i:Int):let A:=[(0,oC [dS src,dI i])];goT Tryz.prog (ctr clsP Z5D) 1 (finF false 1 Z4Z) 200 [Fr.sc Z3n] { tm:=Zv 0 ([]++[dP 0 0,dF 103 [] []]++[]),ob:=A }=(Jm (cut Z3n 0) { tm:=[(0,dP 0 0),(1,dF 103 [] []),(5,dI i)],ob:=A }:Tr):=by intro A;kernel_rfl
def hdL (src:LU) (fr i:Int):St:=⟨[(0,.ptr 0 0),(1,.func (.func 103) [] []),(5,.int .i64 fr)],[(0,.cells [.str src,.int .i64 i])]⟩
theorem Zb4 (src:LU) (fr i:Int):let A:=Rt (dS (List.drop (Int.toNat fr) (List.take (Int.toNat i) src))) [(0,oC [dS src,dI i])];let B:=(↑(List.length src):Int);let C:=cut Z3n 0;let E:=(i+(1:Int));goT Tryz.prog (ctr clsP Z5D) 1 (finF false 1 Z4Z) 200 C (hdL src fr i)=(brT (decide (i<B)) (Ow ((0:Int)<=i/\i<B) (Ow True (brT (!decide ((↑(UInt8.toNat (List.getD src (Int.toNat i) (0:UInt8))):Int)=(10:Int))) (I8 E (Jm C { tm:=[(0,dP 0 0),(1,dF 103 [] []),(5,dI fr)],ob:=[(0,oC [dS src,dI E])] })) (Ow ((0:Int)<=fr/\fr<=i/\i<=B) A)))) (Ow ((0:Int)<=fr/\fr<=i/\i<=B) A):Tr):=by intro A B C E;kernel_rfl
def Qo (b:UInt8):Bool:= !decide ((b.toNat:Int)=10)
theorem Zgj (src:LU) (fr:Nat) (hl:src.length<=4611686018427387904): ∀ (m i:Nat),src.length-i=m->fr<=i->i<=src.length →
  At Tryz.prog 1 (cut Z3n 0) (hdL src fr i) (FinQ false 1 Z4Z fun r ob=>r= .str ((src.take (Zm Qo src i)).drop fr)/\ob=[(0,.cells [.str src,.int .i64 (Zm Qo src i:Nat)])]):=by
 intro m
 induction m with
 | zero =>
  intro i hm hf hi
  refine At.tree (Z8 QP Z0u) (Zb4 src fr i) ?_
  rw[Z4X (by omega)]
  simp only[Z07,Qh,Q3,decide_eq_true_eq,decide_eq_false_iff_not]
  exact⟨fun h=>by omega,fun _=>⟨by omega,by simp⟩⟩
 | succ m ih =>
  intro i hm hf hi
  refine At.tree (Z8 QP Z0u) (Zb4 src fr i) ?_
  simp only[Z07,Qh,Q3,Z0Y,decide_eq_true_eq,decide_eq_false_iff_not,Int.toNat_natCast,true_and]
  refine⟨fun _=>⟨by omega,fun hp=>⟨by omega, ?_⟩,fun hp=> ?_⟩,fun h=>by omega⟩
  ·have:=ih (i+1) (by omega) (by omega) (by omega)
   rw[Z1X (by omega) hp]
   exact this
  ·rw[Z3C (by omega) hp]
   exact⟨by omega,rfl,rfl⟩
theorem Zgi (src:LU) (i:Nat) (hi:i<=src.length) (hl:src.length<=4611686018427387904) :
  CF 101 [.ptr 0 0,.func (.func 103) [] []] [(0,.cells [.str src,.int .i64 i])]
   fun r ob=>r= .str ((src.take (Zm Qo src i)).drop i)/\ob=[(0,.cells [.str src,.int .i64 (Zm Qo src i:Nat)])] :=
 CallL.tree Z7 ZgB (Z8 QP Z0u) (ZgZ src i) (Zgj src i hl _ i rfl (Nat.le_refl _) hi)
def whQ:QT:=fun d xs ob=>match d,xs,ob with
 | .func (.func w) [] [],[.ptr 0 0,.func (.func g) [] [.ptr 1 0]],[(0,.cells [.str src,.int .i64 i]),(1,.cells [.int .i64 c])]=>if w=101/\g=140 then
   some (.ok (0<=i/\i<=src.length/\src.length<=4611686018427387904) (.str ((src.take (Zm (fun b=>inC c b.toNat) src i.toNat)).drop i.toNat)) [(0,.cells [.str src,.int .i64 (Zm (fun b=>inC c b.toNat) src i.toNat:Nat)]),(1,.cells [.int .i64 c])]) else none
 | .func (.func w) [] [],[.ptr 0 0,.func (.func g) [] []],[(0,.cells [.str src,.int .i64 i])]=>if w=101/\g=103 then
   some (.ok (0<=i/\i<=src.length/\src.length<=4611686018427387904) (.str ((src.take (Zm Qo src i.toNat)).drop i.toNat)) [(0,.cells [.str src,.int .i64 (Zm Qo src i.toNat:Nat)])]) else none
 | _,_,_=>none
theorem ZhJ:whQ.OK:=by
 intro d xs ob rt h
 unfold whQ at h
 split at h
 ·rename_i w g src i c
  split at h
  ·rename_i hf
   obtain⟨rfl,rfl⟩:=hf
   cases h
   rintro⟨h0,h1,h2⟩
   have:=Zbz src c i.toNat (by omega) h2
   rwa [Int.toNat_of_nonneg h0] at this
  ·cases h
 ·rename_i w g src i
  split at h
  ·rename_i hf
   obtain⟨rfl,rfl⟩:=hf
   cases h
   rintro⟨h0,h1,h2⟩
   have:=Zgi src i.toNat (by omega) h2
   rwa [Int.toNat_of_nonneg h0] at this
  ·cases h
 ·cases h
end Go.Proofs.YtecgehidegnmnaaGreatDoor
/- (*scanner).skip: blanks and comments. -/
namespace Go.Proofs.YtecgehidegnmnaaGreatDoor
open Go.Sx
theorem Z00 {p q:UInt8->Bool} (h:(List.range 256).all (fun n=>p (UInt8.ofNat n) == q (UInt8.ofNat n))=true):p=q:=by
 funext b
 have:=List.all_eq_true.1 h b.toNat (List.mem_range.2 b.toNat_lt)
 simpa using this
theorem inC8:(fun b:UInt8=>inC 8 b.toNat)=ZL:=Z00 (by kernel_rfl)
theorem inC7:(fun b:UInt8=>inC 7 b.toNat)=ZT:=Z00 (by kernel_rfl)
theorem inC2:(fun b:UInt8=>inC 2 b.toNat)=Qn:=Z00 (by kernel_rfl)
theorem inC1:(fun b:UInt8=>inC 1 b.toNat)=QG:=Z00 (by kernel_rfl)
theorem Zab:Qo=Lx.Qo:=Z00 (by kernel_rfl)
def skQ:QT:=Z5D.or whQ
theorem Z96:skQ.OK:=QT.or_ok Z0u ZhJ
theorem Zh2 (src:LU) (i:Int):let A:=[(0,oC [dS src,dI i])];goT Tryz.prog (ctr clsP skQ) 1 (finF false 1 rs61) 200 [Fr.sc sc61] { tm:=Zv 0 ([]++[dP 0 0]++[]),ob:=A }=(Jm (cut sc61 0) { tm:=[(0,dP 0 0)],ob:=A }:Tr):=by intro A;kernel_rfl
def hdS (src:LU) (i:Int):St:=⟨[(0,.ptr 0 0)],[(0,.cells [.str src,.int .i64 i])]⟩
theorem Zh1 (src:LU) (i:Int):let A:=Int.toNat i;let B:=(↑(List.length src):Int);let C:=cut sc61 0;let E:=D.tuple [];goT Tryz.prog (ctr clsP skQ) 1 (finF false 1 rs61) 200 C (hdS src i)=(Ow True (Ow ((0:Int)<=i/\i<=B/\List.length src<=4611686018427387904) (brT (decide ((↑(Zm (fun b=>inC (8:Int) (UInt8.toNat b)) src A):Int)=B)) (Rt E [(0,oC [dS src,dI (↑(Zm (fun b=>inC (8:Int) (UInt8.toNat b)) src A):Int)])]) (Ow ((0:Int)<=(↑(Zm (fun b=>inC (8:Int) (UInt8.toNat b)) src A):Int)/\(↑(Zm (fun b=>inC (8:Int) (UInt8.toNat b)) src A):Int)<B) (brT (!decide ((↑(UInt8.toNat (List.getD src (Int.toNat (↑(Zm (fun b=>inC (8:Int) (UInt8.toNat b)) src A):Int)) (0:UInt8))):Int)=(37:Int))) (Rt E [(0,oC [dS src,dI (↑(Zm (fun b=>inC (8:Int) (UInt8.toNat b)) src A):Int)])]) (Ow ((0:Int)<=(↑(Zm (fun b=>inC (8:Int) (UInt8.toNat b)) src A):Int)/\(↑(Zm (fun b=>inC (8:Int) (UInt8.toNat b)) src A):Int)<=B/\List.length src<=4611686018427387904) (Jm C { tm:=[(0,dP 0 0)],ob:=[(0,oC [dS src,dI (↑(Zm Qo src (Int.toNat (↑(Zm (fun b=>inC (8:Int) (UInt8.toNat b)) src A):Int))):Int)])] })))))):Tr):=by intro A B C E;kernel_rfl
theorem ZeB (src:LU) (hl:src.length<=4611686018427387904): ∀ (m i:Nat),src.length-i<m->i<=src.length →
  At Tryz.prog 1 (cut sc61 0) (hdS src i) (FinQ false 1 rs61 fun r ob=>r= .tuple []/\ob=[(0,.cells [.str src,.int .i64 (ZY src i:Nat)])]):=by
 intro m
 induction m with
 | zero=>intro i hm hi; omega
 | succ m ih =>
  intro i hm hi
  refine At.tree (Z8 QP Z96) (Zh1 src i) ?_
  simp only[Z07,Qh,Q3,Z0Y,decide_eq_true_eq,decide_eq_false_iff_not,Int.toNat_natCast,true_and,inC8,Zab,Bool.not_eq_true',Bool.not_eq_false']
  have h1:=Z2H (p:=ZL) hi
  have h2:=Z4k ZL src i
  refine⟨⟨by omega,by omega,hl⟩,fun he=> ?_,fun he=>⟨by omega,fun hc=> ?_,fun hc=>⟨by omega, ?_⟩⟩⟩
  ·rw[Z2F (.inl (by omega)) hi]
  ·rw[Z2F (.inr fun h=>hc (by rw[h]; rfl)) hi]
  ·have hc':src.getD (Zm ZL src i) 0=37:=UInt8.toNat_inj.1 (by show _=37; omega)
   rw[Lx.Z2c,Lx.Z7Q (by omega) hc']
   have h3:=Z4k Lx.Qo src (Zm ZL src i)
   have h4:=Z2H (p:=Lx.Qo) (s:=src) (i:=Zm ZL src i) (by omega)
   have h5:Zm Lx.Qo src (Zm ZL src i)=Zm Lx.Qo src (Zm ZL src i+1):=Z1X (by omega) (by rw[hc']; rfl)
   have h6:=Z4k Lx.Qo src (Zm ZL src i+1)
   exact ih _ (by omega) h4
theorem ZeA (src:LU) (i:Nat) (hi:i<=src.length) (hl:src.length<=4611686018427387904) :
  CF 61 [.ptr 0 0] [(0,.cells [.str src,.int .i64 i])] fun r ob=>r= .tuple []/\ob=[(0,.cells [.str src,.int .i64 (ZY src i:Nat)])] :=
 CallL.tree Z7 fp61 (Z8 QP Z96) (Zh2 src i) (ZeB src hl _ i (Nat.lt_succ_self _) hi)
end Go.Proofs.YtecgehidegnmnaaGreatDoor
/- number: whether digits are a valid number. -/
namespace Go.Proofs.YtecgehidegnmnaaGreatDoor
open Go.Sx
def Z9T (s:LU):Int:=match Lib.atoiAll s with
 | .ok n=>if 2147483647<n then 32 else if Lib.itoa n=s then 0 else 32
 | _=>32
noncomputable def Zb6 (s:LU):Tr:=brT
 (match Lib.atoiAll s with
 | Lib.NumEnd.ok v=>true
 | x=>false)
 (Ow (List.length s<=281474976710656)
  (brT
   (decide
    ((2147483647:Int) <
     match Lib.atoiAll s with
     | Lib.NumEnd.ok n=>n
     | x=>(0:Int)))
   (Rt (dI 32) [])
   (Ow
    (((-9223372036854775808:Int) ≤
      match Lib.atoiAll s with
      | Lib.NumEnd.ok n=>n
      | x=>(0:Int)) ∧
     (match Lib.atoiAll s with
      | Lib.NumEnd.ok n=>n
      | x=>(0:Int)) ≤
      (9223372036854775807:Int))
    (brT
     (!decide
       (Lib.itoa
         (match Lib.atoiAll s with
         | Lib.NumEnd.ok n=>n
         | x=>(0:Int)) =
        s))
     (Rt (dI 32) []) (Rt (dI 0) [])))))
 (Ow (List.length s<=281474976710656) (Rt (dI 32) []))
theorem Z8z (s:LU):goT Tryz.prog (ctr libT) 0 (finF true 0 ZfV) 200 [Fr.sc Zf8] { tm:=Zv 0 [dS s],ob:=[] }=Zb6 s:=by kernel_rfl
theorem Z9S (s:LU) (hs:s.length<=281474976710656):FK 106 [.str s] (.int .i64 (Z9T s)):=by
 refine FnOK.tree Z7 Zjw (Z8 Z3 Z5) (Z8z s) ?_
 unfold Zb6 Z9T
 cases h:Lib.atoiAll s with
 | ok n =>
  obtain⟨b0,b1⟩:=Lib.atoiAll_bounds h
  simp only[Z07,Qh,Q3,hs,true_and]
  by_cases hm:2147483647<n <;> by_cases he:Lib.itoa n=s <;> simp[hm,he] <;> omega
 | _=>simp[Z07,Qh,Q3,hs]
end Go.Proofs.YtecgehidegnmnaaGreatDoor
/- next: one token. -/
namespace Go.Proofs.YtecgehidegnmnaaGreatDoor
open Go.Sx
def symP:PT:=fun f xs=>match xs with
 | [.str s]=>if f=16 then some (.ok (s.length<=4611686018427387904) (.bool (Qt s)) []) else if f=84 then some (.ok (s.length<=4611686018427387904) (.bool (QF s)) []) else none
 | _=>none
theorem Zeu:symP.OK:=by
 intro f xs rt h
 unfold symP at h
 split at h
 ·split at h
  ·rename_i hf; subst hf; cases h; exact fun hp=>Z8X _ hp
  split at h
  ·rename_i hf; subst hf; cases h; exact fun hp=>Z5u _ hp
  ·cases h
 ·cases h
noncomputable def ZjW (s:LU):Tr:=brT (decide (s=[(110:UInt8),(111:UInt8),(116:UInt8)])) (Rt (D.tuple [dU 4,dI 0]) []) (Ow (List.length s<=4611686018427387904) (brT (Qt s) (Rt (D.tuple [dU 1,dI 0]) []) (Ow (List.length s<=4611686018427387904) (brT (QF s) (Rt (D.tuple [dU 2,dI 0]) []) (Rt (D.tuple [dU 0,dI 31]) [])))))
theorem ZcS (s:LU):gP (ctr symP) ZfW Zf9 [dS s]=ZjW s:=by kernel_rfl
theorem Zei (s:LU) (hl:s.length<=4611686018427387904):FK 105 [.str s] (.tuple [.int .u8 (Z0n s).1,.int .i64 (Z0n s).2]):=by
 refine FnOK.tree Z7 Zjx (Z8 Zeu Z5) (ZcS s) ?_
 unfold ZjW Z0n Lx.ZD
 simp only[SS]
 refine⟨fun h=>by rw[if_pos h],fun h=>⟨hl,fun h2=>by rw[if_neg h,if_pos h2],fun h2=>⟨hl,fun h3=>by rw[if_neg h,if_neg (by simp[h2]),if_pos h3],fun h3=>by rw[if_neg h,if_neg (by simp[h2]),if_neg (by simp[h3])]⟩⟩⟩
def nxP:PT:=fun f xs=>match xs with
 | [.str s]=>if f=105 then some (.ok (s.length<=4611686018427387904) (.tuple [.int .u8 (Z0n s).1,.int .i64 (Z0n s).2]) []) else if f=106 then some (.ok (s.length<=281474976710656) (.int .i64 (Lx.Z9T s)) []) else none
 | [.int .u8 b]=>clsP f [.int .u8 b]
 | [.slice es ext,.str t]=>if f=107 then some (.ok (es=strC (es.map deS)/\es.length<=4611686018427387904) (.bool (decide (t∈es.map deS))) []) else none
 | _=>none
theorem Z1l:nxP.OK:=by
 intro f xs rt h
 unfold nxP at h
 split at h
 ·split at h
  ·rename_i hf; subst hf; cases h; exact fun hp=>Zei _ hp
  split at h
  ·rename_i hf; subst hf; cases h; exact fun hp=>Z9S _ hp
  ·cases h
 ·exact QP _ _ _ h
 ·rename_i es ext t
  split at h
  ·rename_i hf
   subst hf
   cases h
   rintro⟨he,hl⟩
   have:=Ze1 (es.map deS) ext t (by simpa using hl)
   rwa [<- he] at this
  ·cases h
 ·cases h
def sgQ:QT:=fun d xs ob=>match d,xs,ob with
 | .func (.func f) [] [],[.ptr 0 0],[(0,.cells [.str src,.int .i64 a])]=>if f=108 then some (.ok (0<=a/\a<=src.length/\src.length<=4611686018427387904) (.str (Q2 (src.drop a.toNat))) [(0,.cells [.str src,.int .i64 ((a.toNat+(Q2 (src.drop a.toNat)).length:Nat):Int)])])
  else if f=61 then some (.ok (0<=a/\a<=src.length/\src.length<=4611686018427387904) (.tuple []) [(0,.cells [.str src,.int .i64 (ZY src a.toNat:Nat)])]) else none
 | _,_,_=>none
theorem ZhY:sgQ.OK:=by
 intro d xs ob rt h
 unfold sgQ at h
 split at h
 ·rename_i f src a
  split at h
  ·rename_i hf
   subst hf
   cases h
   rintro⟨h0,h1,h2⟩
   have:=ZeC src a.toNat (by omega) h2
   rwa [Int.toNat_of_nonneg h0] at this
  split at h
  ·rename_i hf
   subst hf
   cases h
   rintro⟨h0,h1,h2⟩
   have:=ZeA src a.toNat (by omega) h2
   rwa [Int.toNat_of_nonneg h0] at this
  ·cases h
 ·cases h
def nxQ:QT:=skQ.or sgQ
theorem Z2O:nxQ.OK:=QT.or_ok Z96 ZhY
theorem Zdp (src:LU) (a:Int):let A:=Int.toNat a;let B:=(Int.toNat (a+(1:Int)));let C:=(↑(UInt8.toNat (List.getD src A (0:UInt8))):Int);let E:=[(0,oC [dS src,dI (↑(Int.toNat a+List.length (Q2 (List.drop A src))):Int)])];let F:=[[dS (deS [dS [35,99,111,110,115,116]])],[dS (deS [dS [35,115,104,111,119]])],[dS (deS [dS [35,109,105,110,105,109,105,122,101]])],[dS (deS [dS [35,99,111,117,110,116]])],[dS (deS [dS [35,115,117,109]])]];let G:=(↑(List.length src):Int);let H:=[deS [dS [35,99,111,110,115,116]],deS [dS [35,115,104,111,119]],deS [dS [35,109,105,110,105,109,105,122,101]],deS [dS [35,99,111,117,110,116]],deS [dS [35,115,117,109]]];let I:=[[dS [35,99,111,110,115,116]],[dS [35,115,104,111,119]],[dS [35,109,105,110,105,109,105,122,101]],[dS [35,99,111,117,110,116]],[dS [35,115,117,109]]];let J:=[dU 6,dS (Q2 (List.drop A src)),dI a];let K:=Int.toNat C;let L:=[(35:UInt8)];let M:=Rt (D.tuple [dA J,dI 30]) E;let N:=Rt (D.tuple [dA J,dI 0]) E;let O:=List.drop A src;let P:=(a+(1:Int));gC (ctr nxP nxQ) 1 rs62 sc62 [] [dP 0 0] [] [(0,oC [dS src,dI a])]=(Ow ((0:Int)<=a/\a<G) (Ow ((0:Int)<=C/\C<(256:Int)) (brT (decide (cls K=(1:Int))) (brT (decide (cls K=(1:Int))) (Ow True (Ow ((0:Int)<=a/\a<=G/\List.length src<=4611686018427387904) (Ow (List.length (List.drop A (List.take (Zm (fun b=>inC (7:Int) (UInt8.toNat b)) src A) src))<=4611686018427387904) (Rt (D.tuple [dA [dU (Prod.fst (Z0n (List.drop A (List.take (Zm (fun b=>inC (7:Int) (UInt8.toNat b)) src A) src)))),dS (List.drop A (List.take (Zm (fun b=>inC (7:Int) (UInt8.toNat b)) src A) src)),dI a],dI (Prod.snd (Z0n (List.drop A (List.take (Zm (fun b=>inC (7:Int) (UInt8.toNat b)) src A) src))))]) [(0,oC [dS src,dI (↑(Zm (fun b=>inC (7:Int) (UInt8.toNat b)) src A):Int)])])))) (brT (decide (cls K=(2:Int))) (Ow True (Ow ((0:Int)<=a/\a<=G/\List.length src<=4611686018427387904) (Ow (List.length (List.drop A (List.take (Zm (fun b=>inC (2:Int) (UInt8.toNat b)) src A) src))<=281474976710656) (Rt (D.tuple [dA [dU 3,dS (List.drop A (List.take (Zm (fun b=>inC (2:Int) (UInt8.toNat b)) src A) src)),dI a],dI (Lx.Z9T (List.drop A (List.take (Zm (fun b=>inC (2:Int) (UInt8.toNat b)) src A) src)))]) [(0,oC [dS src,dI (↑(Zm (fun b=>inC (2:Int) (UInt8.toNat b)) src A):Int)])])))) (brT (decide (cls K=(16:Int))) (I8 P (Ow True (Ow ((0:Int)<=a+(1:Int)/\a+(1:Int)<=G/\List.length src<=4611686018427387904) (Ow (1+List.length (List.drop B (List.take (Zm (fun b=>inC (1:Int) (UInt8.toNat b)) src B) src))<=4611686018427387904) (Ow (I=F/\5<=4611686018427387904) (brT (!decide (L++List.drop B (List.take (Zm (fun b=>inC (1:Int) (UInt8.toNat b)) src B) src)∈H)) (Rt (D.tuple [dA [dU 5,dS (L++List.drop B (List.take (Zm (fun b=>inC (1:Int) (UInt8.toNat b)) src B) src)),dI a],dI 31]) [(0,oC [dS src,dI (↑(Zm (fun b=>inC (1:Int) (UInt8.toNat b)) src B):Int)])]) (Rt (D.tuple [dA [dU 5,dS (L++List.drop B (List.take (Zm (fun b=>inC (1:Int) (UInt8.toNat b)) src B) src)),dI a],dI 0]) [(0,oC [dS src,dI (↑(Zm (fun b=>inC (1:Int) (UInt8.toNat b)) src B):Int)])]))))))) (Ow ((0:Int)<=a/\a<=G/\List.length src<=4611686018427387904) (brT (decide (Q2 O=[])) M N))))) (brT (decide (cls K=(4:Int))) (Ow True (Ow ((0:Int)<=a/\a<=G/\List.length src<=4611686018427387904) (Ow (List.length (List.drop A (List.take (Zm (fun b=>inC (7:Int) (UInt8.toNat b)) src A) src))<=4611686018427387904) (Rt (D.tuple [dA [dU (Prod.fst (Z0n (List.drop A (List.take (Zm (fun b=>inC (7:Int) (UInt8.toNat b)) src A) src)))),dS (List.drop A (List.take (Zm (fun b=>inC (7:Int) (UInt8.toNat b)) src A) src)),dI a],dI (Prod.snd (Z0n (List.drop A (List.take (Zm (fun b=>inC (7:Int) (UInt8.toNat b)) src A) src))))]) [(0,oC [dS src,dI (↑(Zm (fun b=>inC (7:Int) (UInt8.toNat b)) src A):Int)])])))) (brT (decide (cls K=(2:Int))) (Ow True (Ow ((0:Int)<=a/\a<=G/\List.length src<=4611686018427387904) (Ow (List.length (List.drop A (List.take (Zm (fun b=>inC (2:Int) (UInt8.toNat b)) src A) src))<=281474976710656) (Rt (D.tuple [dA [dU 3,dS (List.drop A (List.take (Zm (fun b=>inC (2:Int) (UInt8.toNat b)) src A) src)),dI a],dI (Lx.Z9T (List.drop A (List.take (Zm (fun b=>inC (2:Int) (UInt8.toNat b)) src A) src)))]) [(0,oC [dS src,dI (↑(Zm (fun b=>inC (2:Int) (UInt8.toNat b)) src A):Int)])])))) (brT (decide (cls K=(16:Int))) (I8 P (Ow True (Ow ((0:Int)<=a+(1:Int)/\a+(1:Int)<=G/\List.length src<=4611686018427387904) (Ow (1+List.length (List.drop B (List.take (Zm (fun b=>inC (1:Int) (UInt8.toNat b)) src B) src))<=4611686018427387904) (Ow (I=F/\5<=4611686018427387904) (brT (!decide (L++List.drop B (List.take (Zm (fun b=>inC (1:Int) (UInt8.toNat b)) src B) src)∈H)) (Rt (D.tuple [dA [dU 5,dS (L++List.drop B (List.take (Zm (fun b=>inC (1:Int) (UInt8.toNat b)) src B) src)),dI a],dI 31]) [(0,oC [dS src,dI (↑(Zm (fun b=>inC (1:Int) (UInt8.toNat b)) src B):Int)])]) (Rt (D.tuple [dA [dU 5,dS (L++List.drop B (List.take (Zm (fun b=>inC (1:Int) (UInt8.toNat b)) src B) src)),dI a],dI 0]) [(0,oC [dS src,dI (↑(Zm (fun b=>inC (1:Int) (UInt8.toNat b)) src B):Int)])]))))))) (Ow ((0:Int)<=a/\a<=G/\List.length src<=4611686018427387904) (brT (decide (Q2 O=[])) M N))))))):Tr):=by intro A B C E F G H I J K L M N O P;kernel_rfl
theorem cls1:(fun b:UInt8=>decide (cls b.toNat=1))=QG:=Z00 (by kernel_rfl)
theorem cls4:(fun b:UInt8=>decide (cls b.toNat=4))=QN:=Z00 (by kernel_rfl)
theorem cls2:(fun b:UInt8=>decide (cls b.toNat=2))=Qn:=Z00 (by kernel_rfl)
theorem Zli:(fun b:UInt8=>decide (cls b.toNat=16))=(fun b=>b == 35):=Z00 (by kernel_rfl)
def tokD (k:Int) (t:LU) (a:Int):D:= .agg [.int .u8 k,.str t,.int .i64 a]
theorem Zgc (src:LU) (a:Nat) (ha:a<src.length) (hl:src.length<=281474976710656):CF 62 [.ptr 0 0] [(0,.cells [.str src,.int .i64 a])]
  fun r ob=>r= .tuple [tokD (tok (src.drop a)).1 (tok (src.drop a)).2.1 a,.int .i64 (tok (src.drop a)).2.2]/\ob=[(0,.cells [.str src,.int .i64 ((a+(tok (src.drop a)).2.1.length:Nat):Int)])]:=by
 refine CallL.tree Z7 fp62 (Z8 Z1l Z2O) (Zdp src a) ?_
 have hd:src.drop a=src.getD a 0::src.drop (a+1):=Z14 ha
 generalize hb:src.getD a 0=b at hd
 have h1:decide (cls b.toNat=1)=QG b:=congrFun cls1 b
 have h4:decide (cls b.toNat=4)=QN b:=congrFun cls4 b
 have h2:decide (cls b.toNat=2)=Qn b:=congrFun cls2 b
 have h16:decide (cls b.toNat=16)=(b == 35):=congrFun Zli b
 have hrt: ∀ p,Zm p src a=a+((src.drop a).takeWhile p).length:=fun p=>rfl
 have hrt1: ∀ p,Zm p src (a+1)=a+1+((src.drop (a+1)).takeWhile p).length:=fun p=>rfl
 have htl: ∀ p,((src.drop a).takeWhile p).length<=src.length:=fun p=>Nat.le_trans (List.takeWhile_sublist p).length_le (by rw[List.length_drop]; omega)
 have htl1: ∀ p,((src.drop (a+1)).takeWhile p).length+1<=src.length:=fun p=>by
  have:=(List.takeWhile_sublist (l:=src.drop (a+1)) p).length_le
  rw[List.length_drop] at this
  omega
 have e1:((a:Int)+1).toNat=a+1:=by omega
 have hbl:=b.toNat_lt
 simp only[Z07,Qh,Q3,Int.toNat_natCast,true_and,e1,inC7,inC2,inC1,Z86,h1,h2,h4,h16,hb]
 refine⟨by omega,by omega, ?_⟩
 have hname: ∀ (h:QG b=true\/QN b=true),tok (src.drop a)=((Z0n ((src.drop a).takeWhile ZT)).1,(src.drop a).takeWhile ZT,(Z0n ((src.drop a).takeWhile ZT)).2):=fun h=>by
  rw[hd]; simp only[tok]; rw[if_pos (by simpa using h)]
 have hwk:(0<=(a:Int)/\(a:Int)<=src.length/\src.length<=4611686018427387904):=⟨by omega,by omega,by omega⟩
 refine⟨fun hL=>⟨fun _=>⟨hwk,Nat.le_trans (htl _) (by omega), ?_⟩,fun h=>by simp[hL] at h⟩,fun hL=>⟨fun hU=>⟨hwk,Nat.le_trans (htl _) (by omega), ?_⟩,fun hU=>⟨fun hD=>⟨hwk,Nat.le_trans (htl _) (by omega), ?_⟩,fun hD=>⟨fun hH=>⟨by omega,by omega, ?_⟩,fun hH=>⟨hwk, ?_⟩⟩⟩⟩⟩
 ·rw[hname (.inl hL)]; exact⟨rfl,rfl⟩
 ·rw[hname (.inr hU)]; exact⟨rfl,rfl⟩
 ·have ht:tok (src.drop a)=(3,(src.drop a).takeWhile Qn,Lx.Z9T ((src.drop a).takeWhile Qn)):=by
   rw[hd]; simp only[tok]; rw[if_neg (by simp[hL,hU]),if_pos hD]
  rw[ht]; exact⟨rfl,rfl⟩
 ·have ht:tok (src.drop a)=(5,35::(src.drop (a+1)).takeWhile QG,if 35::(src.drop (a+1)).takeWhile QG∈ZhI then 0 else 31):=by
   rw[hd]; simp only[tok]; rw[if_neg (by simp[hL,hU]),if_neg (by simp[hD]),if_pos hH]
  rw[ht]
  refine⟨Nat.le_trans (Nat.add_comm .. ▸ htl1 _) (by omega),⟨rfl,by omega⟩,fun hm=> ?_,fun hm=> ?_⟩
  ·have hm': ¬ 35::(src.drop (a+1)).takeWhile QG∈ZhI:=of_decide_eq_false ((Bool.not_eq_true' _).mp hm)
   rw[if_neg hm']
   refine⟨rfl, ?_⟩
   rw[hrt1,List.length_cons,Nat.add_assoc,Nat.add_comm 1]
  ·have hm':35::(src.drop (a+1)).takeWhile QG∈ZhI:=of_decide_eq_true ((Bool.not_eq_false' _).mp hm)
   rw[if_pos hm']
   refine⟨rfl, ?_⟩
   rw[hrt1,List.length_cons,Nat.add_assoc,Nat.add_comm 1]
 ·have ht:tok (src.drop a)=(6,Q2 (src.drop a),if Q2 (src.drop a)=[] then 30 else 0):=by
   rw[hd]; simp only[tok]; rw[if_neg (by simp[hL,hU]),if_neg (by simp[hD]),if_neg (by simp[hH])]
  rw[ht]
  simp only[decide_eq_true_eq,decide_eq_false_iff_not]
  exact⟨fun h=>by rw[if_pos h]; exact⟨rfl,trivial⟩,fun h=>by rw[if_neg h]; exact⟨rfl,trivial⟩⟩
end Go.Proofs.YtecgehidegnmnaaGreatDoor
/- all and Lex. -/
namespace Go.Proofs.YtecgehidegnmnaaGreatDoor
open Go.Sx
theorem ZhH (src:LU) (a:Int):let A:=(0,oC [dS src,dI a]);gC (ctr nxP nxQ) 1 rs31 sc31 [] [dP 0 0] [] [A]=(Rt (dF 60 [] [dP 1 0]) [A,(1,oC [dP 0 0])]:Tr):=by intro A;kernel_rfl
def dsL (src:LU):List D:=[.func (.func 60) [] [.ptr 0 0],.ptr 2 0,.ptr 2 0,.ptr 2 0,.agg [.str src,.int .i64 0],.agg [.str src,.int .i64 0],.str src,.bool (decide (32768<(src.length:Int))),.int .i64 src.length,.str src,.ptr 3 0,.ptr 4 0,.ptr 5 0,.str src]
def Z8i:List Nat:=[16,15,5,14,13,12,11,10,9,8,4,3,2,0]
def recL (src:LU) (st:LoopState) (pend:Option Code):Ob:= .gen (.loop st pend #[17,18] (sc11.rngA 0) (sc11.rngB 0) 29 Z8i) (dsL src)
def obN (src:LU) (i a e:Int) (st:LoopState) (pend:Option Code):Obs:=[(0,.cells [.ptr 2 0]),(1,recL src st pend),(2,.cells [.str src,.int .i64 i]),(3,.cells [.int .i64 e]),(4,.cells [.int .i64 a]),(5,.cells [.nils])]
def obV (src:LU) (i a e:Int) (st:LoopState) (pend:Option Code) (acc:LD):Obs:=[(0,.cells [.ptr 2 0]),(1,recL src st pend),(2,.cells [.str src,.int .i64 i]),(3,.cells [.int .i64 e]),(4,.cells [.int .i64 a]),(5,.cells [.vec 6]),(6,.arr true 3 47 acc)]
def dsY (src:LU):List D:=[.func (.func 60) [] [.ptr 1 0],.ptr 2 0,.ptr 2 0,.ptr 2 0,.agg [.str src,.int .i64 0],.agg [.str src,.int .i64 0],.str src,.bool (decide (32768<(src.length:Int))),.int .i64 src.length,.str src,.ptr 3 0,.ptr 4 0,.ptr 5 0,.str src]
def recY (src:LU) (st:LoopState) (pend:Option Code):Ob:= .gen (.loop st pend #[17,18] (sc11.rngA 0) (sc11.rngB 0) 29 Z8i) (dsY src)
theorem Ze3 (src t:LU) (i a e k a1 e1:Int) (acc:LD):let A:=(↑(List.length src):Int);let B:=(2,oC [dS src,dI i]);let C:=[dS src,dI 0];let E:=SC.rngA sc11 0;let F:=SC.rngB sc11 0;let G:=(1,oC [dP 2 0]);let H:=(6,oR true 3 47 acc);let I:=[[dU k,dS t,dI a1]];let J:=(3,oC [dI e]);let K:=(4,oC [dI a]);let L:=(32768:Int);yldT Tryz.prog (ctr nxP nxQ) 7 0 29 #[17,18] E F Z8i (dsY src) 2000 { tm:=putP (List.zip [17,18] [tokD k t a1,dI e1]) (List.zip Z8i (dsY src)),ob:=[G,B,J,K,(5,oC [dV 6]),H] }=(brT (!decide (e1=(0:Int))) (Rt (dB false) [(0,Ob.gen (Gen.loop LoopState.done (some Code.ret) #[17,18] E F 29 [16,15,5,14,13,12,11,10,9,8,4,3,2,0]) [dF 60 [] [dP 1 0],dP 2 0,dP 2 0,dP 2 0,dA C,dA C,dS src,dB (decide (L<A)),dI A,dS src,dP 3 0,dP 4 0,dP 5 0,dS src]),G,B,(3,oC [dI e1]),(4,oC [dI a1]),(5,oC [D.nils]),H]) (Ow (Zr 3 I/\List.length acc+1<=1073741824) (Rt (dB true) [(0,Ob.gen (Gen.loop LoopState.ready none #[17,18] E F 29 [16,15,5,14,13,12,11,10,9,8,4,3,2,0]) [dF 60 [] [dP 1 0],dP 2 0,dP 2 0,dP 2 0,dA C,dA C,dS src,dB (decide (L<A)),dI A,dS src,dP 3 0,dP 4 0,dP 5 0,dS src]),G,B,J,K,(5,oC [dV 7]),(7,oR true 3 47 (acc++I))])):Tr):=by intro A B C E F G H I J K L;kernel_rfl
theorem Ze4 (src t:LU) (i a e k a1 e1:Int):let A:=(↑(List.length src):Int);let B:=(2,oC [dS src,dI i]);let C:=[dS src,dI 0];let E:=SC.rngA sc11 0;let F:=SC.rngB sc11 0;let G:=(1,oC [dP 2 0]);let H:=[[dU k,dS t,dI a1]];let I:=(5,oC [D.nils]);let J:=(3,oC [dI e]);let K:=(4,oC [dI a]);let L:=(32768:Int);yldT Tryz.prog (ctr nxP nxQ) 6 0 29 #[17,18] E F Z8i (dsY src) 2000 { tm:=putP (List.zip [17,18] [tokD k t a1,dI e1]) (List.zip Z8i (dsY src)),ob:=[G,B,J,K,I] }=(brT (!decide (e1=(0:Int))) (Rt (dB false) [(0,Ob.gen (Gen.loop LoopState.done (some Code.ret) #[17,18] E F 29 [16,15,5,14,13,12,11,10,9,8,4,3,2,0]) [dF 60 [] [dP 1 0],dP 2 0,dP 2 0,dP 2 0,dA C,dA C,dS src,dB (decide (L<A)),dI A,dS src,dP 3 0,dP 4 0,dP 5 0,dS src]),G,B,(3,oC [dI e1]),(4,oC [dI a1]),I]) (Ow (Zr 3 H/\1<=1073741824) (Rt (dB true) [(0,Ob.gen (Gen.loop LoopState.ready none #[17,18] E F 29 [16,15,5,14,13,12,11,10,9,8,4,3,2,0]) [dF 60 [] [dP 1 0],dP 2 0,dP 2 0,dP 2 0,dA C,dA C,dS src,dB (decide (L<A)),dI A,dS src,dP 3 0,dP 4 0,dP 5 0,dS src]),G,B,J,K,(5,oC [dV 6]),(6,oR true 3 47 H)])):Tr):=by intro A B C E F G H I J K L;kernel_rfl
def yldQ:QT:=fun d xs ob=>match d,xs,ob with
 | .yld 0,[.agg [.int .u8 k,.str t,.int .i64 a1],.int .i64 e1],[(0,.gen g ds),(1,.cells [.ptr 2 0]),(2,.cells [.str src,.int .i64 i]),(3,.cells [.int .i64 e]),(4,.cells [.int .i64 a]),(5,.cells [.vec 6]),(6,.arr true 3 T acc)] =>
  some (.br (decide (e1=0)) (.ok ((Ob.gen g ds=recY src .ready none/\T=47)/\acc.length+1<=1073741824) (.bool true) [(0,recY src .ready none),(1,.cells [.ptr 2 0]),(2,.cells [.str src,.int .i64 i]),(3,.cells [.int .i64 e]),(4,.cells [.int .i64 a]),(5,.cells [.vec 7]),(7,.arr true 3 T (acc++[[.int .u8 k,.str t,.int .i64 a1]]))])
   (.ok (Ob.gen g ds=recY src .ready none/\T=47) (.bool false) [(0,recY src .done (some .ret)),(1,.cells [.ptr 2 0]),(2,.cells [.str src,.int .i64 i]),(3,.cells [.int .i64 e1]),(4,.cells [.int .i64 a1]),(5,.cells [.nils]),(6,.arr true 3 T acc)]))
 | .yld 0,[.agg [.int .u8 k,.str t,.int .i64 a1],.int .i64 e1],[(0,.gen g ds),(1,.cells [.ptr 2 0]),(2,.cells [.str src,.int .i64 i]),(3,.cells [.int .i64 e]),(4,.cells [.int .i64 a]),(5,.cells [.nils])] =>
  some (.br (decide (e1=0)) (.ok (Ob.gen g ds=recY src .ready none) (.bool true) [(0,recY src .ready none),(1,.cells [.ptr 2 0]),(2,.cells [.str src,.int .i64 i]),(3,.cells [.int .i64 e]),(4,.cells [.int .i64 a]),(5,.cells [.vec 6]),(6,.arr true 3 47 [[.int .u8 k,.str t,.int .i64 a1]])])
   (.ok (Ob.gen g ds=recY src .ready none) (.bool false) [(0,recY src .done (some .ret)),(1,.cells [.ptr 2 0]),(2,.cells [.str src,.int .i64 i]),(3,.cells [.int .i64 e1]),(4,.cells [.int .i64 a1]),(5,.cells [.nils])]))
 | _,_,_=>none
theorem Zef:yldQ.OK:=by
 intro d xs ob rt h
 unfold yldQ at h
 split at h
 ·rename_i k t a1 e1 g ds src i e a T acc
  cases h
  cases he:decide (e1=0) with
  | true =>
   rintro⟨⟨hg,rfl⟩,hl⟩
   rw[hg]
   refine CallL.yldT Z7 (Z8 Z1l Z2O) rfl (Ze3 src t i a e k a1 e1 acc) ?_
   rw[Z07,Qh,Q3,Q3,he]
   exact⟨fun h=>(by cases h),fun _=>⟨⟨Z3j.2 ⟨rfl,Z3W _⟩,hl⟩,rfl,rfl⟩⟩
  | false =>
   rintro⟨hg,rfl⟩
   rw[hg]
   refine CallL.yldT Z7 (Z8 Z1l Z2O) rfl (Ze3 src t i a e k a1 e1 acc) ?_
   rw[Z07,Qh,Q3,Q3,he]
   exact⟨fun _=>⟨rfl,rfl⟩,fun h=>(by cases h)⟩
 ·rename_i k t a1 e1 g ds src i e a
  cases h
  cases he:decide (e1=0) with
  | true =>
   rintro hg
   rw[hg]
   refine CallL.yldT Z7 (Z8 Z1l Z2O) rfl (Ze4 src t i a e k a1 e1) ?_
   rw[Z07,Qh,Q3,Q3,he]
   exact⟨fun h=>(by cases h),fun _=>⟨⟨Z3j.2 ⟨rfl,Z3W _⟩,by decide⟩,rfl,rfl⟩⟩
  | false =>
   rintro hg
   rw[hg]
   refine CallL.yldT Z7 (Z8 Z1l Z2O) rfl (Ze4 src t i a e k a1 e1) ?_
   rw[Z07,Qh,Q3,Q3,he]
   exact⟨fun _=>⟨rfl,rfl⟩,fun h=>(by cases h)⟩
 ·cases h
def Zgd:QT:=fun d xs ob=>match d,xs,ob with
 | .func (.func f) [] [],[.ptr 0 0],[(0,.cells [.str src,.int .i64 a])]=>if f=62 then some (.ok (0<=a/\a<src.length/\src.length<=281474976710656) (.tuple [.agg [.int .u8 (tok (src.drop a.toNat)).1,.str (tok (src.drop a.toNat)).2.1,.int .i64 a],.int .i64 (tok (src.drop a.toNat)).2.2]) [(0,.cells [.str src,.int .i64 ((a.toNat+(tok (src.drop a.toNat)).2.1.length:Nat):Int)])]) else none
 | _,_,_=>none
theorem Zcf:Zgd.OK:=by
 intro d xs ob rt h
 unfold Zgd at h
 split at h
 ·rename_i f src a
  split at h
  ·rename_i hf
   subst hf
   cases h
   rintro⟨h0,h1,h2⟩
   have:=Zgc src a.toNat (by omega) h2
   rwa [Int.toNat_of_nonneg h0] at this
  ·cases h
 ·cases h
def alQ:QT:=(nxQ.or Zgd).or yldQ
theorem Zb3:alQ.OK:=QT.or_ok (QT.or_ok Z2O Zcf) Zef
theorem Zkt (src:LU) (i a e:Int):let A:=(↑(List.length src):Int);let B:=[dS src,dI 0];gC (ctr nxP alQ) 6 rs60 sc60 [] [D.yld 1] [dP 0 0] (obN src i a e LoopState.ready none)=(Ow ((0:Int)<=i/\i<=A/\List.length src<=4611686018427387904) (Jm (cut sc60 0) { tm:=[(0,D.yld 1),(1,dP 0 0)],ob:=[(0,oC [dP 2 0]),(1,Ob.gen (Gen.loop LoopState.ready none #[17,18] (SC.rngA sc11 0) (SC.rngB sc11 0) 29 [16,15,5,14,13,12,11,10,9,8,4,3,2,0]) [dF 60 [] [dP 0 0],dP 2 0,dP 2 0,dP 2 0,dA B,dA B,dS src,dB (decide ((32768:Int)<A)),dI A,dS src,dP 3 0,dP 4 0,dP 5 0,dS src]),(2,oC [dS src,dI (↑(ZY src (Int.toNat i)):Int)]),(3,oC [dI e]),(4,oC [dI a]),(5,oC [D.nils])] }):Tr):=by intro A B;kernel_rfl
def hdA (ob:Obs):St:=⟨[(0,.yld 1),(1,.ptr 0 0)],ob⟩
theorem Zks (src:LU) (i a e:Int):let A:=Prod.snd (tok (List.drop (Int.toNat i) src));let B:=(↑(List.length src):Int);let C:=[dS src,dI 0];let E:=(↑(Int.toNat i+List.length (Prod.fst A)):Int);let F:=SC.rngA sc11 0;let G:=SC.rngB sc11 0;let H:=(6,oR true 3 47 [[dU (Prod.fst (tok (List.drop (Int.toNat i) src))),dS (Prod.fst A),dI i]]);let I:=(32768:Int);let J:=(0,oC [dP 2 0]);let K:=(3,oC [dI e]);let L:=(4,oC [dI a]);let M:=D.tuple [];let N:=(2,oC [dS src,dI E]);let O:=(5,oC [D.nils]);let P:=(5,oC [dV 6]);let Q:=cut sc60 0;gH (ctr nxP alQ) 6 false rs60 Q (hdA (obN src i a e LoopState.ready none))=(brT (decide (i<B)) (Ow ((0:Int)<=i/\i<B/\List.length src<=281474976710656) (brT (decide (Prod.snd A=(0:Int))) (Ow (Ob.gen (Gen.loop LoopState.ready none #[17,18] F G 29 [16,15,5,14,13,12,11,10,9,8,4,3,2,0]) [dF 60 [] [dP 1 0],dP 2 0,dP 2 0,dP 2 0,dA C,dA C,dS src,dB (decide (I<B)),dI B,dS src,dP 3 0,dP 4 0,dP 5 0,dS src]=Ob.gen (Gen.loop LoopState.ready none #[17,18] F G 29 [16,15,5,14,13,12,11,10,9,8,4,3,2,0]) [dF 60 [] [dP 1 0],dP 2 0,dP 2 0,dP 2 0,dA C,dA C,dS src,dB (decide (I<B)),dI B,dS src,dP 3 0,dP 4 0,dP 5 0,dS src]) (brT (!decide (Prod.snd A=(0:Int))) (Rt M [J,(1,Ob.gen (Gen.loop LoopState.ready none #[17,18] F G 29 [16,15,5,14,13,12,11,10,9,8,4,3,2,0]) [dF 60 [] [dP 0 0],dP 2 0,dP 2 0,dP 2 0,dA C,dA C,dS src,dB (decide (I<B)),dI B,dS src,dP 3 0,dP 4 0,dP 5 0,dS src]),N,K,L,P,H]) (Ow ((0:Int)<=E/\E<=B/\List.length src<=4611686018427387904) (Jm Q { tm:=[(0,D.yld 1),(1,dP 0 0)],ob:=[J,(1,Ob.gen (Gen.loop LoopState.ready none #[17,18] F G 29 [16,15,5,14,13,12,11,10,9,8,4,3,2,0]) [dF 60 [] [dP 0 0],dP 2 0,dP 2 0,dP 2 0,dA C,dA C,dS src,dB (decide (I<B)),dI B,dS src,dP 3 0,dP 4 0,dP 5 0,dS src]),(2,oC [dS src,dI (↑(ZY src (Int.toNat E)):Int)]),K,L,P,H] })))) (Ow (Ob.gen (Gen.loop LoopState.ready none #[17,18] F G 29 [16,15,5,14,13,12,11,10,9,8,4,3,2,0]) [dF 60 [] [dP 1 0],dP 2 0,dP 2 0,dP 2 0,dA C,dA C,dS src,dB (decide (I<B)),dI B,dS src,dP 3 0,dP 4 0,dP 5 0,dS src]=Ob.gen (Gen.loop LoopState.ready none #[17,18] F G 29 [16,15,5,14,13,12,11,10,9,8,4,3,2,0]) [dF 60 [] [dP 1 0],dP 2 0,dP 2 0,dP 2 0,dA C,dA C,dS src,dB (decide (I<B)),dI B,dS src,dP 3 0,dP 4 0,dP 5 0,dS src]) (Rt M [J,(1,Ob.gen (Gen.loop LoopState.done (some Code.ret) #[17,18] F G 29 [16,15,5,14,13,12,11,10,9,8,4,3,2,0]) [dF 60 [] [dP 0 0],dP 2 0,dP 2 0,dP 2 0,dA C,dA C,dS src,dB (decide (I<B)),dI B,dS src,dP 3 0,dP 4 0,dP 5 0,dS src]),N,(3,oC [dI (Prod.snd A)]),(4,oC [dI i]),O])))) (Rt M [J,(1,Ob.gen (Gen.loop LoopState.ready none #[17,18] F G 29 [16,15,5,14,13,12,11,10,9,8,4,3,2,0]) [dF 60 [] [dP 0 0],dP 2 0,dP 2 0,dP 2 0,dA C,dA C,dS src,dB (decide (I<B)),dI B,dS src,dP 3 0,dP 4 0,dP 5 0,dS src]),(2,oC [dS src,dI i]),K,L,O]):Tr):=by intro A B C E F G H I J K L M N O P Q;kernel_rfl
theorem Zkr (src:LU) (i a e:Int) (acc:LD):let A:=Prod.snd (tok (List.drop (Int.toNat i) src));let B:=(↑(List.length src):Int);let C:=[dS src,dI 0];let E:=(↑(Int.toNat i+List.length (Prod.fst A)):Int);let F:=SC.rngA sc11 0;let G:=SC.rngB sc11 0;let H:=(6,oR true 3 47 (acc++[[dU (Prod.fst (tok (List.drop (Int.toNat i) src))),dS (Prod.fst A),dI i]]));let I:=(32768:Int);let J:=(0,oC [dP 2 0]);let K:=(3,oC [dI e]);let L:=(4,oC [dI a]);let M:=(5,oC [dV 6]);let N:=D.tuple [];let O:=(2,oC [dS src,dI E]);let P:=cut sc60 0;gH (ctr nxP alQ) 6 false rs60 P (hdA (obV src i a e LoopState.ready none acc))=(brT (decide (i<B)) (Ow ((0:Int)<=i/\i<B/\List.length src<=281474976710656) (brT (decide (Prod.snd A=(0:Int))) (Ow ((Ob.gen (Gen.loop LoopState.ready none #[17,18] F G 29 [16,15,5,14,13,12,11,10,9,8,4,3,2,0]) [dF 60 [] [dP 1 0],dP 2 0,dP 2 0,dP 2 0,dA C,dA C,dS src,dB (decide (I<B)),dI B,dS src,dP 3 0,dP 4 0,dP 5 0,dS src]=Ob.gen (Gen.loop LoopState.ready none #[17,18] F G 29 [16,15,5,14,13,12,11,10,9,8,4,3,2,0]) [dF 60 [] [dP 1 0],dP 2 0,dP 2 0,dP 2 0,dA C,dA C,dS src,dB (decide (I<B)),dI B,dS src,dP 3 0,dP 4 0,dP 5 0,dS src]/\47=47)/\List.length acc+1<=1073741824) (brT (!decide (Prod.snd A=(0:Int))) (Rt N [J,(1,Ob.gen (Gen.loop LoopState.ready none #[17,18] F G 29 [16,15,5,14,13,12,11,10,9,8,4,3,2,0]) [dF 60 [] [dP 0 0],dP 2 0,dP 2 0,dP 2 0,dA C,dA C,dS src,dB (decide (I<B)),dI B,dS src,dP 3 0,dP 4 0,dP 5 0,dS src]),O,K,L,M,H]) (Ow ((0:Int)<=E/\E<=B/\List.length src<=4611686018427387904) (Jm P { tm:=[(0,D.yld 1),(1,dP 0 0)],ob:=[J,(1,Ob.gen (Gen.loop LoopState.ready none #[17,18] F G 29 [16,15,5,14,13,12,11,10,9,8,4,3,2,0]) [dF 60 [] [dP 0 0],dP 2 0,dP 2 0,dP 2 0,dA C,dA C,dS src,dB (decide (I<B)),dI B,dS src,dP 3 0,dP 4 0,dP 5 0,dS src]),(2,oC [dS src,dI (↑(ZY src (Int.toNat E)):Int)]),K,L,M,H] })))) (Ow (Ob.gen (Gen.loop LoopState.ready none #[17,18] F G 29 [16,15,5,14,13,12,11,10,9,8,4,3,2,0]) [dF 60 [] [dP 1 0],dP 2 0,dP 2 0,dP 2 0,dA C,dA C,dS src,dB (decide (I<B)),dI B,dS src,dP 3 0,dP 4 0,dP 5 0,dS src]=Ob.gen (Gen.loop LoopState.ready none #[17,18] F G 29 [16,15,5,14,13,12,11,10,9,8,4,3,2,0]) [dF 60 [] [dP 1 0],dP 2 0,dP 2 0,dP 2 0,dA C,dA C,dS src,dB (decide (I<B)),dI B,dS src,dP 3 0,dP 4 0,dP 5 0,dS src]/\47=47) (Rt N [J,(1,Ob.gen (Gen.loop LoopState.done (some Code.ret) #[17,18] F G 29 [16,15,5,14,13,12,11,10,9,8,4,3,2,0]) [dF 60 [] [dP 0 0],dP 2 0,dP 2 0,dP 2 0,dA C,dA C,dS src,dB (decide (I<B)),dI B,dS src,dP 3 0,dP 4 0,dP 5 0,dS src]),O,(3,oC [dI (Prod.snd A)]),(4,oC [dI i]),(5,oC [D.nils])])))) (Rt N [J,(1,Ob.gen (Gen.loop LoopState.ready none #[17,18] F G 29 [16,15,5,14,13,12,11,10,9,8,4,3,2,0]) [dF 60 [] [dP 0 0],dP 2 0,dP 2 0,dP 2 0,dA C,dA C,dS src,dB (decide (I<B)),dI B,dS src,dP 3 0,dP 4 0,dP 5 0,dS src]),(2,oC [dS src,dI i]),K,L,M,(6,oR true 3 47 acc)]):Tr):=by intro A B C E F G H I J K L M N O P;kernel_rfl
def obA (src:LU) (i a e:Int) (acc:List Tk):Obs:=match acc with
 | []=>obN src i a e .ready none
 | t::r=>obV src i a e .ready none ((t::r).map Zq)
def outA (src:LU) (a e:Int) (acc:List Tk) (r:List Tk × Option (Nat × Int) × Nat):Obs:=match r.2.1 with
 | some (a1,e1)=>obN src r.2.2 a1 e1 .done (some .ret)
 | none=>obA src r.2.2 a e (acc++r.1)
theorem ZjR (src:LU) (a e:Int) (hl:src.length<=281474976710656): ∀ (f i:Nat) (acc:List Tk),src.length-i<f->i<=src.length->acc.length+(src.length-i)<=1073741824 →
  At Tryz.prog 6 (cut sc60 0) (hdA (obA src i a e acc)) (FinQ false 6 rs60 fun r ob=>r= .tuple []/\ob=outA src a e acc (Z1p f i (src.drop i))):=by
 intro f
 induction f with
 | zero=>intro i acc hf hi hb; omega
 | succ f ih =>
  intro i acc hf hi hb
  have hend: ¬ (i<src.length)->Z1p (f+1) i (src.drop i)=([],none,i):=fun h=>by
   rw[List.drop_eq_nil_of_le (by omega)]; rfl
  have hgo:i<src.length->Z1p (f+1) i (src.drop i)=if (tok (src.drop i)).2.2=0 then
    (((tok (src.drop i)).1,(tok (src.drop i)).2.1,(i:Int))::(Z1p f (ZY src (i+(tok (src.drop i)).2.1.length)) (src.drop (ZY src (i+(tok (src.drop i)).2.1.length)))).1,
     (Z1p f (ZY src (i+(tok (src.drop i)).2.1.length)) (src.drop (ZY src (i+(tok (src.drop i)).2.1.length)))).2)
    else ([],some (i,(tok (src.drop i)).2.2),i+(tok (src.drop i)).2.1.length):=fun h=>by
   rw[Z14 (d:=0) h]
   simp only[Z1p]
   rw[<- Z14 (d:=0) h,List.drop_drop,List.drop_drop]
   unfold ZY
   rw[Nat.add_assoc i]
  have hlen:=Lx.Z2B (src.drop i)
  rw[List.length_drop] at hlen
  have hne:i<src.length->src.drop i≠[]:=fun h he=>by
   have:=congrArg List.length he
   rw[List.length_drop] at this
   simp at this; omega
  have hsk:=Z3B (s:=src) (i:=i+(tok (src.drop i)).2.1.length) (by omega)
  have hsk2:i+(tok (src.drop i)).2.1.length<=ZY src (i+(tok (src.drop i)).2.1.length):=by unfold ZY; omega
  cases acc with
  | nil =>
   refine At.tree (Z8 Z1l Zb3) (Zks src i a e) ?_
   simp only[Z07,Qh,Q3,Z0Y,decide_eq_true_eq,decide_eq_false_iff_not,Int.toNat_natCast,true_and,Bool.not_eq_true',Bool.not_eq_false',Int.ofNat_lt]
   refine⟨fun h=>⟨⟨by omega,h,hl⟩,fun he=>⟨fun h'=>absurd he h',fun _=>⟨by omega, ?_⟩⟩,fun he=> ?_⟩,fun h=> ?_⟩
   ·have hp:=Z04 (hne h) he
    have:=ih (ZY src (i+(tok (src.drop i)).2.1.length)) [((tok (src.drop i)).1,(tok (src.drop i)).2.1,(i:Int))] (by omega) hsk (by simp only[List.length_cons,List.length_nil] at hb ⊢; omega)
    rw[hgo h,if_pos he]
    exact this
   ·rw[hgo h,if_neg he]; rfl
   ·rw[hend h]; rfl
  | cons t r =>
   refine At.tree (Z8 Z1l Zb3) (Zkr src i a e ((t::r).map Zq)) ?_
   simp only[Z07,Qh,Q3,Z0Y,decide_eq_true_eq,decide_eq_false_iff_not,Int.toNat_natCast,true_and,Bool.not_eq_true',Bool.not_eq_false',Int.ofNat_lt,List.length_map]
   refine⟨fun h=>⟨⟨by omega,h,hl⟩,fun he=>⟨by simp only[List.length_cons] at hb ⊢; omega,fun h'=>absurd he h',fun _=>⟨by omega, ?_⟩⟩,fun he=> ?_⟩,fun h=> ?_⟩
   ·have hp:=Z04 (hne h) he
    have:=ih (ZY src (i+(tok (src.drop i)).2.1.length)) (t::r++[((tok (src.drop i)).1,(tok (src.drop i)).2.1,(i:Int))]) (by omega) hsk (by simp only[List.length_cons,List.length_append,List.length_nil] at hb ⊢; omega)
    rw[hgo h,if_pos he]
    simp only[outA,List.append_assoc,List.cons_append,List.nil_append] at this ⊢
    simp only[obA,List.map_cons,List.map_append,List.cons_append] at this ⊢
    exact this
   ·rw[hgo h,if_neg he]; rfl
   ·rw[hend h]
    simp only[outA,List.append_nil]
    rfl
def runA (src:LU) (i:Nat):List Tk × Option (Nat × Int) × Nat:=Z1p (src.length+1) (ZY src i) (src.drop (ZY src i))
theorem ZgY (src:LU) (i:Nat) (a e:Int) (hi:i<=src.length) (hl:src.length<=1073741824):CallL Tryz.prog (.func (.func 60) [] [.ptr 0 0]) [.yld 1] (obN src i a e .ready none)
  fun r ob=>r= .tuple []/\ob=outA src a e [] (runA src i):=by
 refine CallL.tree Z7 fp60 (Z8 Z1l Zb3) (Zkt src i a e) ?_
 simp only[Qh,Z0Y,Int.toNat_natCast]
 have:=Z3B hi
 exact⟨⟨by omega,by omega,by omega⟩,ZjR src a e (by omega) _ (ZY src i) [] (by omega) this (by simp only[List.length_nil]; omega)⟩
def a1Q:QT:=fun d xs ob=>match d,xs,ob with
 | .func (.func f) [] [.ptr 0 0],[.yld 1],[(0,.cells [.ptr 2 0]),(1,.gen g ds),(2,.cells [.str src,.int .i64 i]),(3,.cells [.int .i64 e]),(4,.cells [.int .i64 a]),(5,.cells [.nils])]=>if f=60 then
   some (.br (runA src i.toNat).2.1.isSome (.ok (Ob.gen g ds=recL src .ready none/\0<=i/\i<=src.length/\src.length<=1073741824) (.tuple []) (obN src (runA src i.toNat).2.2 ((runA src i.toNat).2.1.getD (0,0)).1 ((runA src i.toNat).2.1.getD (0,0)).2 .done (some .ret)))
    (.br (decide ((runA src i.toNat).1=[])) (.ok (Ob.gen g ds=recL src .ready none/\0<=i/\i<=src.length/\src.length<=1073741824) (.tuple []) (obN src (runA src i.toNat).2.2 a e .ready none))
     (.ok (Ob.gen g ds=recL src .ready none/\0<=i/\i<=src.length/\src.length<=1073741824) (.tuple []) (obV src (runA src i.toNat).2.2 a e .ready none ((runA src i.toNat).1.map Zq))))) else none
 | .func (.func f) [] [],[.ptr 0 0],[(0,.cells [.str src,.int .i64 i])]=>if f=31 then some (.ok True (.func (.func 60) [] [.ptr 1 0]) [(0,.cells [.str src,.int .i64 i]),(1,.cells [.ptr 0 0])]) else none
 | _,_,_=>none
theorem ZjS:a1Q.OK:=by
 intro d xs ob rt h
 unfold a1Q at h
 split at h
 ·rename_i f g ds src i e a
  split at h
  ·rename_i hf
   subst hf
   cases h
   have key:Ob.gen g ds=recL src .ready none->0<=i->i<=src.length->src.length<=1073741824->CallL Tryz.prog (.func (.func 60) [] [.ptr 0 0]) [.yld 1] [(0,.cells [.ptr 2 0]),(1,.gen g ds),(2,.cells [.str src,.int .i64 i]),(3,.cells [.int .i64 e]),(4,.cells [.int .i64 a]),(5,.cells [.nils])]
     fun r ob=>r= .tuple []/\ob=outA src a e [] (runA src i.toNat):=fun hg h0 h1 h2=>by
    rw[hg]
    have:=ZgY src i.toNat a e (by omega) h2
    rw[Int.toNat_of_nonneg h0] at this
    exact this
   unfold outA at key
   cases hs:(runA src i.toNat).2.1 with
   | some x =>
    rw[hs] at key
    exact fun hp=>key hp.1 hp.2.1 hp.2.2.1 hp.2.2.2
   | none =>
    rw[hs] at key
    simp only[List.nil_append] at key
    cases hr:(runA src i.toNat).1 with
    | nil =>
     rw[hr] at key
     exact fun hp=>key hp.1 hp.2.1 hp.2.2.1 hp.2.2.2
    | cons t r =>
     rw[hr] at key
     exact fun hp=>key hp.1 hp.2.1 hp.2.2.1 hp.2.2.2
  ·cases h
 ·rename_i f src i
  split at h
  ·rename_i hf
   subst hf
   cases h
   intro _
   exact CallL.tree Z7 fp31 (Z8 Z1l Z2O) (ZhH src i) ⟨rfl,rfl⟩
  ·cases h
 ·cases h
theorem Zhm (src:LU):let A:=SC.block 1 (SC.seq (SC.seq (SC.reg [so 19 AOp.mv [xt 7],so 20 (AOp.bin BinOp.neq) [xt 19,xc (dI 0)]]) (SC.cond (xt 20) (SC.seq (SC.drw [0,1,0,0,11,31] [so 21 (AOp.faddr 2) [xt 6],so 22 (AOp.load false 1) [xt 21],so 23 AOp.mv [xt 7],SOp.st none (SK.c 1) (xt 2) (xc D.nils),SOp.st none (SK.c 1) (xt 3) (xt 22),SOp.st none (SK.c 1) (xt 4) (xt 23)]) SC.ret) SC.skip)) (SC.reg [so 24 (AOp.load false 1) [xt 2],so 25 (AOp.load true 3) [xt 6],so 26 (AOp.bslice true 3 1 47 [dU 0,dS [],dI 0] [(0,3)]) [xt 25],SOp.app 27 none true 3 47 (xt 24) (xt 26),SOp.st none (SK.c 1) (xt 2) (xt 27)]));let B:=(↑(List.length src):Int);let C:=SC.seq (SC.reg [so 6 (AOp.alloc [dU 0,dS [],dI 0]) [],SOp.st none (SK.c 3) (xt 6) (xt 17)]) (SC.reg [so 7 AOp.mv [xt 18]]);let E:=[dS src,dI 0];let F:=Prod.fst (Prod.snd (runA src 0));let G:=(32768:Int);let H:=SC.rngA sc11 0;let I:=SC.rngB sc11 0;let J:=(Option.getD F (0,(0:Int)));let K:=runA src 0;gP (ctr nxP a1Q) rs11 sc11 [dS src]=(brT (decide (G<B)) (Rt (D.tuple [dL [] [],dI 0,dI 3]) []) (Ow True (brT (Option.isSome F) (Ow (Ob.gen (Gen.loop LoopState.ready none #[17,18] C A 29 [16,15,5,14,13,12,11,10,9,8,4,3,2,0]) [dF 60 [] [dP 0 0],dP 2 0,dP 2 0,dP 2 0,dA E,dA E,dS src,dB (decide (G<B)),dI B,dS src,dP 3 0,dP 4 0,dP 5 0,dS src]=Ob.gen (Gen.loop LoopState.ready none #[17,18] H I 29 [16,15,5,14,13,12,11,10,9,8,4,3,2,0]) [dF 60 [] [dP 0 0],dP 2 0,dP 2 0,dP 2 0,dA E,dA E,dS src,dB (decide (G<B)),dI B,dS src,dP 3 0,dP 4 0,dP 5 0,dS src]/\(0:Int)<=(0:Int)/\(0:Int)<=B/\List.length src<=1073741824) (Rt (D.tuple [dL [] [],dI (↑(Prod.fst J):Int),dI (Prod.snd J)]) [])) (brT (decide (Prod.fst K=[])) (Ow (Ob.gen (Gen.loop LoopState.ready none #[17,18] C A 29 [16,15,5,14,13,12,11,10,9,8,4,3,2,0]) [dF 60 [] [dP 0 0],dP 2 0,dP 2 0,dP 2 0,dA E,dA E,dS src,dB (decide (G<B)),dI B,dS src,dP 3 0,dP 4 0,dP 5 0,dS src]=Ob.gen (Gen.loop LoopState.ready none #[17,18] H I 29 [16,15,5,14,13,12,11,10,9,8,4,3,2,0]) [dF 60 [] [dP 0 0],dP 2 0,dP 2 0,dP 2 0,dA E,dA E,dS src,dB (decide (G<B)),dI B,dS src,dP 3 0,dP 4 0,dP 5 0,dS src]/\(0:Int)<=(0:Int)/\(0:Int)<=B/\List.length src<=1073741824) (Rt (D.tuple [dL [] [],dI 0,dI 0]) [])) (Ow (Ob.gen (Gen.loop LoopState.ready none #[17,18] C A 29 [16,15,5,14,13,12,11,10,9,8,4,3,2,0]) [dF 60 [] [dP 0 0],dP 2 0,dP 2 0,dP 2 0,dA E,dA E,dS src,dB (decide (G<B)),dI B,dS src,dP 3 0,dP 4 0,dP 5 0,dS src]=Ob.gen (Gen.loop LoopState.ready none #[17,18] H I 29 [16,15,5,14,13,12,11,10,9,8,4,3,2,0]) [dF 60 [] [dP 0 0],dP 2 0,dP 2 0,dP 2 0,dA E,dA E,dS src,dB (decide (G<B)),dI B,dS src,dP 3 0,dP 4 0,dP 5 0,dS src]/\(0:Int)<=(0:Int)/\(0:Int)<=B/\List.length src<=1073741824) (Rt (D.tuple [dL (List.map Zq (Prod.fst K)) [],dI 0,dI 0]) []))))):Tr):=by intro A B C E F G H I J K;kernel_rfl
theorem Za6 (src:LU):FK 11 [.str src] (.tuple [.slice ((ZJ src).1.map Zq) [],.int .i64 (ZJ src).2.1,.int .i64 (ZJ src).2.2]):=by
 refine FnOK.tree Z7 fp11 (Z8 Z1l ZjS) (Zhm src) ?_
 simp only[Z07,Qh,Q3,decide_eq_true_eq,decide_eq_false_iff_not,true_and]
 have hr:runA src 0=Z1p (src.length+1) (skp false src) (src.drop (skp false src)):=by
  unfold runA ZY
  rw[List.drop_zero,Nat.zero_add]
 unfold ZJ
 rw[<- hr]
 refine⟨fun h=> ?_,fun h=>⟨fun h1=>⟨⟨rfl,by omega,by omega,by omega⟩, ?_⟩,fun h1=>⟨fun h2=>⟨⟨rfl,by omega,by omega,by omega⟩, ?_⟩,fun h2=>⟨⟨rfl,by omega,by omega,by omega⟩, ?_⟩⟩⟩⟩
 ·rw[if_pos (by omega)]; rfl
 ·rw[if_neg (by omega)]
  rcases hq:runA src 0 with ⟨l,o,p⟩
  rw[hq] at h1
  cases o with
  | none=>cases h1
  | some x=>rfl
 ·rw[if_neg (by omega)]
  rcases hq:runA src 0 with ⟨l,o,p⟩
  rw[hq] at h1 h2
  cases o with
  | none=>simp only at h2; subst h2; rfl
  | some x=>cases h1
 ·rw[if_neg (by omega)]
  rcases hq:runA src 0 with ⟨l,o,p⟩
  rw[hq] at h1 h2
  cases o with
  | none=>rfl
  | some x=>cases h1
end Go.Proofs.YtecgehidegnmnaaGreatDoor
