/- Own work: a layer over the kit: plain data,a walk over it,its soundness. -/
import Derived.Test.YtecgehidegnmnaaGreatDoorLibT
import Derived.Test.YtecgehidegnmnaaGreatDoorSx10
import Derived.Test.YtecgehidegnmnaaGreatDoorSx11
import Derived.Test.YtecgehidegnmnaaGreatDoorSx8
set_option linter.all false
set_option maxRecDepth 100000
/- The parser: where it stands,what it sees. -/
open Go.Sx.Lx (Z1M Z5N Qx Q0 QR Z1S ZM ZW Z42 Qm)
namespace Go.Proofs.YtecgehidegnmnaaGreatDoor
open Go.Sx
open Go.Sx.Lx (Tk Zo)
def psO (ts:List Tk) (i:Int) (so:Bool) (r1 r2 r3:LD):Obs:=[(0,.cells [.slice (ts.map Zo) [],.int .i64 i,.vec 1,.vec 2,.vec 3,.bool so]),(1,.arr true 20 42 r1),(2,.arr true 5 53 r2),(3,.arr true 2 138 r3)]
def eTok (c:List D):Nat->Int->List D:=λ_ _=>c
theorem ZcE (ts:List Tk) (i:Int) (so:Bool) (r1 r2 r3:LD) (k o:Int) (s:LU):let A:=psO ts i so r1 r2 r3;let B:=[dU k,dS s,dI o];let C:=List.map Zo ts;gC (ctr libT Z0e (eTok B)) 10 rs58 sc58 [] [dP 0 0] [] A=(brT (decide (i<(↑(List.length C):Int))) (Ow ((0:Int)<=i/\C[Int.toNat i]? = some B) (Rt (dA B) A)) (Rt (dA [dU 0,dS [],dI 0]) A):Tr):=by intro A B C;kernel_rfl
structure PS where
 ts:List Tk
 so:Bool
 r1:LD
 r2:LD
 r3:LD
 hl:ts.length<=1000000000
 hs: ∀ t∈ts,t.2.1.length<=1000000000
 hv:Ps.Z86 ts
def PS.o (p:PS) (i:Nat):Obs:=psO p.ts i p.so p.r1 p.r2 p.r3
theorem Z3l (p:PS) (i:Nat):CF 58 [.ptr 0 0] (p.o i) λr ob=>r=.agg (Zo (Ps.Zg p.ts i))/\ob=p.o i:=by
 refine CallL.tree Z5 fp58 (Z9 Z3 Z8) (ZcE p.ts i p.so p.r1 p.r2 p.r3 (Ps.Zg p.ts i).1 (Ps.Zg p.ts i).2.2 (Ps.Zg p.ts i).2.1) ?_;simp only[SS,List.length_map,Int.ofNat_lt];refine⟨λh=>⟨⟨by omega,?_⟩,rfl,rfl⟩,λh=>?_⟩
 ·rw[List.getElem?_map,List.getElem?_eq_getElem h];simp only[Ps.Zg,List.getD_eq_getElem?_getD,List.getElem?_eq_getElem h,Option.getD_some,Option.map_some];rfl
 ·have:Ps.Zg p.ts i=(0,[],0):=by simp only[Ps.Zg,List.getD_eq_getElem?_getD,List.getElem?_eq_none (by omega:p.ts.length<=i),Option.getD_none]
  rw[this];exact⟨rfl,rfl⟩
abbrev fltV (a:Nat) (e:Int):Value:=.iface 114 (.agg #[.int .i64 a,.int .i64 e])
theorem ZaH (ts:List Tk) (i e:Int) (so:Bool) (r1 r2 r3:LD):let A:=psO ts i so r1 r2 r3;gC (ctr libT) 10 rs54 sc54 [] [dP 0 0,dI e] [] A=(Rt (D.pan (Value.iface 114 (Value.agg #[valV (dI i),valV (dI e)]))) A:Tr):=by intro A;kernel_rfl
theorem QV (p:PS) (i:Nat) (e:Int):CF 54 [.ptr 0 0,.int .i64 e] (p.o i) λr ob=>r=.pan (fltV i e)/\ob=[]:=by
 refine CallL.pdrop (R:=λr _=>r=.pan (fltV i e)) (CallL.tree Z5 fp54 (Z9 Z3 Z8) (ZaH p.ts i e p.so p.r1 p.r2 p.r3) ?_) λ_ _ h=>h;simp only[SS];rfl
end Go.Proofs.YtecgehidegnmnaaGreatDoor
/- The words of terms. -/
namespace Go.Proofs.YtecgehidegnmnaaGreatDoor
open Go.Sx
def tb (p:UInt8->Bool) (b:Int):Bool:=p (UInt8.ofNat b.toNat)
theorem Z6t (p:UInt8->Bool) (b:UInt8):tb p (b.toNat:Int)=p b:=by simp[tb]
theorem Z5r (p:UInt8->Bool) (b:Int) (a:0<=b/\b<256) {q:Int->Bool} (h:(List.range 256).all (λn=>tb p (n:Int) == q (n:Int))=true):tb p b=q b:=by
 have:=List.all_eq_true.1 h b.toNat (List.mem_range.2 (by omega));rw[Int.toNat_of_nonneg a.1] at this;simpa using this
theorem Zgx (b:Int):gP (ctr libT) rs42 sc42 [dU b]=(brT (decide ((97:Int)<=b)) (Rt (dB (decide (b<=(122:Int)))) []) (Rt (dB false) []):Tr):=by kernel_rfl
theorem Zgv (b:Int):gP (ctr libT) Zby Zbp [dU b]=(brT (decide ((65:Int)<=b)) (Rt (dB (decide (b<=(90:Int)))) []) (Rt (dB false) []):Tr):=by kernel_rfl
theorem Zgy (b:Int):gP (ctr libT) Zbx Zbo [dU b]=(brT (decide ((48:Int)<=b)) (Rt (dB (decide (b<=(57:Int)))) []) (Rt (dB false) []):Tr):=by kernel_rfl
theorem ZfD (b:Int) (a:0<=b/\b<256):FK 42 [.int .u8 b] (.bool (tb Z1M b)):=by
 refine FnOK.tree Z5 fp42 (Z9 Z3 Z8) (Zgx b) ?_;rw[Z5r Z1M b a (q:=λb=>decide (97<=b) && decide (b<=122)) (by kernel_rfl)];cases h:decide (97<=b)<;>simp[brT,Zn]
theorem ZdS (b:Int) (a:0<=b/\b<256):FK 123 [.int .u8 b] (.bool (tb Z5N b)):=by
 refine FnOK.tree Z5 ZfW (Z9 Z3 Z8) (Zgv b) ?_;rw[Z5r Z5N b a (q:=λb=>decide (65<=b) && decide (b<=90)) (by kernel_rfl)];cases h:decide (65<=b)<;>simp[brT,Zn]
theorem Zg6 (b:Int) (a:0<=b/\b<256):FK 124 [.int .u8 b] (.bool (tb Qx b)):=by
 refine FnOK.tree Z5 ZfV (Z9 Z3 Z8) (Zgy b) ?_;rw[Z5r Qx b a (q:=λb=>decide (48<=b) && decide (b<=57)) (by kernel_rfl)];cases h:decide (48<=b)<;>simp[brT,Zn]
def bytP:PT:=λf xs=>match xs with
 |[.int .u8 b]=>if f=42 then some (.ok (0<=b/\b<256) (.bool (tb Z1M b)) []) else if f=123 then some (.ok (0<=b/\b<256) (.bool (tb Z5N b)) [])
  else if f=124 then some (.ok (0<=b/\b<256) (.bool (tb Qx b)) []) else none
 |_=>none
theorem Zge:bytP.OK:=by
 intro f xs rt h;unfold bytP at h;split at h
 ·split at h
  ·rename_i hf;subst hf;cases h;exactλhp=>ZfD _ hp
  split at h
  ·rename_i hf;subst hf;cases h;exactλhp=>ZdS _ hp
  split at h
  ·rename_i hf;subst hf;cases h;exactλhp=>Zg6 _ hp
  ·cases h
 ·cases h
theorem Zha (b:Int):gC (ctr libT) 0 rs42 sc42 [] [dU b] [] []=(brT (decide ((97:Int)<=b)) (Rt (dB (decide (b<=(122:Int)))) []) (Rt (dB false) []):Tr):=by kernel_rfl
theorem Zh9 (b:Int):gC (ctr libT) 0 Zby Zbp [] [dU b] [] []=(brT (decide ((65:Int)<=b)) (Rt (dB (decide (b<=(90:Int)))) []) (Rt (dB false) []):Tr):=by kernel_rfl
theorem Zhc (b:Int):gC (ctr libT) 0 Zbx Zbo [] [dU b] [] []=(brT (decide ((48:Int)<=b)) (Rt (dB (decide (b<=(57:Int)))) []) (Rt (dB false) []):Tr):=by kernel_rfl
theorem Zhb (b:Int):let A:=Rt (dB true) [];let B:=(256:Int);gC (ctr bytP) 0 rs77 sc77 [] [dU b] [] []=(Ow ((0:Int)<=b/\b<B) (brT (tb Z1M b) A (Ow ((0:Int)<=b/\b<B) (brT (tb Z5N b) A (Ow ((0:Int)<=b/\b<B) (brT (tb Qx b) A (Rt (dB (decide (b=(95:Int)))) [])))))):Tr):=by intro A B;kernel_rfl
theorem ZfE (b:Int) (a:0<=b/\b<256):CF 42 [.int .u8 b] [] λr ob=>r=.bool (tb Z1M b)/\ob=[]:=by
 refine CallL.tree Z5 fp42 (Z9 Z3 Z8) (Zha b) ?_;rw[Z5r Z1M b a (q:=λb=>decide (97<=b) && decide (b<=122)) (by kernel_rfl)];cases h:decide (97<=b)<;>simp[brT,Zn]
theorem ZdT (b:Int) (a:0<=b/\b<256):CF 123 [.int .u8 b] [] λr ob=>r=.bool (tb Z5N b)/\ob=[]:=by
 refine CallL.tree Z5 ZfW (Z9 Z3 Z8) (Zh9 b) ?_;rw[Z5r Z5N b a (q:=λb=>decide (65<=b) && decide (b<=90)) (by kernel_rfl)];cases h:decide (65<=b)<;>simp[brT,Zn]
theorem Zg7 (b:Int) (a:0<=b/\b<256):CF 124 [.int .u8 b] [] λr ob=>r=.bool (tb Qx b)/\ob=[]:=by
 refine CallL.tree Z5 ZfV (Z9 Z3 Z8) (Zhc b) ?_;rw[Z5r Qx b a (q:=λb=>decide (48<=b) && decide (b<=57)) (by kernel_rfl)];cases h:decide (48<=b)<;>simp[brT,Zn]
theorem ZfM (b:Int) (a:0<=b/\b<256):CF 77 [.int .u8 b] [] λr ob=>r=.bool (tb Q0 b)/\ob=[]:=by
 refine CallL.tree Z5 fp77 (Z9 Zge Z8) (Zhb b) ?_;rw[Z5r Q0 b a (q:=λb=>tb Z1M b ||tb Z5N b ||tb Qx b ||decide (b=95)) (by kernel_rfl)];simp only[Qw,Zs,Zn];refine⟨a,λh1=>by simp[h1],λh1=>⟨a,λh2=>by simp[h2],λh2=>⟨a,λc=>by simp[c],λc=>by simp[h1,h2,c]⟩⟩⟩
def bytF (f:FuncId):Option (UInt8->Bool):=if f=42 then some Z1M else if f=123 then some Z5N else if f=124 then some Qx else if f=77 then some Q0 else none
theorem Zgf {f:FuncId} {p:UInt8->Bool} (h:bytF f=some p) (b:Int) (a:0<=b/\b<256):CallL Tryz.prog (.func (.func f) [] []) [.int .u8 b] [] λr ob=>r=.bool (tb p b)/\ob=[]:=by
 unfold bytF at h;split at h
 ·rename_i hf;subst hf;cases h;exact ZfE b a
 split at h
 ·rename_i hf;subst hf;cases h;exact ZdT b a
 split at h
 ·rename_i hf;subst hf;cases h;exact Zg7 b a
 split at h
 ·rename_i hf;subst hf;cases h;exact ZfM b a
 ·cases h
def bytQ:QT:=λd xs ob=>match d,xs,ob with
 |.func (.func f) [] [],[.int .u8 b],[]=>match bytF f with
  |some p=>some (.ok (0<=b/\b<256) (.bool (tb p b)) [])
  |none=>none
 |_,_,_=>none
theorem Z1v:bytQ.OK:=by
 intro d xs ob rt h;unfold bytQ at h;split at h
 ·split at h
  ·rename_i p hp;cases h;exactλa=>Zgf hp _ a
  ·cases h
 ·cases h
theorem ZcT (s:LU):gC (ctr libT bytQ) 0 rs76 sc76 [] [dS s,dF 124 [] []] [] []=(Jm (cut sc76 0) {tm:=[(0,dS s),(1,dF 124 [] []),(7,dI (↑(List.length s):Int)),(8,dI 0)],ob:=[]}:Tr):=by kernel_rfl
theorem ZcS (s:LU):gC (ctr libT bytQ) 0 rs76 sc76 [] [dS s,dF 77 [] []] [] []=(Jm (cut sc76 0) {tm:=[(0,dS s),(1,dF 77 [] []),(7,dI (↑(List.length s):Int)),(8,dI 0)],ob:=[]}:Tr):=by kernel_rfl
def ZbT (f:FuncId) (s:LU) (i:Int):St:=⟨[(0,.str s),(1,.func (.func f) [] []),(7,.int .i64 s.length),(8,.int .i64 i)],[]⟩
theorem Z5c (s:LU) (i:Int):let A:=(↑(UInt8.toNat (List.getD s (Int.toNat i) (0:UInt8))):Int);let B:=(↑(List.length s):Int);let C:=cut sc76 0;let E:=(i+(1:Int));gH (ctr libT bytQ) 0 false rs76 C (ZbT 124 s i)=(brT (decide (i<B)) (Ow ((0:Int)<=i/\i<B) (Ow ((0:Int)<=A/\A<(256:Int)) (brT (!tb Qx A) (Rt (dB false) []) (I8 E (Jm C {tm:=[(0,dS s),(1,dF 124 [] []),(7,dI B),(8,dI E)],ob:=[]}))))) (Rt (dB true) []):Tr):=by intro A B C E;kernel_rfl
theorem Z5b (s:LU) (i:Int):let A:=(↑(UInt8.toNat (List.getD s (Int.toNat i) (0:UInt8))):Int);let B:=(↑(List.length s):Int);let C:=cut sc76 0;let E:=(i+(1:Int));gH (ctr libT bytQ) 0 false rs76 C (ZbT 77 s i)=(brT (decide (i<B)) (Ow ((0:Int)<=i/\i<B) (Ow ((0:Int)<=A/\A<(256:Int)) (brT (!tb Q0 A) (Rt (dB false) []) (I8 E (Jm C {tm:=[(0,dS s),(1,dF 77 [] []),(7,dI B),(8,dI E)],ob:=[]}))))) (Rt (dB true) []):Tr):=by intro A B C E;kernel_rfl
theorem Z77 {p:UInt8->Bool} {s:LU} {i:Nat} (h:i<s.length):(s.drop i).all p=(p (s.getD i 0) && (s.drop (i+1)).all p):=by
 rw[List.drop_eq_getElem_cons h,List.all_cons,List.getD_eq_getElem?_getD,List.getElem?_eq_getElem h];rfl
theorem Zgn (s:LU) (hl:s.length<=4611686018427387904): ∀ (m i:Nat),s.length-i=m->i<=s.length →
  At Tryz.prog 0 (cut sc76 0) (ZbT 124 s i) (FinQ false 0 rs76 λr ob=>r=.bool ((s.drop i).all Qx)/\ob=[]):=by
 intro m;induction m with
 |zero =>
  intro i hm hi;refine At.tree (Z9 Z3 Z1v) (Z5c s i) ?_;rw[List.drop_eq_nil_of_le (by omega)];simp only[SS];exact⟨λh=>by omega,λ_=>rfl⟩
 |succ m a =>
  intro i hm hi;refine At.tree (Z9 Z3 Z1v) (Z5c s i) ?_;rw[Z77 (by omega)];simp only[SS,Z6t];refine⟨λ_=>⟨by omega,Z61 _ _,λh=>by simp only[h,Bool.false_and],λh=>⟨by omega,?_⟩⟩,λh=>by omega⟩;rw[h,Bool.true_and];exact a (i+1) (by omega) (by omega)
theorem Zgm (s:LU) (hl:s.length<=4611686018427387904): ∀ (m i:Nat),s.length-i=m->i<=s.length →
  At Tryz.prog 0 (cut sc76 0) (ZbT 77 s i) (FinQ false 0 rs76 λr ob=>r=.bool ((s.drop i).all Q0)/\ob=[]):=by
 intro m;induction m with
 |zero =>
  intro i hm hi;refine At.tree (Z9 Z3 Z1v) (Z5b s i) ?_;rw[List.drop_eq_nil_of_le (by omega)];simp only[SS];exact⟨λh=>by omega,λ_=>rfl⟩
 |succ m a =>
  intro i hm hi;refine At.tree (Z9 Z3 Z1v) (Z5b s i) ?_;rw[Z77 (by omega)];simp only[SS,Z6t];refine⟨λ_=>⟨by omega,Z61 _ _,λh=>by simp only[h,Bool.false_and],λh=>⟨by omega,?_⟩⟩,λh=>by omega⟩;rw[h,Bool.true_and];exact a (i+1) (by omega) (by omega)
def allQ:QT:=λd xs ob=>match d,xs,ob with
 |.func (.func f) [] [],[.str s,.func (.func g) [] []],[]=>if f=76 then (if g=124 then some (.ok (s.length<=4611686018427387904) (.bool (s.all Qx)) [])
   else if g=77 then some (.ok (s.length<=4611686018427387904) (.bool (s.all Q0)) []) else none) else none
 |_,_,_=>none
theorem Zax:allQ.OK:=by
 intro d xs ob rt h;unfold allQ at h;split at h
 ·rename_i f s g;split at h
  ·rename_i hf;subst hf;split at h
   ·rename_i a;subst a;cases h;exactλhl=>CallL.tree Z5 fp76 (Z9 Z3 Z1v) (ZcT s) (Zgn s hl _ 0 rfl (Nat.zero_le _))
   split at h
   ·rename_i a;subst a;cases h;exactλhl=>CallL.tree Z5 fp76 (Z9 Z3 Z1v) (ZcS s) (Zgm s hl _ 0 rfl (Nat.zero_le _))
   ·cases h
  ·cases h
 ·cases h
end Go.Proofs.YtecgehidegnmnaaGreatDoor
/- Symbol and Variable. -/
namespace Go.Proofs.YtecgehidegnmnaaGreatDoor
open Go.Sx
theorem Zcs (s t:LU):let A:=(↑(List.length t):Int);let B:=(↑(List.length s):Int);gP (ctr libT) ZeV Zeb [dS s,dS t]=(brT (decide (A<=B)) (Ow ((0:Int)<=(0:Int)/\(0:Int)<=A/\A<=B) (Rt (dB (decide (List.drop 0 (List.take (Int.toNat A) s)=t))) [])) (Rt (dB false) []):Tr):=by intro A B;kernel_rfl
theorem ZfQ (s t:LU):FK 171 [.str s,.str t] (.bool (t.isPrefixOf s)):=by
 refine FnOK.tree Z5 ZiQ (Z9 Z3 Z8) (Zcs s t) ?_;simp only[SS,Int.ofNat_le];refine⟨λh=>⟨by omega,?_⟩,λh=>?_⟩
 ·rw[Bool.eq_iff_iff,decide_eq_true_eq,List.isPrefixOf_iff_prefix,List.prefix_iff_eq_take];exact eq_comm
 ·rw[eq_comm,<- Bool.not_eq_true,List.isPrefixOf_iff_prefix];exactλhp=>h hp.length_le
theorem Zgw (s:LU) (c:Int):gP (ctr libT) Z92 Z7B [dS s,dU c]=(Jm (cut Z7B 0) {tm:=[(0,dS s),(1,dU c)],ob:=[]}:Tr):=by kernel_rfl
def ZfN (s:LU) (c:Int):St:=⟨[(0,.str s),(1,.int .u8 c)],[]⟩
theorem Z7a (s:LU) (c:Int):let A:=(↑(List.length s):Int);let B:=Rt (dS s) [];let C:=cut Z7B 0;gH (ctr libT) 0 true Z92 C (ZfN s c)=(brT (decide ((0:Int)<A)) (Ow ((0:Int)<=(0:Int)/\(0:Int)<A) (brT (decide ((↑(UInt8.toNat (List.getD s 0 (0:UInt8))):Int)=c)) (Ow ((0:Int)<=(1:Int)/\(1:Int)<=A/\A<=A) (Jm C {tm:=[(0,dS (List.drop 1 (List.take (Int.toNat A) s))),(1,dU c)],ob:=[]})) B)) B:Tr):=by intro A B C;kernel_rfl
theorem Zdd (c:UInt8): ∀ (s:LU),At Tryz.prog 0 (cut Z7B 0) (ZfN s c.toNat) (FinQ true 0 Z92 λr _=>r=.str (s.dropWhile (· == c)))
 |[]=>by
  refine At.tree (Z9 Z3 Z8) (Z7a [] c.toNat) ?_;simp[Qw,Zs,Zn]
 |b::r=>by
  refine At.tree (Z9 Z3 Z8) (Z7a (b::r) c.toNat) ?_;simp only[SS,List.length_cons,List.getD_cons_zero];refine⟨λ_=>⟨by omega,λh=>⟨by omega,?_⟩,λh=>?_⟩,λh=>by omega⟩
  ·have a:b=c:=UInt8.toNat_inj.1 (by omega)
   have:=Zdd c r;simp only[List.dropWhile_cons,a,beq_self_eq_true,if_true];simpa [Int.toNat_natCast,ZfN] using this
  ·have a:b≠c:=λh'=>h (by rw[h']);simp[List.dropWhile_cons,a]
theorem Zhz (s:LU) (c:UInt8):FK 119 [.str s,.int .u8 c.toNat] (.str (s.dropWhile (· == c))) :=
 FnOK.tree Z5 Zjd (Z9 Z3 Z8) (Zgw s c.toNat) (Zdd c s)
def strP:PT:=λf xs=>if f=119 then match xs with
  |[.str s,.int .u8 c]=>some (.ok (0<=c/\c<256) (.str (s.dropWhile (· == UInt8.ofNat c.toNat))) [])
  |_=>none
 else if f=171 then match xs with
  |[.str s,.str t]=>some (.ok True (.bool (t.isPrefixOf s)) [])
  |_=>none
 else none
theorem Z5s:strP.OK:=by
 intro f xs rt h;unfold strP at h;split at h
 ·rename_i hf;subst hf;split at h
  ·rename_i s c;cases h;intro hc
   have:=Zhz s (UInt8.ofNat c.toNat);rwa [show ((UInt8.ofNat c.toNat).toNat:Int)=c by rw[UInt8.toNat_ofNat_of_lt' (by show _<256;omega)];omega] at this
  ·cases h
 split at h
 ·rename_i hf;subst hf;split at h
  ·cases h;exactλ_=>ZfQ _ _
  ·cases h
 ·cases h
theorem ZaI (s:LU):gP (ctr strP) rs75 sc75 [dS s,dS [95]]=(brT (decide (s=[])) (Rt (dS s) []) (Ow ((0:Int)<=(0:Int)/\(0:Int)<(1:Int)) (Ow ((0:Int)<=(0:Int)/\(0:Int)<(1:Int)) (Ow ((0:Int)<=(95:Int)/\(95:Int)<(256:Int)) (Rt (dS (List.dropWhile (λx=>x == UInt8.ofNat 95) s)) [])))):Tr):=by kernel_rfl
theorem Zbg (s:LU):FK 75 [.str s,.str [95]] (.str (s.dropWhile QR)):=by
 refine FnOK.tree Z5 fp75 (Z9 Z5s Z8) (ZaI s) ?_;simp only[SS];refine⟨λh=>by rw[h];rfl,λh=>⟨by decide,by decide,by decide,rfl⟩⟩
theorem Zct (s t:LU):let A:=(↑(List.length s):Int);let B:=(↑(List.length t):Int);gP (ctr strP) Zf0 Zeg [dS s,dS t]=(Ow True (brT (!List.isPrefixOf t s) (Rt (D.tuple [dS s,dB false]) []) (Ow ((0:Int)<=B/\B<=A/\A<=A) (Rt (D.tuple [dS (List.drop (Int.toNat B) (List.take (Int.toNat A) s)),dB true]) []))):Tr):=by intro A B;kernel_rfl
theorem Zg9 (s t:LU):FK 157 [.str s,.str t] (if t.isPrefixOf s=true then .tuple [.str (s.drop t.length),.bool true] else .tuple [.str s,.bool false]):=by
 refine FnOK.tree Z5 ZiW (Z9 Z5s Z8) (Zct s t) ?_;simp only[SS];refine⟨λh=>by rw[if_neg (by simp[h])],λh=>?_⟩;have hl:=(List.isPrefixOf_iff_prefix.1 h).length_le;rw[if_pos h];exact⟨by omega,rfl⟩
def Zad:PT:=λf xs=>if f=157 then match xs with
  |[.str s,.str t]=>some (.br (t.isPrefixOf s) (.ok True (.tuple [.str (s.drop t.length),.bool true]) []) (.ok True (.tuple [.str s,.bool false]) []))
  |_=>none
 else if f=75 then match xs with
  |[.str s,.str [95]]=>some (.ok True (.str (s.dropWhile QR)) [])
  |_=>none
 else none
theorem Z4p:Zad.OK:=by
 intro f xs rt h;unfold Zad at h;split at h
 ·rename_i hf;subst hf;split at h
  ·rename_i s t;cases h
   have:=Zg9 s t;cases hp:t.isPrefixOf s<;>(rw[hp] at this;exactλ_=>this)
  ·cases h
 split at h
 ·rename_i hf;subst hf;split at h
  ·cases h;exactλ_=>Zbg _
  ·cases h
 ·cases h
theorem ZaG (s t:LU):gP (ctr Zad) Zfc Zes [dS s,dS t]=(brT (List.isPrefixOf t s) (Ow True (Rt (D.tuple [dS (List.drop (List.length t) s),dB true]) [])) (Ow True (Rt (D.tuple [dS s,dB false]) [])):Tr):=by kernel_rfl
theorem Zc8 (s t:LU):FK 128 [.str s,.str t] (if t.isPrefixOf s=true then .tuple [.str (s.drop t.length),.bool true] else .tuple [.str s,.bool false]):=by
 refine FnOK.tree Z5 Zja (Z9 Z4p Z8) (ZaG s t) ?_;simp only[SS];exact⟨λh=>by rw[if_pos h],λh=>by rw[if_neg (by simp[h])]⟩
def wqQ:QT:=bytQ.or allQ
theorem ZcV:wqQ.OK:=QT.or_ok Z1v Zax
noncomputable def ZdD (s:LU):Tr:=Ow True (brT (!decide (List.dropWhile QR s=[])) (Ow ((0:Int)<=(0:Int)/\(0:Int)<(↑(List.length (List.dropWhile QR s)):Int)) (Ow ((0:Int)<=(↑(UInt8.toNat (List.getD (List.dropWhile QR s) 0 (0:UInt8))):Int)/\(↑(UInt8.toNat (List.getD (List.dropWhile QR s) 0 (0:UInt8))):Int)<(256:Int)) (brT (tb Z1M (↑(UInt8.toNat (List.getD (List.dropWhile QR s) 0 (0:UInt8))):Int)) (Ow (List.length (List.dropWhile QR s)<=4611686018427387904) (brT (List.all (List.dropWhile QR s) Q0) (Rt (dB (decide ((↑(List.length s):Int)<=(32:Int)))) []) (Rt (dB false) []))) (Rt (dB false) [])))) (Rt (dB false) []))
theorem Zb0 (s:LU):gC (ctr Zad wqQ) 0 rs41 sc41 [] [dS s,dF 42 [] []] [] []=ZdD s:=by kernel_rfl
noncomputable def ZdC (s:LU):Tr:=Ow True (brT (!decide (List.dropWhile QR s=[])) (Ow ((0:Int)<=(0:Int)/\(0:Int)<(↑(List.length (List.dropWhile QR s)):Int)) (Ow ((0:Int)<=(↑(UInt8.toNat (List.getD (List.dropWhile QR s) 0 (0:UInt8))):Int)/\(↑(UInt8.toNat (List.getD (List.dropWhile QR s) 0 (0:UInt8))):Int)<(256:Int)) (brT (tb Z5N (↑(UInt8.toNat (List.getD (List.dropWhile QR s) 0 (0:UInt8))):Int)) (Ow (List.length (List.dropWhile QR s)<=4611686018427387904) (brT (List.all (List.dropWhile QR s) Q0) (Rt (dB (decide ((↑(List.length s):Int)<=(32:Int)))) []) (Rt (dB false) []))) (Rt (dB false) [])))) (Rt (dB false) []))
theorem ZaZ (s:LU):gC (ctr Zad wqQ) 0 rs41 sc41 [] [dS s,dF 123 [] []] [] []=ZdC s:=by kernel_rfl
theorem Za3 {p:UInt8->Bool} {s:LU} (h: ¬ s.dropWhile p=[]): ∃ b r,s.dropWhile p=b::r:=by
 cases a:s.dropWhile p with
 |nil=>exact (h a).elim
 |cons b r=>exact⟨b,r,rfl⟩
theorem Zb6 (s:LU) (hl:s.length<=4611686018427387904):CF 41 [.str s,.func (.func 42) [] []] [] λr ob=>r=.bool (Z1S Z1M s)/\ob=[]:=by
 refine CallL.tree Z5 fp41 (Z9 Z4p ZcV) (Zb0 s) ?_;unfold ZdD Z1S;simp only[SS];refine⟨λh=>?_,λh=>by rw[h]⟩;obtain⟨b,r,c⟩:=Za3 h;have h1:=(List.dropWhile_sublist (l:=s) QR).length_le;rw[c] at h1 ⊢;simp only[List.length_cons,List.getD_cons_zero,Z6t];rw[List.length_cons] at h1;exact⟨by omega,⟨by omega,by have:=b.toNat_lt;omega⟩,λh2=>⟨by omega,λa=>by simp only[h2,a,Bool.true_and,Int.ofNat_le,show (32:Int)=((32:Nat):Int) from rfl],λa=>by simp only[a,Bool.and_false,Bool.false_and]⟩,λh2=>by simp only[h2,Bool.false_and]⟩
theorem Zb4 (s:LU) (hl:s.length<=4611686018427387904):CF 41 [.str s,.func (.func 123) [] []] [] λr ob=>r=.bool (Z1S Z5N s)/\ob=[]:=by
 refine CallL.tree Z5 fp41 (Z9 Z4p ZcV) (ZaZ s) ?_;unfold ZdC Z1S;simp only[SS];refine⟨λh=>?_,λh=>by rw[h]⟩;obtain⟨b,r,c⟩:=Za3 h;have h1:=(List.dropWhile_sublist (l:=s) QR).length_le;rw[c] at h1 ⊢;simp only[List.length_cons,List.getD_cons_zero,Z6t];rw[List.length_cons] at h1;exact⟨by omega,⟨by omega,by have:=b.toNat_lt;omega⟩,λh2=>⟨by omega,λa=>by simp only[h2,a,Bool.true_and,Int.ofNat_le,show (32:Int)=((32:Nat):Int) from rfl],λa=>by simp only[a,Bool.and_false,Bool.false_and]⟩,λh2=>by simp only[h2,Bool.false_and]⟩
def ZdN:QT:=λd xs ob=>match d,xs,ob with
 |.func (.func f) [] [],[.str s,.func (.func g) [] []],[]=>if f=41 then (if g=42 then some (.ok (s.length<=4611686018427387904) (.bool (Z1S Z1M s)) [])
   else if g=123 then some (.ok (s.length<=4611686018427387904) (.bool (Z1S Z5N s)) []) else none) else none
 |_,_,_=>none
theorem Zb5:ZdN.OK:=by
 intro d xs ob rt h;unfold ZdN at h;split at h
 ·split at h
  ·rename_i hf;subst hf;split at h
   ·rename_i a;subst a;cases h;exactλhl=>Zb6 _ hl
   split at h
   ·rename_i a;subst a;cases h;exactλhl=>Zb4 _ hl
   ·cases h
  ·cases h
 ·cases h
def Zga:PT:=λf xs=>if f=128 then match xs with
  |[.str s,.str t]=>some (.br (t.isPrefixOf s) (.ok True (.tuple [.str (s.drop t.length),.bool true]) []) (.ok True (.tuple [.str s,.bool false]) []))
  |_=>none
 else none
theorem Zc9:Zga.OK:=by
 intro f xs rt h;unfold Zga at h;split at h
 ·rename_i hf;subst hf;split at h
  ·rename_i s t;cases h
   have:=Zc8 s t;cases hp:t.isPrefixOf s<;>(rw[hp] at this;exactλ_=>this)
  ·cases h
 ·cases h
def wq2:QT:=ZdN.or allQ
theorem ZcW:wq2.OK:=QT.or_ok Zb5 Zax
noncomputable def PSym (s:LU):Tr:=Ow (List.length s<=4611686018427387904) (brT (Z1S Z1M s) (Rt (D.bool !decide (s=[(110:UInt8),(111:UInt8),(116:UInt8)])) []) (Rt (dB false) []))
theorem ZgE (s:LU):gP (ctr libT wq2) rs16 sc16 [dS s]=PSym s:=by kernel_rfl
noncomputable def PVar (s:LU):Tr:=brT (List.isPrefixOf [(95:UInt8)] s) (Ow True (Ow (List.length s<=4611686018427387904) (brT (Z1S Z5N s) (Rt (dB true) []) (Ow (List.length (List.drop 1 s)<=4611686018427387904) (brT (List.all (List.drop 1 s) Qx) (Rt (dB (decide ((↑(List.length s):Int)<=(32:Int)))) []) (Rt (dB false) [])))))) (Ow True (Ow (List.length s<=4611686018427387904) (brT (Z1S Z5N s) (Rt (dB true) []) (Rt (dB false) []))))
theorem ZgA (s:LU):gP (ctr Zga wq2) rs84 sc84 [dS s]=PVar s:=by kernel_rfl
theorem Z0T (s:LU) (hl:s.length<=4611686018427387904):FK 16 [.str s] (.bool (ZM s)):=by
 refine FnOK.tree Z5 fp16 (Z9 Z3 ZcW) (ZgE s) ?_;unfold PSym ZM;simp only[SS];refine⟨hl,λh=>?_,λh=>by simp only[h,Bool.false_and]⟩;simp only[h,Bool.true_and,Lx.ZC];exact (decide_not (p:=s=[110,111,116])).symm
theorem Z2C (s:LU) (hl:s.length<=4611686018427387904):FK 84 [.str s] (.bool (ZW s)):=by
 refine FnOK.tree Z5 fp84 (Z9 Zc9 ZcW) (ZgA s) ?_;unfold PVar ZW;simp only[SS];have c:(s.drop 1).length<=s.length:=by simp
 have h0:List.isPrefixOf [95] s=true-> ∃ r,s=95::r:=λh=>by
  obtain⟨t,d⟩:=List.isPrefixOf_iff_prefix.1 h;exact⟨t,d.symm⟩
 have b:List.isPrefixOf [95] s=false-> ∀ r,s≠95::r:=λh r hr=>by rw[hr] at h;simp[List.isPrefixOf] at h
 refine⟨λh=>⟨hl,λa=>by simp only[a,Bool.true_or],λa=>?_⟩,λh=>⟨hl,λa=>by simp only[a,Bool.true_or],λa=>?_⟩⟩
 ·obtain⟨r,rfl⟩:=h0 h;simp only[List.length_cons,List.length_nil,List.drop_succ_cons,List.drop_zero] at c hl ⊢;exact⟨by omega,λha=>by simp only[a,ha,Bool.false_or,Bool.true_and,Int.ofNat_le,show (32:Int)=((32:Nat):Int) from rfl],λha=>by simp only[a,ha,Bool.false_or,Bool.false_and]⟩
 ·simp only[a,Bool.false_or];split
  ·rename_i r;exact absurd rfl (b h r)
  ·rfl
end Go.Proofs.YtecgehidegnmnaaGreatDoor
/- sign,and the directives. -/
namespace Go.Proofs.YtecgehidegnmnaaGreatDoor
open Go.Sx
theorem ZgR (es ext:LD) (t:LU):gP (ctr libT) Z8Z Z7y [dL es ext,dS t]=(Jm (cut Z7y 0) {tm:=[(0,dL es ext),(1,dS t),(7,dI (↑(List.length es):Int)),(8,dI 0)],ob:=[]}:Tr):=by kernel_rfl
def ZfP (es ext:LD) (t:LU) (i:Int):St:=⟨[(0,.slice es ext),(1,.str t),(7,.int .i64 es.length),(8,.int .i64 i)],[]⟩
theorem Z7i (l:List (LU)) (ext:LD) (t:LU) (i:Int):let A:=(↑(List.length (strC l)):Int);let B:=cut Z7y 0;let C:=Int.toNat i;let E:=(i+(1:Int));gH (ctr libT Z0e λx n=>[dS (List.getD l (Int.toNat n) [])]) 0 true Z8Z B (ZfP (strC l) ext t i)=(brT (decide (i<A)) (Ow ((0:Int)<=i/\(strC l)[Int.toNat i]? = some [dS (List.getD l C [])]) (brT (decide (t=List.getD l C [])) (Rt (dI i) []) (I8 E (Jm B {tm:=[(0,dL (strC l) ext),(1,dS t),(7,dI A),(8,dI E)],ob:=[]})))) (Rt (dI (-1:Int)) []):Tr):=by intro A B C E;kernel_rfl
theorem ZiB (l:List (LU)) (ext:LD) (t:LU) (hl:l.length<=4611686018427387904): ∀ (m i:Nat),l.length-i=m->i<=l.length →
  At Tryz.prog 0 (cut Z7y 0) (ZfP (strC l) ext t i) (FinQ true 0 Z8Z λr _=>r=.int .i64 (idxS t (l.drop i) i)):=by
 intro m;induction m with
 |zero =>
  intro i hm hi;refine At.tree (Z9 Z3 Z8) (Z7i l ext t i) ?_;rw[List.drop_eq_nil_of_le (by omega)];simp only[SS,Z1z];exact⟨λh=>by omega,λ_=>rfl⟩
 |succ m a =>
  intro i hm hi;refine At.tree (Z9 Z3 Z8) (Z7i l ext t i) ?_;rw[Z17 (d:=[]) (by omega)];simp only[SS,Z1z,idxS];refine⟨λ_=>⟨⟨by omega,Z6v (by omega)⟩,λh=>by rw[if_pos h],λh=>⟨by omega,?_⟩⟩,λh=>by omega⟩;rw[if_neg h]
  have:=a (i+1) (by omega) (by omega);simp only[ZfP,Z1z] at this;exact this
def idxP:PT:=λf xs=>if f=142 then (match xs with
  |[.slice es _,.str t]=>some (.ok (es=strC (es.map deS)/\es.length<=4611686018427387904) (.int .i64 (idxS t (es.map deS) 0)) [])
  |_=>none)
 else if f=171 then strP f xs else none
theorem Z5Q:idxP.OK:=by
 intro f xs rt h;unfold idxP at h;split at h
 ·rename_i hf;subst hf;split at h
  ·rename_i es ext t;cases h;rintro⟨a,hl⟩
   have:=FnOK.tree Z5 Zj3 (Z9 Z3 Z8) (ZgR (strC (es.map deS)) ext t) (ZiB (es.map deS) ext t (by simpa using hl) _ 0 rfl (Nat.zero_le _));rwa [<- a] at this
  ·cases h
 split at h
 ·exact Z5s _ _ _ h
 ·cases h
theorem Z9s (l:List (LU)):(strC l).map deS=l:=by
 unfold strC;rw[List.map_map];exact List.map_id'' (λ_=>rfl) l
theorem ZgX (es ext:LD) (t:LU):let A:=List.map deS es;gP (ctr idxP) Zfi Zey [dL es ext,dS t]=(Ow (es=strC A/\List.length es<=4611686018427387904) (Rt (dB (decide ((0:Int)<=idxS t A (0:Int)))) []):Tr):=by intro A;kernel_rfl
theorem Zdu (l:List (LU)) (ext:LD) (t:LU) (hl:l.length<=4611686018427387904):FK 107 [.slice (strC l) ext,.str t] (.bool (decide (t∈l))):=by
 refine FnOK.tree Z5 Zjj (Z9 Z5Q Z8) (ZgX _ ext t) ?_;simp only[SS,Z9s,Z1z];exact⟨hl,decide_eq_decide.2 (Z6T t l 0 (by omega))⟩
theorem ZaF (s t:LU):gP (ctr idxP) Zf6 Zem [dS s,dS t]=(Ow True (Rt (dB (List.isPrefixOf t s)) []):Tr):=by kernel_rfl
theorem ZbU (s t:LU):FK 144 [.str s,.str t] (.bool (t.isPrefixOf s)) :=
 FnOK.tree Z5 Zj2 (Z9 Z5Q Z8) (ZaF s t) ⟨trivial,rfl⟩
set_option maxRecDepth 100000 in
theorem Z8G:fnE tab (go Tryz.prog tab 400) 143 []=some (.slice (strC Z42) []):=by kernel_rfl
def sgnP:PT:=λf xs=>if f=143 then (match xs with
  |[]=>some (.ok True (.slice (strC Z42) []) [])
  |_=>none)
 else if f=144 then (match xs with
  |[.str s,.str t]=>some (.ok True (.bool (t.isPrefixOf s)) [])
  |_=>none)
 else none
theorem Z5w:sgnP.OK:=by
 intro f xs rt h;unfold sgnP at h;split at h
 ·rename_i hf;subst hf;split at h
  ·cases h;exactλ_=>Z9N Z5 Z8w _ Z8G
  ·cases h
 split at h
 ·rename_i hf;subst hf;split at h
  ·cases h;exactλ_=>ZbU _ _
  ·cases h
 ·cases h
theorem Zkj (src:LU) (a:Int):let A:=[(0,oC [dS src,dI a])];gC (ctr sgnP) 1 Z93 Z7C [] [dP 0 0] [] A=(Ow True (Jm (cut Z7C 0) {tm:=[(0,dP 0 0),(5,dL [[dS [58,45]],[dS [58,126]],[dS [58]],[dS [46,46]],[dS [46]],[dS [44]],[dS [59]],[dS [124]],[dS [40]],[dS [41]],[dS [123]],[dS [125]],[dS [91]],[dS [93]],[dS [61]],[dS [33,61]],[dS [60,61]],[dS [62,61]],[dS [60]],[dS [62]],[dS [43]],[dS [45]],[dS [42]],[dS [47]],[dS [92]],[dS [64]]] []),(6,dI 26),(7,dI 0)],ob:=A}):Tr):=by intro A;kernel_rfl
def hdSg (src:LU) (l:List (LU)) (a i:Int):St:=⟨[(0,.ptr 0 0),(5,.slice (strC l) []),(6,.int .i64 l.length),(7,.int .i64 i)],[(0,.cells [.str src,.int .i64 a])]⟩
theorem Zb1 (src:LU) (l:List (LU)) (a i:Int):let A:=List.getD l (Int.toNat i) [];let B:=(↑(List.length src):Int);let C:=(↑(List.length A):Int);let E:=(↑(List.length l):Int);let F:=[(0,oC [dS src,dI a])];let G:=cut Z7C 0;let H:=(i+(1:Int));gH (ctr sgnP Z0e λx n=>[dS (List.getD l (Int.toNat n) [])]) 1 false Z93 G (hdSg src l a i)=(brT (decide (i<E)) (Ow ((0:Int)<=i/\(strC l)[Int.toNat i]? = some [dS A]) (Ow ((0:Int)<=a/\a<=B/\B<=B) (Ow True (brT (List.isPrefixOf A (List.drop (Int.toNat a) (List.take (Int.toNat B) src))) (Ow ((-9223372036854775808:Int)<=a+C/\a+C<=(9223372036854775807:Int)) (Rt (dS A) [(0,oC [dS src,dI (a+C)])])) (I8 H (Jm G {tm:=[(0,dP 0 0),(5,dL (strC l) []),(6,dI E),(7,dI H)],ob:=F})))))) (Rt (dS []) F):Tr):=by intro A B C E F G H;kernel_rfl
def sgF (l:List (LU)) (s:LU):LU:=(l.find? (·.isPrefixOf s)).getD []
theorem Ze7 (src:LU) (l:List (LU)) (a:Nat) (ha:a<=src.length) (hl:src.length<=4611686018427387904) (g:l.length<=1000) (b: ∀ t∈l,t.length<=100): ∀ (m i:Nat),l.length-i=m->i<=l.length →
  At Tryz.prog 1 (cut Z7C 0) (hdSg src l a i) (FinQ false 1 Z93 λr ob=>r=.str (sgF (l.drop i) (src.drop a))/\ob=[(0,.cells [.str src,.int .i64 ((a+(sgF (l.drop i) (src.drop a)).length:Nat):Int)])]):=by
 intro m;induction m with
 |zero =>
  intro i hm hi;refine At.tree (Z9 Z5w Z8) (Zb1 src l a i) ?_;rw[List.drop_eq_nil_of_le (by omega)];simp only[SS,sgF,List.find?_nil,Option.getD_none,List.length_nil,Nat.add_zero];exact⟨λh=>by omega,λ_=>trivial⟩
 |succ m c =>
  intro i hm hi;refine At.tree (Z9 Z5w Z8) (Zb1 src l a i) ?_;rw[Z17 (d:=[]) (by omega)];have f:(l.getD i []).length<=100:=b _ (by
   rw[List.getD_eq_getElem?_getD,List.getElem?_eq_getElem (by omega)];exact List.getElem_mem _)
  simp only[SS];refine⟨λ_=>⟨⟨by omega,Z6v (by omega)⟩,by omega,λh=>?_,λh=>⟨by omega,?_⟩⟩,λh=>by omega⟩
  ·have e:sgF (l.getD i []::l.drop (i+1)) (src.drop a)=l.getD i []:=by simp only[sgF,List.find?_cons,h,Option.getD_some]
   rw[e];exact⟨by omega,rfl,rfl⟩
  ·have e:sgF (l.getD i []::l.drop (i+1)) (src.drop a)=sgF (l.drop (i+1)) (src.drop a):=by simp only[sgF,List.find?_cons,h]
   rw[e];exact c (i+1) (by omega) (by omega)
theorem Ze6 (src:LU) (a:Nat) (ha:a<=src.length) (hl:src.length<=4611686018427387904):CF 108 [.ptr 0 0] [(0,.cells [.str src,.int .i64 a])]
  λr ob=>r=.str (Qm (src.drop a))/\ob=[(0,.cells [.str src,.int .i64 ((a+(Qm (src.drop a)).length:Nat):Int)])] :=
 CallL.tree Z5 Zji (Z9 Z5w Z8) (Zkj src a) ⟨trivial,Ze7 src Z42 a ha hl (by decide) (by decide) _ 0 rfl (Nat.zero_le _)⟩
end Go.Proofs.YtecgehidegnmnaaGreatDoor
/- The class of a byte;the tests for the bytes of some classes. -/
namespace Go.Proofs.YtecgehidegnmnaaGreatDoor
open Go.Sx
def cls (b:Nat):Int :=
 if 97<=b/\b<=122\/65<=b/\b<=90 then 1 else if 48<=b/\b<=57 then 2 else if b=95 then 4 else if b=32\/b=9\/b=10\/b=13 then 8 else if b=35 then 16 else 0
noncomputable def clsB (b:Nat):Bool:=match fnE tab (go Tryz.prog tab 400) 104 [.int .u8 (b:Int)] with
 |some (.int .i64 m)=>m == cls b
 |_=>false
set_option maxRecDepth 100000
theorem Zgc:(List.range 256).all clsB=true:=by kernel_rfl
theorem Zcd (b:Nat) (a:b<256):FK 104 [.int .u8 (b:Int)] (.int .i64 (cls b)):=by
 have h:=List.all_eq_true.1 Zgc b (List.mem_range.2 a);unfold clsB at h;split at h
 ·rename_i m hm;rw[<- eq_of_beq h];exact Z9N Z5 Z8w _ hm
 ·cases h
def clsP:PT:=λf xs=>if f=104 then match xs with
  |[.int .u8 b]=>some (.ok (0<=b/\b<256) (.int .i64 (cls b.toNat)) [])
  |_=>none
 else none
theorem QU:clsP.OK:=by
 intro f xs rt h;unfold clsP at h;split at h
 ·rename_i hf;subst hf;split at h
  ·rename_i b;cases h;rintro⟨h0,h1⟩
   have:=Zcd b.toNat (by omega);rwa [Int.toNat_of_nonneg h0] at this
  ·cases h
 ·cases h
end Go.Proofs.YtecgehidegnmnaaGreatDoor
