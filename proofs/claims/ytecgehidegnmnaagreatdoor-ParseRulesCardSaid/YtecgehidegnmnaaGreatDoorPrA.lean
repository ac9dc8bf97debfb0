/- Own work: a layer over the kit: plain data,a walk over it,its soundness. -/
import Derived.Test.YtecgehidegnmnaaGreatDoorLibT
import Derived.Test.YtecgehidegnmnaaGreatDoorSx10
import Derived.Test.YtecgehidegnmnaaGreatDoorSx11
import Derived.Test.YtecgehidegnmnaaGreatDoorSx8
set_option linter.unusedSectionVars false
set_option linter.unusedVariables false
set_option linter.unusedSimpArgs false
set_option linter.deprecated false
set_option maxRecDepth 100000
/- The parser: where it stands,what it sees. -/
namespace Go.Proofs.YtecgehidegnmnaaGreatDoor
open Go.Sx
open Go.Sx.Lx (Tk tokC)
def psO (ts:List Tk) (i:Int) (so:Bool) (r1 r2 r3:LD):Obs:=[(0,.cells [.slice (ts.map tokC) [],.int .i64 i,.vec 1,.vec 2,.vec 3,.bool so]),(1,.arr true 20 42 r1),(2,.arr true 5 53 r2),(3,.arr true 2 138 r3)]
def eTok (c:List D):Nat->Int->List D:=fun _ _=>c
theorem ZaR (ts:List Tk) (i:Int) (so:Bool) (r1 r2 r3:LD) (k o:Int) (s:LU):let A:=psO ts i so r1 r2 r3;let B:=[dU k,dS s,dI o];let C:=List.map tokC ts;gC (ctr libT Z0x (eTok B)) 10 rs58 sc58 [] [dP 0 0] [] A=(brT (decide (i<(↑(List.length C):Int))) (Ow ((0:Int)<=i/\C[Int.toNat i]? = some B) (Rt (dA B) A)) (Rt (dA [dU (0:Int),dS [],dI (0:Int)]) A):Tr):=by intro A B C;kernel_rfl
structure PS where
 ts:List Tk
 so:Bool
 r1:LD
 r2:LD
 r3:LD
 hl:ts.length<=1000000000
 hs: ∀ t∈ts,t.2.1.length<=1000000000
 hv:Ps.TokOK ts
def PS.o (p:PS) (i:Nat):Obs:=psO p.ts i p.so p.r1 p.r2 p.r3
theorem Z1T (p:PS) (i:Nat):CF 58 [.ptr 0 0] (p.o i) fun r ob=>r= .agg (tokC (Ps.hereP p.ts i))/\ob=p.o i:=by
 refine CallL.tree Z4 fp58 (Z5 Z1 Z3) (ZaR p.ts i p.so p.r1 p.r2 p.r3 (Ps.hereP p.ts i).1 (Ps.hereP p.ts i).2.2 (Ps.hereP p.ts i).2.1) ?_
 simp only[SS,List.length_map,Int.ofNat_lt]
 refine⟨fun h=>⟨⟨by omega, ?_⟩,rfl,rfl⟩,fun h=> ?_⟩
 ·rw[List.getElem?_map,List.getElem?_eq_getElem h]
  simp only[Ps.hereP,List.getD_eq_getElem?_getD,List.getElem?_eq_getElem h,Option.getD_some,Option.map_some]
  rfl
 ·have:Ps.hereP p.ts i=(0,[],0):=by simp only[Ps.hereP,List.getD_eq_getElem?_getD,List.getElem?_eq_none (by omega:p.ts.length<=i),Option.getD_none]
  rw[this]
  exact⟨rfl,rfl⟩
abbrev fltV (a:Nat) (e:Int):Value:= .iface 114 (.agg #[.int .i64 a,.int .i64 e])
theorem Z8W (ts:List Tk) (i e:Int) (so:Bool) (r1 r2 r3:LD):let A:=psO ts i so r1 r2 r3;gC (ctr libT) 10 rs54 sc54 [] [dP 0 0,dI e] [] A=(Rt (D.pan (Value.iface 114 (Value.agg #[valV (dI i),valV (dI e)]))) A:Tr):=by intro A;kernel_rfl
theorem ZZ (p:PS) (i:Nat) (e:Int):CF 54 [.ptr 0 0,.int .i64 e] (p.o i) fun r ob=>r= .pan (fltV i e)/\ob=[]:=by
 refine CallL.pdrop (R:=fun r _=>r= .pan (fltV i e)) (CallL.tree Z4 fp54 (Z5 Z1 Z3) (Z8W p.ts i e p.so p.r1 p.r2 p.r3) ?_) fun _ _ h=>h
 simp only[SS]
 rfl
end Go.Proofs.YtecgehidegnmnaaGreatDoor
/- The words of terms. -/
namespace Go.Proofs.YtecgehidegnmnaaGreatDoor
open Go.Sx
def tb (p:UInt8->Bool) (b:Int):Bool:=p (UInt8.ofNat b.toNat)
theorem Z4R (p:UInt8->Bool) (b:UInt8):tb p (b.toNat:Int)=p b:=by simp[tb]
theorem Z3S (p:UInt8->Bool) (b:Int) (hb:0<=b/\b<256) {q:Int->Bool} (h:(List.range 256).all (fun n=>tb p (n:Int) == q (n:Int))=true):tb p b=q b:=by
 have:=List.all_eq_true.1 h b.toNat (List.mem_range.2 (by omega))
 rw[Int.toNat_of_nonneg hb.1] at this
 simpa using this
theorem ZeC (b:Int):gP (ctr libT) rs42 sc42 [dU b]=(brT (decide ((97:Int)<=b)) (Rt (dB (decide (b<=(122:Int)))) []) (Rt (dB false) []):Tr):=by kernel_rfl
theorem ZeA (b:Int):gP (ctr libT) Z9K Z9z [dU b]=(brT (decide ((65:Int)<=b)) (Rt (dB (decide (b<=(90:Int)))) []) (Rt (dB false) []):Tr):=by kernel_rfl
theorem ZeD (b:Int):gP (ctr libT) Z9J Z9y [dU b]=(brT (decide ((48:Int)<=b)) (Rt (dB (decide (b<=(57:Int)))) []) (Rt (dB false) []):Tr):=by kernel_rfl
theorem ZdN (b:Int) (hb:0<=b/\b<256):FK 42 [.int .u8 b] (.bool (tb Lx.isLow b)):=by
 refine FnOK.tree Z4 fp42 (Z5 Z1 Z3) (ZeC b) ?_
 rw[Z3S Lx.isLow b hb (q:=fun b=>decide (97<=b) && decide (b<=122)) (by kernel_rfl)]
 cases h:decide (97<=b) <;> simp[brT,Zr]
theorem Zc4 (b:Int) (hb:0<=b/\b<256):FK 123 [.int .u8 b] (.bool (tb Lx.isUp b)):=by
 refine FnOK.tree Z4 Ze5 (Z5 Z1 Z3) (ZeA b) ?_
 rw[Z3S Lx.isUp b hb (q:=fun b=>decide (65<=b) && decide (b<=90)) (by kernel_rfl)]
 cases h:decide (65<=b) <;> simp[brT,Zr]
theorem Zee (b:Int) (hb:0<=b/\b<256):FK 124 [.int .u8 b] (.bool (tb Lx.isDig b)):=by
 refine FnOK.tree Z4 Ze4 (Z5 Z1 Z3) (ZeD b) ?_
 rw[Z3S Lx.isDig b hb (q:=fun b=>decide (48<=b) && decide (b<=57)) (by kernel_rfl)]
 cases h:decide (48<=b) <;> simp[brT,Zr]
def bytP:PT:=fun f xs=>match xs with
 | [.int .u8 b]=>if f=42 then some (.ok (0<=b/\b<256) (.bool (tb Lx.isLow b)) []) else if f=123 then some (.ok (0<=b/\b<256) (.bool (tb Lx.isUp b)) [])
  else if f=124 then some (.ok (0<=b/\b<256) (.bool (tb Lx.isDig b)) []) else none
 | _=>none
theorem Zel:bytP.OK:=by
 intro f xs rt h
 unfold bytP at h
 split at h
 ·split at h
  ·rename_i hf; subst hf; cases h; exact fun hp=>ZdN _ hp
  split at h
  ·rename_i hf; subst hf; cases h; exact fun hp=>Zc4 _ hp
  split at h
  ·rename_i hf; subst hf; cases h; exact fun hp=>Zee _ hp
  ·cases h
 ·cases h
theorem Zf9 (b:Int):gC (ctr libT) 0 rs42 sc42 [] [dU b] [] []=(brT (decide ((97:Int)<=b)) (Rt (dB (decide (b<=(122:Int)))) []) (Rt (dB false) []):Tr):=by kernel_rfl
theorem Zf8 (b:Int):gC (ctr libT) 0 Z9K Z9z [] [dU b] [] []=(brT (decide ((65:Int)<=b)) (Rt (dB (decide (b<=(90:Int)))) []) (Rt (dB false) []):Tr):=by kernel_rfl
theorem Zfb (b:Int):gC (ctr libT) 0 Z9J Z9y [] [dU b] [] []=(brT (decide ((48:Int)<=b)) (Rt (dB (decide (b<=(57:Int)))) []) (Rt (dB false) []):Tr):=by kernel_rfl
theorem Zfa (b:Int):let A:=Rt (dB true) [];let B:=(256:Int);gC (ctr bytP) 0 rs77 sc77 [] [dU b] [] []=(Ow ((0:Int)<=b/\b<B) (brT (tb Lx.isLow b) A (Ow ((0:Int)<=b/\b<B) (brT (tb Lx.isUp b) A (Ow ((0:Int)<=b/\b<B) (brT (tb Lx.isDig b) A (Rt (dB (decide (b=(95:Int)))) [])))))):Tr):=by intro A B;kernel_rfl
theorem ZdO (b:Int) (hb:0<=b/\b<256):CF 42 [.int .u8 b] [] fun r ob=>r= .bool (tb Lx.isLow b)/\ob=[]:=by
 refine CallL.tree Z4 fp42 (Z5 Z1 Z3) (Zf9 b) ?_
 rw[Z3S Lx.isLow b hb (q:=fun b=>decide (97<=b) && decide (b<=122)) (by kernel_rfl)]
 cases h:decide (97<=b) <;> simp[brT,Zr]
theorem Zc5 (b:Int) (hb:0<=b/\b<256):CF 123 [.int .u8 b] [] fun r ob=>r= .bool (tb Lx.isUp b)/\ob=[]:=by
 refine CallL.tree Z4 Ze5 (Z5 Z1 Z3) (Zf8 b) ?_
 rw[Z3S Lx.isUp b hb (q:=fun b=>decide (65<=b) && decide (b<=90)) (by kernel_rfl)]
 cases h:decide (65<=b) <;> simp[brT,Zr]
theorem Zef (b:Int) (hb:0<=b/\b<256):CF 124 [.int .u8 b] [] fun r ob=>r= .bool (tb Lx.isDig b)/\ob=[]:=by
 refine CallL.tree Z4 Ze4 (Z5 Z1 Z3) (Zfb b) ?_
 rw[Z3S Lx.isDig b hb (q:=fun b=>decide (48<=b) && decide (b<=57)) (by kernel_rfl)]
 cases h:decide (48<=b) <;> simp[brT,Zr]
theorem ZdV (b:Int) (hb:0<=b/\b<256):CF 77 [.int .u8 b] [] fun r ob=>r= .bool (tb Lx.isName b)/\ob=[]:=by
 refine CallL.tree Z4 fp77 (Z5 Zel Z3) (Zfa b) ?_
 rw[Z3S Lx.isName b hb (q:=fun b=>tb Lx.isLow b || tb Lx.isUp b || tb Lx.isDig b || decide (b=95)) (by kernel_rfl)]
 simp only[Qd,Zy,Zr]
 refine⟨hb,fun h1=>by simp[h1],fun h1=>⟨hb,fun h2=>by simp[h2],fun h2=>⟨hb,fun h3=>by simp[h3],fun h3=>by simp[h1,h2,h3]⟩⟩⟩
def bytF (f:FuncId):Option (UInt8->Bool):=if f=42 then some Lx.isLow else if f=123 then some Lx.isUp else if f=124 then some Lx.isDig else if f=77 then some Lx.isName else none
theorem Zem {f:FuncId} {p:UInt8->Bool} (h:bytF f=some p) (b:Int) (hb:0<=b/\b<256):CallL Tryz.prog (.func (.func f) [] []) [.int .u8 b] [] fun r ob=>r= .bool (tb p b)/\ob=[]:=by
 unfold bytF at h
 split at h
 ·rename_i hf; subst hf; cases h; exact ZdO b hb
 split at h
 ·rename_i hf; subst hf; cases h; exact Zc5 b hb
 split at h
 ·rename_i hf; subst hf; cases h; exact Zef b hb
 split at h
 ·rename_i hf; subst hf; cases h; exact ZdV b hb
 ·cases h
def bytQ:QT:=fun d xs ob=>match d,xs,ob with
 | .func (.func f) [] [],[.int .u8 b],[]=>match bytF f with
  | some p=>some (.ok (0<=b/\b<256) (.bool (tb p b)) [])
  | none=>none
 | _,_,_=>none
theorem Z0k:bytQ.OK:=by
 intro d xs ob rt h
 unfold bytQ at h
 split at h
 ·split at h
  ·rename_i p hp; cases h; exact fun hb=>Zem hp _ hb
  ·cases h
 ·cases h
theorem Zb6 (s:LU):gC (ctr libT bytQ) 0 rs76 sc76 [] [dS s,dF 124 [] []] [] []=(Jm (cut sc76 0) { tm:=[(0,dS s),(1,dF 124 [] []),(7,dI (↑(List.length s):Int)),(8,dI (0:Int))],ob:=[] }:Tr):=by kernel_rfl
theorem Zb5 (s:LU):gC (ctr libT bytQ) 0 rs76 sc76 [] [dS s,dF 77 [] []] [] []=(Jm (cut sc76 0) { tm:=[(0,dS s),(1,dF 77 [] []),(7,dI (↑(List.length s):Int)),(8,dI (0:Int))],ob:=[] }:Tr):=by kernel_rfl
def Za2 (f:FuncId) (s:LU) (i:Int):St:=⟨[(0,.str s),(1,.func (.func f) [] []),(7,.int .i64 s.length),(8,.int .i64 i)],[]⟩
theorem Z3F (s:LU) (i:Int):let A:=(↑(UInt8.toNat (List.getD s (Int.toNat i) (0:UInt8))):Int);let B:=(↑(List.length s):Int);let C:=cut sc76 0;let E:=(i+(1:Int));gH (ctr libT bytQ) 0 false rs76 C (Za2 124 s i)=(brT (decide (i<B)) (Ow ((0:Int)<=i/\i<B) (Ow ((0:Int)<=A/\A<(256:Int)) (brT (!tb Lx.isDig A) (Rt (dB false) []) (I8 E (Jm C { tm:=[(0,dS s),(1,dF 124 [] []),(7,dI B),(8,dI E)],ob:=[] }))))) (Rt (dB true) []):Tr):=by intro A B C E;kernel_rfl
theorem Z3E (s:LU) (i:Int):let A:=(↑(UInt8.toNat (List.getD s (Int.toNat i) (0:UInt8))):Int);let B:=(↑(List.length s):Int);let C:=cut sc76 0;let E:=(i+(1:Int));gH (ctr libT bytQ) 0 false rs76 C (Za2 77 s i)=(brT (decide (i<B)) (Ow ((0:Int)<=i/\i<B) (Ow ((0:Int)<=A/\A<(256:Int)) (brT (!tb Lx.isName A) (Rt (dB false) []) (I8 E (Jm C { tm:=[(0,dS s),(1,dF 77 [] []),(7,dI B),(8,dI E)],ob:=[] }))))) (Rt (dB true) []):Tr):=by intro A B C E;kernel_rfl
theorem Z5w {p:UInt8->Bool} {s:LU} {i:Nat} (h:i<s.length):(s.drop i).all p=(p (s.getD i 0) && (s.drop (i+1)).all p):=by
 rw[List.drop_eq_getElem_cons h,List.all_cons,List.getD_eq_getElem?_getD,List.getElem?_eq_getElem h]; rfl
theorem Zes (s:LU) (hl:s.length<=4611686018427387904): ∀ (m i:Nat),s.length-i=m->i<=s.length →
  At Tryz.prog 0 (cut sc76 0) (Za2 124 s i) (FinQ false 0 rs76 fun r ob=>r= .bool ((s.drop i).all Lx.isDig)/\ob=[]):=by
 intro m
 induction m with
 | zero =>
  intro i hm hi
  refine At.tree (Z5 Z1 Z0k) (Z3F s i) ?_
  rw[List.drop_eq_nil_of_le (by omega)]
  simp only[SS]
  exact⟨fun h=>by omega,fun _=>rfl⟩
 | succ m ih =>
  intro i hm hi
  refine At.tree (Z5 Z1 Z0k) (Z3F s i) ?_
  rw[Z5w (by omega)]
  simp only[SS,Z4R]
  refine⟨fun _=>⟨by omega,Z4r _ _,fun h=>by simp only[h,Bool.false_and],fun h=>⟨by omega, ?_⟩⟩,fun h=>by omega⟩
  rw[h,Bool.true_and]
  exact ih (i+1) (by omega) (by omega)
theorem Zer (s:LU) (hl:s.length<=4611686018427387904): ∀ (m i:Nat),s.length-i=m->i<=s.length →
  At Tryz.prog 0 (cut sc76 0) (Za2 77 s i) (FinQ false 0 rs76 fun r ob=>r= .bool ((s.drop i).all Lx.isName)/\ob=[]):=by
 intro m
 induction m with
 | zero =>
  intro i hm hi
  refine At.tree (Z5 Z1 Z0k) (Z3E s i) ?_
  rw[List.drop_eq_nil_of_le (by omega)]
  simp only[SS]
  exact⟨fun h=>by omega,fun _=>rfl⟩
 | succ m ih =>
  intro i hm hi
  refine At.tree (Z5 Z1 Z0k) (Z3E s i) ?_
  rw[Z5w (by omega)]
  simp only[SS,Z4R]
  refine⟨fun _=>⟨by omega,Z4r _ _,fun h=>by simp only[h,Bool.false_and],fun h=>⟨by omega, ?_⟩⟩,fun h=>by omega⟩
  rw[h,Bool.true_and]
  exact ih (i+1) (by omega) (by omega)
def allQ:QT:=fun d xs ob=>match d,xs,ob with
 | .func (.func f) [] [],[.str s,.func (.func g) [] []],[]=>if f=76 then (if g=124 then some (.ok (s.length<=4611686018427387904) (.bool (s.all Lx.isDig)) [])
   else if g=77 then some (.ok (s.length<=4611686018427387904) (.bool (s.all Lx.isName)) []) else none) else none
 | _,_,_=>none
theorem Z8M:allQ.OK:=by
 intro d xs ob rt h
 unfold allQ at h
 split at h
 ·rename_i f s g
  split at h
  ·rename_i hf
   subst hf
   split at h
   ·rename_i hg
    subst hg
    cases h
    exact fun hl=>CallL.tree Z4 fp76 (Z5 Z1 Z0k) (Zb6 s) (Zes s hl _ 0 rfl (Nat.zero_le _))
   split at h
   ·rename_i hg
    subst hg
    cases h
    exact fun hl=>CallL.tree Z4 fp76 (Z5 Z1 Z0k) (Zb5 s) (Zer s hl _ 0 rfl (Nat.zero_le _))
   ·cases h
  ·cases h
 ·cases h
end Go.Proofs.YtecgehidegnmnaaGreatDoor
/- Symbol and Variable. -/
namespace Go.Proofs.YtecgehidegnmnaaGreatDoor
open Go.Sx
theorem Zay (s t:LU):let A:=(↑(List.length t):Int);let B:=(↑(List.length s):Int);gP (ctr libT) Zd6 Zck [dS s,dS t]=(brT (decide (A<=B)) (Ow ((0:Int)<=(0:Int)/\(0:Int)<=A/\A<=B) (Rt (dB (decide (List.drop 0 (List.take (Int.toNat A) s)=t))) [])) (Rt (dB false) []):Tr):=by intro A B;kernel_rfl
theorem ZdZ (s t:LU):FK 171 [.str s,.str t] (.bool (t.isPrefixOf s)):=by
 refine FnOK.tree Z4 Zgq (Z5 Z1 Z3) (Zay s t) ?_
 simp only[SS,Int.ofNat_le]
 refine⟨fun h=>⟨by omega, ?_⟩,fun h=> ?_⟩
 ·rw[Bool.eq_iff_iff,decide_eq_true_eq,List.isPrefixOf_iff_prefix,List.prefix_iff_eq_take]
  exact eq_comm
 ·rw[eq_comm,<- Bool.not_eq_true,List.isPrefixOf_iff_prefix]
  exact fun hp=>h hp.length_le
theorem ZeB (s:LU) (c:Int):gP (ctr libT) Z7k Z5X [dS s,dU c]=(Jm (cut Z5X 0) { tm:=[(0,dS s),(1,dU c)],ob:=[] }:Tr):=by kernel_rfl
def ZdW (s:LU) (c:Int):St:=⟨[(0,.str s),(1,.int .u8 c)],[]⟩
theorem Z5z (s:LU) (c:Int):let A:=(↑(List.length s):Int);let B:=Rt (dS s) [];let C:=cut Z5X 0;gH (ctr libT) 0 true Z7k C (ZdW s c)=(brT (decide ((0:Int)<A)) (Ow ((0:Int)<=(0:Int)/\(0:Int)<A) (brT (decide ((↑(UInt8.toNat (List.getD s 0 (0:UInt8))):Int)=c)) (Ow ((0:Int)<=(1:Int)/\(1:Int)<=A/\A<=A) (Jm C { tm:=[(0,dS (List.drop 1 (List.take (Int.toNat A) s))),(1,dU c)],ob:=[] })) B)) B:Tr):=by intro A B C;kernel_rfl
theorem Zbp (c:UInt8): ∀ (s:LU),At Tryz.prog 0 (cut Z5X 0) (ZdW s c.toNat) (FinQ true 0 Z7k fun r _=>r= .str (s.dropWhile (· == c)))
 | []=>by
  refine At.tree (Z5 Z1 Z3) (Z5z [] c.toNat) ?_
  simp[Qd,Zy,Zr]
 | b::r=>by
  refine At.tree (Z5 Z1 Z3) (Z5z (b::r) c.toNat) ?_
  simp only[SS,List.length_cons,List.getD_cons_zero]
  refine⟨fun _=>⟨by omega,fun h=>⟨by omega, ?_⟩,fun h=> ?_⟩,fun h=>by omega⟩
  ·have hb:b=c:=UInt8.toNat_inj.1 (by omega)
   have:=Zbp c r
   simp only[List.dropWhile_cons,hb,beq_self_eq_true,if_true]
   simpa [Int.toNat_natCast,ZdW] using this
  ·have hb:b≠c:=fun h'=>h (by rw[h'])
   simp[List.dropWhile_cons,hb]
theorem Zfm (s:LU) (c:UInt8):FK 119 [.str s,.int .u8 c.toNat] (.str (s.dropWhile (· == c))) :=
 FnOK.tree Z4 ZgM (Z5 Z1 Z3) (ZeB s c.toNat) (Zbp c s)
def strP:PT:=fun f xs=>if f=119 then match xs with
  | [.str s,.int .u8 c]=>some (.ok (0<=c/\c<256) (.str (s.dropWhile (· == UInt8.ofNat c.toNat))) [])
  | _=>none
 else if f=171 then match xs with
  | [.str s,.str t]=>some (.ok True (.bool (t.isPrefixOf s)) [])
  | _=>none
 else none
theorem Z3T:strP.OK:=by
 intro f xs rt h
 unfold strP at h
 split at h
 ·rename_i hf; subst hf
  split at h
  ·rename_i s c
   cases h
   intro hc
   have:=Zfm s (UInt8.ofNat c.toNat)
   rwa [show ((UInt8.ofNat c.toNat).toNat:Int)=c by rw[UInt8.toNat_ofNat_of_lt' (by show _<256; omega)]; omega] at this
  ·cases h
 split at h
 ·rename_i hf; subst hf
  split at h
  ·cases h; exact fun _=>ZdZ _ _
  ·cases h
 ·cases h
theorem Z8X (s:LU):gP (ctr strP) rs75 sc75 [dS s,dS [(95:UInt8)]]=(brT (decide (s=[])) (Rt (dS s) []) (Ow ((0:Int)<=(0:Int)/\(0:Int)<(1:Int)) (Ow ((0:Int)<=(0:Int)/\(0:Int)<(1:Int)) (Ow ((0:Int)<=(95:Int)/\(95:Int)<(256:Int)) (Rt (dS (List.dropWhile (fun x=>x == UInt8.ofNat 95) s)) [])))):Tr):=by kernel_rfl
theorem Z9r (s:LU):FK 75 [.str s,.str [95]] (.str (s.dropWhile Lx.isUnd)):=by
 refine FnOK.tree Z4 fp75 (Z5 Z3T Z3) (Z8X s) ?_
 simp only[SS]
 refine⟨fun h=>by rw[h]; rfl,fun h=>⟨by decide,by decide,by decide,rfl⟩⟩
theorem Zaz (s t:LU):let A:=(↑(List.length s):Int);let B:=(↑(List.length t):Int);gP (ctr strP) Zdb Zcp [dS s,dS t]=(Ow True (brT (!List.isPrefixOf t s) (Rt (D.tuple [dS s,dB false]) []) (Ow ((0:Int)<=B/\B<=A/\A<=A) (Rt (D.tuple [dS (List.drop (Int.toNat B) (List.take (Int.toNat A) s)),dB true]) []))):Tr):=by intro A B;kernel_rfl
theorem Zeh (s t:LU):FK 157 [.str s,.str t] (if t.isPrefixOf s=true then .tuple [.str (s.drop t.length),.bool true] else .tuple [.str s,.bool false]):=by
 refine FnOK.tree Z4 Zgw (Z5 Z3T Z3) (Zaz s t) ?_
 simp only[SS]
 refine⟨fun h=>by rw[if_neg (by simp[h])],fun h=> ?_⟩
 have hl:=(List.isPrefixOf_iff_prefix.1 h).length_le
 rw[if_pos h]
 exact⟨by omega,rfl⟩
def Z8s:PT:=fun f xs=>if f=157 then match xs with
  | [.str s,.str t]=>some (.br (t.isPrefixOf s) (.ok True (.tuple [.str (s.drop t.length),.bool true]) []) (.ok True (.tuple [.str s,.bool false]) []))
  | _=>none
 else if f=75 then match xs with
  | [.str s,.str [95]]=>some (.ok True (.str (s.dropWhile Lx.isUnd)) [])
  | _=>none
 else none
theorem Z2T:Z8s.OK:=by
 intro f xs rt h
 unfold Z8s at h
 split at h
 ·rename_i hf; subst hf
  split at h
  ·rename_i s t
   cases h
   have:=Zeh s t
   cases hp:t.isPrefixOf s <;> (rw[hp] at this; exact fun _=>this)
  ·cases h
 split at h
 ·rename_i hf; subst hf
  split at h
  ·cases h; exact fun _=>Z9r _
  ·cases h
 ·cases h
theorem Z8V (s t:LU):gP (ctr Z8s) Zdo ZcC [dS s,dS t]=(brT (List.isPrefixOf t s) (Ow True (Rt (D.tuple [dS (List.drop (List.length t) s),dB true]) [])) (Ow True (Rt (D.tuple [dS s,dB false]) [])):Tr):=by kernel_rfl
theorem Zaf (s t:LU):FK 128 [.str s,.str t] (if t.isPrefixOf s=true then .tuple [.str (s.drop t.length),.bool true] else .tuple [.str s,.bool false]):=by
 refine FnOK.tree Z4 ZgL (Z5 Z2T Z3) (Z8V s t) ?_
 simp only[SS]
 exact⟨fun h=>by rw[if_pos h],fun h=>by rw[if_neg (by simp[h])]⟩
def wqQ:QT:=bytQ.or allQ
theorem Zb8:wqQ.OK:=QT.or_ok Z0k Z8M
noncomputable def ZbQ (s:LU):Tr:=Ow True (brT (!decide (List.dropWhile Lx.isUnd s=[])) (Ow ((0:Int)<=(0:Int)/\(0:Int)<(↑(List.length (List.dropWhile Lx.isUnd s)):Int)) (Ow ((0:Int)<=(↑(UInt8.toNat (List.getD (List.dropWhile Lx.isUnd s) 0 (0:UInt8))):Int)/\(↑(UInt8.toNat (List.getD (List.dropWhile Lx.isUnd s) 0 (0:UInt8))):Int)<(256:Int)) (brT (tb Lx.isLow (↑(UInt8.toNat (List.getD (List.dropWhile Lx.isUnd s) 0 (0:UInt8))):Int)) (Ow (List.length (List.dropWhile Lx.isUnd s)<=4611686018427387904) (brT (List.all (List.dropWhile Lx.isUnd s) Lx.isName) (Rt (dB (decide ((↑(List.length s):Int)<=(32:Int)))) []) (Rt (dB false) []))) (Rt (dB false) [])))) (Rt (dB false) []))
theorem Z9c (s:LU):gC (ctr Z8s wqQ) 0 rs41 sc41 [] [dS s,dF 42 [] []] [] []=ZbQ s:=by kernel_rfl
noncomputable def ZbP (s:LU):Tr:=Ow True (brT (!decide (List.dropWhile Lx.isUnd s=[])) (Ow ((0:Int)<=(0:Int)/\(0:Int)<(↑(List.length (List.dropWhile Lx.isUnd s)):Int)) (Ow ((0:Int)<=(↑(UInt8.toNat (List.getD (List.dropWhile Lx.isUnd s) 0 (0:UInt8))):Int)/\(↑(UInt8.toNat (List.getD (List.dropWhile Lx.isUnd s) 0 (0:UInt8))):Int)<(256:Int)) (brT (tb Lx.isUp (↑(UInt8.toNat (List.getD (List.dropWhile Lx.isUnd s) 0 (0:UInt8))):Int)) (Ow (List.length (List.dropWhile Lx.isUnd s)<=4611686018427387904) (brT (List.all (List.dropWhile Lx.isUnd s) Lx.isName) (Rt (dB (decide ((↑(List.length s):Int)<=(32:Int)))) []) (Rt (dB false) []))) (Rt (dB false) [])))) (Rt (dB false) []))
theorem Z9b (s:LU):gC (ctr Z8s wqQ) 0 rs41 sc41 [] [dS s,dF 123 [] []] [] []=ZbP s:=by kernel_rfl
theorem Z8l {p:UInt8->Bool} {s:LU} (h: ¬ s.dropWhile p=[]): ∃ b r,s.dropWhile p=b::r:=by
 cases hd:s.dropWhile p with
 | nil=>exact (h hd).elim
 | cons b r=>exact⟨b,r,rfl⟩
theorem Z9h (s:LU) (hl:s.length<=4611686018427387904):CF 41 [.str s,.func (.func 42) [] []] [] fun r ob=>r= .bool (Lx.wordB Lx.isLow s)/\ob=[]:=by
 refine CallL.tree Z4 fp41 (Z5 Z2T Zb8) (Z9c s) ?_
 unfold ZbQ Lx.wordB
 simp only[SS]
 refine⟨fun h=> ?_,fun h=>by rw[h]⟩
 obtain⟨b,r,hd⟩:=Z8l h
 have h1:=(List.dropWhile_sublist (l:=s) Lx.isUnd).length_le
 rw[hd] at h1 ⊢
 simp only[List.length_cons,List.getD_cons_zero,Z4R]
 rw[List.length_cons] at h1
 exact⟨by omega,⟨by omega,by have:=b.toNat_lt; omega⟩,fun h2=>⟨by omega,fun h3=>by simp only[h2,h3,Bool.true_and,Int.ofNat_le,show (32:Int)=((32:Nat):Int) from rfl],fun h3=>by simp only[h3,Bool.and_false,Bool.false_and]⟩,fun h2=>by simp only[h2,Bool.false_and]⟩
theorem Z9f (s:LU) (hl:s.length<=4611686018427387904):CF 41 [.str s,.func (.func 123) [] []] [] fun r ob=>r= .bool (Lx.wordB Lx.isUp s)/\ob=[]:=by
 refine CallL.tree Z4 fp41 (Z5 Z2T Zb8) (Z9b s) ?_
 unfold ZbP Lx.wordB
 simp only[SS]
 refine⟨fun h=> ?_,fun h=>by rw[h]⟩
 obtain⟨b,r,hd⟩:=Z8l h
 have h1:=(List.dropWhile_sublist (l:=s) Lx.isUnd).length_le
 rw[hd] at h1 ⊢
 simp only[List.length_cons,List.getD_cons_zero,Z4R]
 rw[List.length_cons] at h1
 exact⟨by omega,⟨by omega,by have:=b.toNat_lt; omega⟩,fun h2=>⟨by omega,fun h3=>by simp only[h2,h3,Bool.true_and,Int.ofNat_le,show (32:Int)=((32:Nat):Int) from rfl],fun h3=>by simp only[h3,Bool.and_false,Bool.false_and]⟩,fun h2=>by simp only[h2,Bool.false_and]⟩
def ZbZ:QT:=fun d xs ob=>match d,xs,ob with
 | .func (.func f) [] [],[.str s,.func (.func g) [] []],[]=>if f=41 then (if g=42 then some (.ok (s.length<=4611686018427387904) (.bool (Lx.wordB Lx.isLow s)) [])
   else if g=123 then some (.ok (s.length<=4611686018427387904) (.bool (Lx.wordB Lx.isUp s)) []) else none) else none
 | _,_,_=>none
theorem Z9g:ZbZ.OK:=by
 intro d xs ob rt h
 unfold ZbZ at h
 split at h
 ·split at h
  ·rename_i hf
   subst hf
   split at h
   ·rename_i hg; subst hg; cases h; exact fun hl=>Z9h _ hl
   split at h
   ·rename_i hg; subst hg; cases h; exact fun hl=>Z9f _ hl
   ·cases h
  ·cases h
 ·cases h
def Zei:PT:=fun f xs=>if f=128 then match xs with
  | [.str s,.str t]=>some (.br (t.isPrefixOf s) (.ok True (.tuple [.str (s.drop t.length),.bool true]) []) (.ok True (.tuple [.str s,.bool false]) []))
  | _=>none
 else none
theorem Zag:Zei.OK:=by
 intro f xs rt h
 unfold Zei at h
 split at h
 ·rename_i hf; subst hf
  split at h
  ·rename_i s t
   cases h
   have:=Zaf s t
   cases hp:t.isPrefixOf s <;> (rw[hp] at this; exact fun _=>this)
  ·cases h
 ·cases h
def wq2:QT:=ZbZ.or allQ
theorem Zb9:wq2.OK:=QT.or_ok Z9g Z8M
noncomputable def PSym (s:LU):Tr:=Ow (List.length s<=4611686018427387904) (brT (Lx.wordB Lx.isLow s) (Rt (D.bool !decide (s=[(110:UInt8),(111:UInt8),(116:UInt8)])) []) (Rt (dB false) []))
theorem ZeH (s:LU):gP (ctr libT wq2) rs16 sc16 [dS s]=PSym s:=by kernel_rfl
noncomputable def PVar (s:LU):Tr:=brT (List.isPrefixOf [(95:UInt8)] s) (Ow True (Ow (List.length s<=4611686018427387904) (brT (Lx.wordB Lx.isUp s) (Rt (dB true) []) (Ow (List.length (List.drop 1 s)<=4611686018427387904) (brT (List.all (List.drop 1 s) Lx.isDig) (Rt (dB (decide ((↑(List.length s):Int)<=(32:Int)))) []) (Rt (dB false) [])))))) (Ow True (Ow (List.length s<=4611686018427387904) (brT (Lx.wordB Lx.isUp s) (Rt (dB true) []) (Rt (dB false) []))))
theorem ZeF (s:LU):gP (ctr Zei wq2) rs84 sc84 [dS s]=PVar s:=by kernel_rfl
theorem Z6Q (s:LU) (hl:s.length<=4611686018427387904):FK 16 [.str s] (.bool (Lx.symbolB s)):=by
 refine FnOK.tree Z4 fp16 (Z5 Z1 Zb9) (ZeH s) ?_
 unfold PSym Lx.symbolB
 simp only[SS]
 refine⟨hl,fun h=> ?_,fun h=>by simp only[h,Bool.false_and]⟩
 simp only[h,Bool.true_and,Lx.notS]
 exact (decide_not (p:=s=[110,111,116])).symm
theorem Z3K (s:LU) (hl:s.length<=4611686018427387904):FK 84 [.str s] (.bool (Lx.variableB s)):=by
 refine FnOK.tree Z4 fp84 (Z5 Zag Zb9) (ZeF s) ?_
 unfold PVar Lx.variableB
 simp only[SS]
 have hd:(s.drop 1).length<=s.length:=by simp
 have h0:List.isPrefixOf [95] s=true-> ∃ r,s=95::r:=fun h=>by
  obtain⟨t,ht⟩:=List.isPrefixOf_iff_prefix.1 h
  exact⟨t,ht.symm⟩
 have h0':List.isPrefixOf [95] s=false-> ∀ r,s≠95::r:=fun h r hr=>by rw[hr] at h; simp[List.isPrefixOf] at h
 refine⟨fun h=>⟨hl,fun hw=>by simp only[hw,Bool.true_or],fun hw=> ?_⟩,fun h=>⟨hl,fun hw=>by simp only[hw,Bool.true_or],fun hw=> ?_⟩⟩
 ·obtain⟨r,rfl⟩:=h0 h
  simp only[List.length_cons,List.length_nil,List.drop_succ_cons,List.drop_zero] at hd hl ⊢
  exact⟨by omega,fun ha=>by simp only[hw,ha,Bool.false_or,Bool.true_and,Int.ofNat_le,show (32:Int)=((32:Nat):Int) from rfl],fun ha=>by simp only[hw,ha,Bool.false_or,Bool.false_and]⟩
 ·simp only[hw,Bool.false_or]
  split
  ·rename_i r; exact absurd rfl (h0' h r)
  ·rfl
end Go.Proofs.YtecgehidegnmnaaGreatDoor
/- sign,and the directives. -/
namespace Go.Proofs.YtecgehidegnmnaaGreatDoor
open Go.Sx
theorem ZeT (es ext:LD) (t:LU):gP (ctr libT) Z7i Z5V [dL es ext,dS t]=(Jm (cut Z5V 0) { tm:=[(0,dL es ext),(1,dS t),(7,dI (↑(List.length es):Int)),(8,dI (0:Int))],ob:=[] }:Tr):=by kernel_rfl
def ZdY (es ext:LD) (t:LU) (i:Int):St:=⟨[(0,.slice es ext),(1,.str t),(7,.int .i64 es.length),(8,.int .i64 i)],[]⟩
theorem Z5G (l:List (LU)) (ext:LD) (t:LU) (i:Int):let A:=(↑(List.length (strC l)):Int);let B:=cut Z5V 0;let C:=Int.toNat i;let E:=(i+(1:Int));gH (ctr libT Z0x fun x n=>[dS (List.getD l (Int.toNat n) [])]) 0 true Z7i B (ZdY (strC l) ext t i)=(brT (decide (i<A)) (Ow ((0:Int)<=i/\(strC l)[Int.toNat i]? = some [dS (List.getD l C [])]) (brT (decide (t=List.getD l C [])) (Rt (dI i) []) (I8 E (Jm B { tm:=[(0,dL (strC l) ext),(1,dS t),(7,dI A),(8,dI E)],ob:=[] })))) (Rt (dI (-1:Int)) []):Tr):=by intro A B C E;kernel_rfl
theorem Zgd (l:List (LU)) (ext:LD) (t:LU) (hl:l.length<=4611686018427387904): ∀ (m i:Nat),l.length-i=m->i<=l.length →
  At Tryz.prog 0 (cut Z5V 0) (ZdY (strC l) ext t i) (FinQ true 0 Z7i fun r _=>r= .int .i64 (idxS t (l.drop i) i)):=by
 intro m
 induction m with
 | zero =>
  intro i hm hi
  refine At.tree (Z5 Z1 Z3) (Z5G l ext t i) ?_
  rw[List.drop_eq_nil_of_le (by omega)]
  simp only[SS,Z0p]
  exact⟨fun h=>by omega,fun _=>rfl⟩
 | succ m ih =>
  intro i hm hi
  refine At.tree (Z5 Z1 Z3) (Z5G l ext t i) ?_
  rw[Z00 (d:=[]) (by omega)]
  simp only[SS,Z0p,idxS]
  refine⟨fun _=>⟨⟨by omega,Z4T (by omega)⟩,fun h=>by rw[if_pos h],fun h=>⟨by omega, ?_⟩⟩,fun h=>by omega⟩
  rw[if_neg h]
  have:=ih (i+1) (by omega) (by omega)
  simp only[ZdY,Z0p] at this
  exact this
def idxP:PT:=fun f xs=>if f=142 then (match xs with
  | [.slice es _,.str t]=>some (.ok (es=strC (es.map deS)/\es.length<=4611686018427387904) (.int .i64 (idxS t (es.map deS) 0)) [])
  | _=>none)
 else if f=171 then strP f xs else none
theorem Z4e:idxP.OK:=by
 intro f xs rt h
 unfold idxP at h
 split at h
 ·rename_i hf; subst hf
  split at h
  ·rename_i es ext t
   cases h
   rintro⟨he,hl⟩
   have:=FnOK.tree Z4 ZgE (Z5 Z1 Z3) (ZeT (strC (es.map deS)) ext t) (Zgd (es.map deS) ext t (by simpa using hl) _ 0 rfl (Nat.zero_le _))
   rwa [<- he] at this
  ·cases h
 split at h
 ·exact Z3T _ _ _ h
 ·cases h
theorem Z7L (l:List (LU)):(strC l).map deS=l:=by
 unfold strC
 rw[List.map_map]
 exact List.map_id'' (fun _=>rfl) l
theorem ZeX (es ext:LD) (t:LU):let A:=List.map deS es;gP (ctr idxP) Zdv ZcJ [dL es ext,dS t]=(Ow (es=strC A/\List.length es<=4611686018427387904) (Rt (dB (decide ((0:Int)<=idxS t A (0:Int)))) []):Tr):=by intro A;kernel_rfl
theorem ZbH (l:List (LU)) (ext:LD) (t:LU) (hl:l.length<=4611686018427387904):FK 107 [.slice (strC l) ext,.str t] (.bool (decide (t∈l))):=by
 refine FnOK.tree Z4 ZgW (Z5 Z4e Z3) (ZeX _ ext t) ?_
 simp only[SS,Z7L,Z0p]
 exact⟨hl,decide_eq_decide.2 (Z5i t l 0 (by omega))⟩
theorem Z8U (s t:LU):gP (ctr idxP) Zdi Zcw [dS s,dS t]=(Ow True (Rt (dB (List.isPrefixOf t s)) []):Tr):=by kernel_rfl
theorem Za3 (s t:LU):FK 144 [.str s,.str t] (.bool (t.isPrefixOf s)) :=
 FnOK.tree Z4 ZgD (Z5 Z4e Z3) (Z8U s t) ⟨trivial,rfl⟩
set_option maxRecDepth 100000 in
theorem Z70:fnE tab (go Tryz.prog tab 400) 143 []=some (.slice (strC Lx.signL) []):=by kernel_rfl
def sgnP:PT:=fun f xs=>if f=143 then (match xs with
  | []=>some (.ok True (.slice (strC Lx.signL) []) [])
  | _=>none)
 else if f=144 then (match xs with
  | [.str s,.str t]=>some (.ok True (.bool (t.isPrefixOf s)) [])
  | _=>none)
 else none
theorem Z3X:sgnP.OK:=by
 intro f xs rt h
 unfold sgnP at h
 split at h
 ·rename_i hf; subst hf
  split at h
  ·cases h; exact fun _=>Z86 Z4 Z6P _ Z70
  ·cases h
 split at h
 ·rename_i hf; subst hf
  split at h
  ·cases h; exact fun _=>Za3 _ _
  ·cases h
 ·cases h
theorem ZhN (src:LU) (a:Int):let A:=(61:UInt8);let B:=[(0,oC [dS src,dI a])];let C:=(58:UInt8);let E:=(46:UInt8);gC (ctr sgnP) 1 Z7n Z60 [] [dP 0 0] [] B=(Ow True (Jm (cut Z60 0) { tm:=[(0,dP 0 0),(5,dL [[dS [C,(45:UInt8)]],[dS [C,(126:UInt8)]],[dS [C]],[dS [E,E]],[dS [E]],[dS [(44:UInt8)]],[dS [(59:UInt8)]],[dS [(124:UInt8)]],[dS [(40:UInt8)]],[dS [(41:UInt8)]],[dS [(123:UInt8)]],[dS [(125:UInt8)]],[dS [(91:UInt8)]],[dS [(93:UInt8)]],[dS [A]],[dS [(33:UInt8),A]],[dS [(60:UInt8),A]],[dS [(62:UInt8),A]],[dS [(60:UInt8)]],[dS [(62:UInt8)]],[dS [(43:UInt8)]],[dS [(45:UInt8)]],[dS [(42:UInt8)]],[dS [(47:UInt8)]],[dS [(92:UInt8)]],[dS [(64:UInt8)]]] []),(6,dI (26:Int)),(7,dI (0:Int))],ob:=B }):Tr):=by intro A B C E;kernel_rfl
def hdSg (src:LU) (l:List (LU)) (a i:Int):St:=⟨[(0,.ptr 0 0),(5,.slice (strC l) []),(6,.int .i64 l.length),(7,.int .i64 i)],[(0,.cells [.str src,.int .i64 a])]⟩
theorem Z9d (src:LU) (l:List (LU)) (a i:Int):let A:=List.getD l (Int.toNat i) [];let B:=(↑(List.length src):Int);let C:=(↑(List.length A):Int);let E:=(↑(List.length l):Int);let F:=[(0,oC [dS src,dI a])];let G:=cut Z60 0;let H:=(i+(1:Int));gH (ctr sgnP Z0x fun x n=>[dS (List.getD l (Int.toNat n) [])]) 1 false Z7n G (hdSg src l a i)=(brT (decide (i<E)) (Ow ((0:Int)<=i/\(strC l)[Int.toNat i]? = some [dS A]) (Ow ((0:Int)<=a/\a<=B/\B<=B) (Ow True (brT (List.isPrefixOf A (List.drop (Int.toNat a) (List.take (Int.toNat B) src))) (Ow ((-9223372036854775808:Int)<=a+C/\a+C<=(9223372036854775807:Int)) (Rt (dS A) [(0,oC [dS src,dI (a+C)])])) (I8 H (Jm G { tm:=[(0,dP 0 0),(5,dL (strC l) []),(6,dI E),(7,dI H)],ob:=F })))))) (Rt (dS []) F):Tr):=by intro A B C E F G H;kernel_rfl
def sgF (l:List (LU)) (s:LU):LU:=(l.find? (·.isPrefixOf s)).getD []
theorem Zch (src:LU) (l:List (LU)) (a:Nat) (ha:a<=src.length) (hl:src.length<=4611686018427387904) (hk:l.length<=1000) (hll: ∀ t∈l,t.length<=100): ∀ (m i:Nat),l.length-i=m->i<=l.length →
  At Tryz.prog 1 (cut Z60 0) (hdSg src l a i) (FinQ false 1 Z7n fun r ob=>r= .str (sgF (l.drop i) (src.drop a))/\ob=[(0,.cells [.str src,.int .i64 ((a+(sgF (l.drop i) (src.drop a)).length:Nat):Int)])]):=by
 intro m
 induction m with
 | zero =>
  intro i hm hi
  refine At.tree (Z5 Z3X Z3) (Z9d src l a i) ?_
  rw[List.drop_eq_nil_of_le (by omega)]
  simp only[SS,sgF,List.find?_nil,Option.getD_none,List.length_nil,Nat.add_zero]
  exact⟨fun h=>by omega,fun _=>trivial⟩
 | succ m ih =>
  intro i hm hi
  refine At.tree (Z5 Z3X Z3) (Z9d src l a i) ?_
  rw[Z00 (d:=[]) (by omega)]
  have hb:(l.getD i []).length<=100:=hll _ (by
   rw[List.getD_eq_getElem?_getD,List.getElem?_eq_getElem (by omega)]
   exact List.getElem_mem _)
  simp only[SS]
  refine⟨fun _=>⟨⟨by omega,Z4T (by omega)⟩,by omega,fun h=> ?_,fun h=>⟨by omega, ?_⟩⟩,fun h=>by omega⟩
  ·have e:sgF (l.getD i []::l.drop (i+1)) (src.drop a)=l.getD i []:=by simp only[sgF,List.find?_cons,h,Option.getD_some]
   rw[e]
   exact⟨by omega,rfl,rfl⟩
  ·have e:sgF (l.getD i []::l.drop (i+1)) (src.drop a)=sgF (l.drop (i+1)) (src.drop a):=by simp only[sgF,List.find?_cons,h]
   rw[e]
   exact ih (i+1) (by omega) (by omega)
theorem Zcg (src:LU) (a:Nat) (ha:a<=src.length) (hl:src.length<=4611686018427387904):CF 108 [.ptr 0 0] [(0,.cells [.str src,.int .i64 a])]
  fun r ob=>r= .str (Lx.signOf (src.drop a))/\ob=[(0,.cells [.str src,.int .i64 ((a+(Lx.signOf (src.drop a)).length:Nat):Int)])] :=
 CallL.tree Z4 ZgV (Z5 Z3X Z3) (ZhN src a) ⟨trivial,Zch src Lx.signL a ha hl (by decide) (by decide) _ 0 rfl (Nat.zero_le _)⟩
end Go.Proofs.YtecgehidegnmnaaGreatDoor
/- The class of a byte; the tests for the bytes of some classes. -/
namespace Go.Proofs.YtecgehidegnmnaaGreatDoor
open Go.Sx
def cls (b:Nat):Int :=
 if 97<=b/\b<=122\/65<=b/\b<=90 then 1 else if 48<=b/\b<=57 then 2 else if b=95 then 4 else if b=32\/b=9\/b=10\/b=13 then 8 else if b=35 then 16 else 0
noncomputable def clsB (b:Nat):Bool:=match fnE tab (go Tryz.prog tab 400) 104 [.int .u8 (b:Int)] with
 | some (.int .i64 m)=>m == cls b
 | _=>false
set_option maxRecDepth 100000
theorem Zej:(List.range 256).all clsB=true:=by kernel_rfl
theorem Zaj (b:Nat) (hb:b<256):FK 104 [.int .u8 (b:Int)] (.int .i64 (cls b)):=by
 have h:=List.all_eq_true.1 Zej b (List.mem_range.2 hb)
 unfold clsB at h
 split at h
 ·rename_i m hm
  rw[<- eq_of_beq h]
  exact Z86 Z4 Z6P _ hm
 ·cases h
def clsP:PT:=fun f xs=>if f=104 then match xs with
  | [.int .u8 b]=>some (.ok (0<=b/\b<256) (.int .i64 (cls b.toNat)) [])
  | _=>none
 else none
theorem ZY:clsP.OK:=by
 intro f xs rt h
 unfold clsP at h
 split at h
 ·rename_i hf; subst hf
  split at h
  ·rename_i b
   cases h
   rintro⟨h0,h1⟩
   have:=Zaj b.toNat (by omega)
   rwa [Int.toNat_of_nonneg h0] at this
  ·cases h
 ·cases h
end Go.Proofs.YtecgehidegnmnaaGreatDoor
