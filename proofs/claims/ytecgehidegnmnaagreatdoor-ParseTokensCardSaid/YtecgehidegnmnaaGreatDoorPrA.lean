/- Own work: a layer over the kit: plain data,a walk over it,its soundness. -/
import Derived.Test.YtecgehidegnmnaaGreatDoorLibT
import Derived.Test.YtecgehidegnmnaaGreatDoorSx10
import Derived.Test.YtecgehidegnmnaaGreatDoorSx11
import Derived.Test.YtecgehidegnmnaaGreatDoorSx8
set_option linter.unusedSectionVars false
set_option linter.unusedVariables false
set_option linter.unusedSimpArgs false
set_option linter.deprecated false
set_option maxRecDepth 100000
/- The parser: where it stands,what it sees. -/
namespace Go.Proofs.YtecgehidegnmnaaGreatDoor
open Go.Sx
open Go.Sx.Lx (Tk tokC)
def psO (ts:List Tk) (i:Int) (so:Bool) (r1 r2 r3:LD):Obs:=[(0,.cells [.slice (ts.map tokC) [],.int .i64 i,.vec 1,.vec 2,.vec 3,.bool so]),(1,.arr true 20 42 r1),(2,.arr true 5 53 r2),(3,.arr true 2 138 r3)]
def eTok (c:List D):Nat->Int->List D:=fun _ _=>c
theorem Zbj (ts:List Tk) (i:Int) (so:Bool) (r1 r2 r3:LD) (k o:Int) (s:LU):let A:=psO ts i so r1 r2 r3;let B:=[dU k,dS s,dI o];let C:=List.map tokC ts;gC (ctr libT Qs (eTok B)) 10 rs58 sc58 [] [dP 0 0] [] A=(brT (decide (i<(↑(List.length C):Int))) (Ow ((0:Int)<=i/\C[Int.toNat i]? = some B) (Rt (dA B) A)) (Rt (dA [dU 0,dS [],dI 0]) A):Tr):=by intro A B C;kernel_rfl
structure PS where
 ts:List Tk
 so:Bool
 r1:LD
 r2:LD
 r3:LD
 hl:ts.length<=1000000000
 hs: ∀ t∈ts,t.2.1.length<=1000000000
 hv:Ps.TokOK ts
def PS.o (p:PS) (i:Nat):Obs:=psO p.ts i p.so p.r1 p.r2 p.r3
theorem Z20 (p:PS) (i:Nat):CF 58 [.ptr 0 0] (p.o i) fun r ob=>r= .agg (tokC (Ps.hereP p.ts i))/\ob=p.o i:=by
 refine CallL.tree Z5 fp58 (Z4 Z1 Z3) (Zbj p.ts i p.so p.r1 p.r2 p.r3 (Ps.hereP p.ts i).1 (Ps.hereP p.ts i).2.2 (Ps.hereP p.ts i).2.1) ?_
 simp only[SS,List.length_map,Int.ofNat_lt]
 refine⟨fun h=>⟨⟨by omega, ?_⟩,rfl,rfl⟩,fun h=> ?_⟩
 ·rw[List.getElem?_map,List.getElem?_eq_getElem h]
  simp only[Ps.hereP,List.getD_eq_getElem?_getD,List.getElem?_eq_getElem h,Option.getD_some,Option.map_some]
  rfl
 ·have:Ps.hereP p.ts i=(0,[],0):=by simp only[Ps.hereP,List.getD_eq_getElem?_getD,List.getElem?_eq_none (by omega:p.ts.length<=i),Option.getD_none]
  rw[this]
  exact⟨rfl,rfl⟩
abbrev fltV (a:Nat) (e:Int):Value:= .iface 114 (.agg #[.int .i64 a,.int .i64 e])
theorem Z9g (ts:List Tk) (i e:Int) (so:Bool) (r1 r2 r3:LD):let A:=psO ts i so r1 r2 r3;gC (ctr libT) 10 rs54 sc54 [] [dP 0 0,dI e] [] A=(Rt (D.pan (Value.iface 114 (Value.agg #[valV (dI i),valV (dI e)]))) A:Tr):=by intro A;kernel_rfl
theorem ZZ (p:PS) (i:Nat) (e:Int):CF 54 [.ptr 0 0,.int .i64 e] (p.o i) fun r ob=>r= .pan (fltV i e)/\ob=[]:=by
 refine CallL.pdrop (R:=fun r _=>r= .pan (fltV i e)) (CallL.tree Z5 fp54 (Z4 Z1 Z3) (Z9g p.ts i e p.so p.r1 p.r2 p.r3) ?_) fun _ _ h=>h
 simp only[SS]
 rfl
end Go.Proofs.YtecgehidegnmnaaGreatDoor
/- The words of terms. -/
namespace Go.Proofs.YtecgehidegnmnaaGreatDoor
open Go.Sx
def tb (p:UInt8->Bool) (b:Int):Bool:=p (UInt8.ofNat b.toNat)
theorem Z5a (p:UInt8->Bool) (b:UInt8):tb p (b.toNat:Int)=p b:=by simp[tb]
theorem Z4c (p:UInt8->Bool) (b:Int) (hb:0<=b/\b<256) {q:Int->Bool} (h:(List.range 256).all (fun n=>tb p (n:Int) == q (n:Int))=true):tb p b=q b:=by
 have:=List.all_eq_true.1 h b.toNat (List.mem_range.2 (by omega))
 rw[Int.toNat_of_nonneg hb.1] at this
 simpa using this
theorem Zfa (b:Int):gP (ctr libT) rs42 sc42 [dU b]=(brT (decide ((97:Int)<=b)) (Rt (dB (decide (b<=(122:Int)))) []) (Rt (dB false) []):Tr):=by kernel_rfl
theorem Zf8 (b:Int):gP (ctr libT) Za9 Z9Z [dU b]=(brT (decide ((65:Int)<=b)) (Rt (dB (decide (b<=(90:Int)))) []) (Rt (dB false) []):Tr):=by kernel_rfl
theorem Zfb (b:Int):gP (ctr libT) Za8 Z9Y [dU b]=(brT (decide ((48:Int)<=b)) (Rt (dB (decide (b<=(57:Int)))) []) (Rt (dB false) []):Tr):=by kernel_rfl
theorem Zeh (b:Int) (hb:0<=b/\b<256):FK 42 [.int .u8 b] (.bool (tb Lx.isLow b)):=by
 refine FnOK.tree Z5 fp42 (Z4 Z1 Z3) (Zfa b) ?_
 rw[Z4c Lx.isLow b hb (q:=fun b=>decide (97<=b) && decide (b<=122)) (by kernel_rfl)]
 cases h:decide (97<=b) <;> simp[brT,Zr]
theorem Zcu (b:Int) (hb:0<=b/\b<256):FK 123 [.int .u8 b] (.bool (tb Lx.isUp b)):=by
 refine FnOK.tree Z5 ZeC (Z4 Z1 Z3) (Zf8 b) ?_
 rw[Z4c Lx.isUp b hb (q:=fun b=>decide (65<=b) && decide (b<=90)) (by kernel_rfl)]
 cases h:decide (65<=b) <;> simp[brT,Zr]
theorem ZeL (b:Int) (hb:0<=b/\b<256):FK 124 [.int .u8 b] (.bool (tb Lx.isDig b)):=by
 refine FnOK.tree Z5 ZeB (Z4 Z1 Z3) (Zfb b) ?_
 rw[Z4c Lx.isDig b hb (q:=fun b=>decide (48<=b) && decide (b<=57)) (by kernel_rfl)]
 cases h:decide (48<=b) <;> simp[brT,Zr]
def bytP:PT:=fun f xs=>match xs with
 | [.int .u8 b]=>if f=42 then some (.ok (0<=b/\b<256) (.bool (tb Lx.isLow b)) []) else if f=123 then some (.ok (0<=b/\b<256) (.bool (tb Lx.isUp b)) [])
  else if f=124 then some (.ok (0<=b/\b<256) (.bool (tb Lx.isDig b)) []) else none
 | _=>none
theorem ZeT:bytP.OK:=by
 intro f xs rt h
 unfold bytP at h
 split at h
 ·split at h
  ·rename_i hf; subst hf; cases h; exact fun hp=>Zeh _ hp
  split at h
  ·rename_i hf; subst hf; cases h; exact fun hp=>Zcu _ hp
  split at h
  ·rename_i hf; subst hf; cases h; exact fun hp=>ZeL _ hp
  ·cases h
 ·cases h
theorem ZfG (b:Int):gC (ctr libT) 0 rs42 sc42 [] [dU b] [] []=(brT (decide ((97:Int)<=b)) (Rt (dB (decide (b<=(122:Int)))) []) (Rt (dB false) []):Tr):=by kernel_rfl
theorem ZfF (b:Int):gC (ctr libT) 0 Za9 Z9Z [] [dU b] [] []=(brT (decide ((65:Int)<=b)) (Rt (dB (decide (b<=(90:Int)))) []) (Rt (dB false) []):Tr):=by kernel_rfl
theorem ZfI (b:Int):gC (ctr libT) 0 Za8 Z9Y [] [dU b] [] []=(brT (decide ((48:Int)<=b)) (Rt (dB (decide (b<=(57:Int)))) []) (Rt (dB false) []):Tr):=by kernel_rfl
theorem ZfH (b:Int):let A:=Rt (dB true) [];let B:=(256:Int);gC (ctr bytP) 0 rs77 sc77 [] [dU b] [] []=(Ow ((0:Int)<=b/\b<B) (brT (tb Lx.isLow b) A (Ow ((0:Int)<=b/\b<B) (brT (tb Lx.isUp b) A (Ow ((0:Int)<=b/\b<B) (brT (tb Lx.isDig b) A (Rt (dB (decide (b=(95:Int)))) [])))))):Tr):=by intro A B;kernel_rfl
theorem Zei (b:Int) (hb:0<=b/\b<256):CF 42 [.int .u8 b] [] fun r ob=>r= .bool (tb Lx.isLow b)/\ob=[]:=by
 refine CallL.tree Z5 fp42 (Z4 Z1 Z3) (ZfG b) ?_
 rw[Z4c Lx.isLow b hb (q:=fun b=>decide (97<=b) && decide (b<=122)) (by kernel_rfl)]
 cases h:decide (97<=b) <;> simp[brT,Zr]
theorem Zcv (b:Int) (hb:0<=b/\b<256):CF 123 [.int .u8 b] [] fun r ob=>r= .bool (tb Lx.isUp b)/\ob=[]:=by
 refine CallL.tree Z5 ZeC (Z4 Z1 Z3) (ZfF b) ?_
 rw[Z4c Lx.isUp b hb (q:=fun b=>decide (65<=b) && decide (b<=90)) (by kernel_rfl)]
 cases h:decide (65<=b) <;> simp[brT,Zr]
theorem ZeM (b:Int) (hb:0<=b/\b<256):CF 124 [.int .u8 b] [] fun r ob=>r= .bool (tb Lx.isDig b)/\ob=[]:=by
 refine CallL.tree Z5 ZeB (Z4 Z1 Z3) (ZfI b) ?_
 rw[Z4c Lx.isDig b hb (q:=fun b=>decide (48<=b) && decide (b<=57)) (by kernel_rfl)]
 cases h:decide (48<=b) <;> simp[brT,Zr]
theorem Zes (b:Int) (hb:0<=b/\b<256):CF 77 [.int .u8 b] [] fun r ob=>r= .bool (tb Lx.isName b)/\ob=[]:=by
 refine CallL.tree Z5 fp77 (Z4 ZeT Z3) (ZfH b) ?_
 rw[Z4c Lx.isName b hb (q:=fun b=>tb Lx.isLow b || tb Lx.isUp b || tb Lx.isDig b || decide (b=95)) (by kernel_rfl)]
 simp only[Qe,Zz,Zr]
 refine⟨hb,fun h1=>by simp[h1],fun h1=>⟨hb,fun h2=>by simp[h2],fun h2=>⟨hb,fun h3=>by simp[h3],fun h3=>by simp[h1,h2,h3]⟩⟩⟩
def bytF (f:FuncId):Option (UInt8->Bool):=if f=42 then some Lx.isLow else if f=123 then some Lx.isUp else if f=124 then some Lx.isDig else if f=77 then some Lx.isName else none
theorem ZeU {f:FuncId} {p:UInt8->Bool} (h:bytF f=some p) (b:Int) (hb:0<=b/\b<256):CallL Tryz.prog (.func (.func f) [] []) [.int .u8 b] [] fun r ob=>r= .bool (tb p b)/\ob=[]:=by
 unfold bytF at h
 split at h
 ·rename_i hf; subst hf; cases h; exact Zei b hb
 split at h
 ·rename_i hf; subst hf; cases h; exact Zcv b hb
 split at h
 ·rename_i hf; subst hf; cases h; exact ZeM b hb
 split at h
 ·rename_i hf; subst hf; cases h; exact Zes b hb
 ·cases h
def bytQ:QT:=fun d xs ob=>match d,xs,ob with
 | .func (.func f) [] [],[.int .u8 b],[]=>match bytF f with
  | some p=>some (.ok (0<=b/\b<256) (.bool (tb p b)) [])
  | none=>none
 | _,_,_=>none
theorem Z0r:bytQ.OK:=by
 intro d xs ob rt h
 unfold bytQ at h
 split at h
 ·split at h
  ·rename_i p hp; cases h; exact fun hb=>ZeU hp _ hb
  ·cases h
 ·cases h
theorem Zby (s:LU):gC (ctr libT bytQ) 0 rs76 sc76 [] [dS s,dF 124 [] []] [] []=(Jm (cut sc76 0) { tm:=[(0,dS s),(1,dF 124 [] []),(7,dI (↑(List.length s):Int)),(8,dI 0)],ob:=[] }:Tr):=by kernel_rfl
theorem Zbx (s:LU):gC (ctr libT bytQ) 0 rs76 sc76 [] [dS s,dF 77 [] []] [] []=(Jm (cut sc76 0) { tm:=[(0,dS s),(1,dF 77 [] []),(7,dI (↑(List.length s):Int)),(8,dI 0)],ob:=[] }:Tr):=by kernel_rfl
def Zar (f:FuncId) (s:LU) (i:Int):St:=⟨[(0,.str s),(1,.func (.func f) [] []),(7,.int .i64 s.length),(8,.int .i64 i)],[]⟩
theorem Z3Z (s:LU) (i:Int):let A:=(↑(UInt8.toNat (List.getD s (Int.toNat i) (0:UInt8))):Int);let B:=(↑(List.length s):Int);let C:=cut sc76 0;let E:=(i+(1:Int));gH (ctr libT bytQ) 0 false rs76 C (Zar 124 s i)=(brT (decide (i<B)) (Ow ((0:Int)<=i/\i<B) (Ow ((0:Int)<=A/\A<(256:Int)) (brT (!tb Lx.isDig A) (Rt (dB false) []) (I8 E (Jm C { tm:=[(0,dS s),(1,dF 124 [] []),(7,dI B),(8,dI E)],ob:=[] }))))) (Rt (dB true) []):Tr):=by intro A B C E;kernel_rfl
theorem Z3Y (s:LU) (i:Int):let A:=(↑(UInt8.toNat (List.getD s (Int.toNat i) (0:UInt8))):Int);let B:=(↑(List.length s):Int);let C:=cut sc76 0;let E:=(i+(1:Int));gH (ctr libT bytQ) 0 false rs76 C (Zar 77 s i)=(brT (decide (i<B)) (Ow ((0:Int)<=i/\i<B) (Ow ((0:Int)<=A/\A<(256:Int)) (brT (!tb Lx.isName A) (Rt (dB false) []) (I8 E (Jm C { tm:=[(0,dS s),(1,dF 77 [] []),(7,dI B),(8,dI E)],ob:=[] }))))) (Rt (dB true) []):Tr):=by intro A B C E;kernel_rfl
theorem Z5O {p:UInt8->Bool} {s:LU} {i:Nat} (h:i<s.length):(s.drop i).all p=(p (s.getD i 0) && (s.drop (i+1)).all p):=by
 rw[List.drop_eq_getElem_cons h,List.all_cons,List.getD_eq_getElem?_getD,List.getElem?_eq_getElem h]; rfl
theorem Zf0 (s:LU) (hl:s.length<=4611686018427387904): ∀ (m i:Nat),s.length-i=m->i<=s.length →
  At Tryz.prog 0 (cut sc76 0) (Zar 124 s i) (FinQ false 0 rs76 fun r ob=>r= .bool ((s.drop i).all Lx.isDig)/\ob=[]):=by
 intro m
 induction m with
 | zero =>
  intro i hm hi
  refine At.tree (Z4 Z1 Z0r) (Z3Z s i) ?_
  rw[List.drop_eq_nil_of_le (by omega)]
  simp only[SS]
  exact⟨fun h=>by omega,fun _=>rfl⟩
 | succ m ih =>
  intro i hm hi
  refine At.tree (Z4 Z1 Z0r) (Z3Z s i) ?_
  rw[Z5O (by omega)]
  simp only[SS,Z5a]
  refine⟨fun _=>⟨by omega,Z4K _ _,fun h=>by simp only[h,Bool.false_and],fun h=>⟨by omega, ?_⟩⟩,fun h=>by omega⟩
  rw[h,Bool.true_and]
  exact ih (i+1) (by omega) (by omega)
theorem ZeZ (s:LU) (hl:s.length<=4611686018427387904): ∀ (m i:Nat),s.length-i=m->i<=s.length →
  At Tryz.prog 0 (cut sc76 0) (Zar 77 s i) (FinQ false 0 rs76 fun r ob=>r= .bool ((s.drop i).all Lx.isName)/\ob=[]):=by
 intro m
 induction m with
 | zero =>
  intro i hm hi
  refine At.tree (Z4 Z1 Z0r) (Z3Y s i) ?_
  rw[List.drop_eq_nil_of_le (by omega)]
  simp only[SS]
  exact⟨fun h=>by omega,fun _=>rfl⟩
 | succ m ih =>
  intro i hm hi
  refine At.tree (Z4 Z1 Z0r) (Z3Y s i) ?_
  rw[Z5O (by omega)]
  simp only[SS,Z5a]
  refine⟨fun _=>⟨by omega,Z4K _ _,fun h=>by simp only[h,Bool.false_and],fun h=>⟨by omega, ?_⟩⟩,fun h=>by omega⟩
  rw[h,Bool.true_and]
  exact ih (i+1) (by omega) (by omega)
def allQ:QT:=fun d xs ob=>match d,xs,ob with
 | .func (.func f) [] [],[.str s,.func (.func g) [] []],[]=>if f=76 then (if g=124 then some (.ok (s.length<=4611686018427387904) (.bool (s.all Lx.isDig)) [])
   else if g=77 then some (.ok (s.length<=4611686018427387904) (.bool (s.all Lx.isName)) []) else none) else none
 | _,_,_=>none
theorem Z95:allQ.OK:=by
 intro d xs ob rt h
 unfold allQ at h
 split at h
 ·rename_i f s g
  split at h
  ·rename_i hf
   subst hf
   split at h
   ·rename_i hg
    subst hg
    cases h
    exact fun hl=>CallL.tree Z5 fp76 (Z4 Z1 Z0r) (Zby s) (Zf0 s hl _ 0 rfl (Nat.zero_le _))
   split at h
   ·rename_i hg
    subst hg
    cases h
    exact fun hl=>CallL.tree Z5 fp76 (Z4 Z1 Z0r) (Zbx s) (ZeZ s hl _ 0 rfl (Nat.zero_le _))
   ·cases h
  ·cases h
 ·cases h
end Go.Proofs.YtecgehidegnmnaaGreatDoor
/- Symbol and Variable. -/
namespace Go.Proofs.YtecgehidegnmnaaGreatDoor
open Go.Sx
theorem ZaY (s t:LU):let A:=(↑(List.length t):Int);let B:=(↑(List.length s):Int);gP (ctr libT) ZdA ZcO [dS s,dS t]=(brT (decide (A<=B)) (Ow ((0:Int)<=(0:Int)/\(0:Int)<=A/\A<=B) (Rt (dB (decide (List.drop 0 (List.take (Int.toNat A) s)=t))) [])) (Rt (dB false) []):Tr):=by intro A B;kernel_rfl
theorem Zew (s t:LU):FK 171 [.str s,.str t] (.bool (t.isPrefixOf s)):=by
 refine FnOK.tree Z5 ZgY (Z4 Z1 Z3) (ZaY s t) ?_
 simp only[SS,Int.ofNat_le]
 refine⟨fun h=>⟨by omega, ?_⟩,fun h=> ?_⟩
 ·rw[Bool.eq_iff_iff,decide_eq_true_eq,List.isPrefixOf_iff_prefix,List.prefix_iff_eq_take]
  exact eq_comm
 ·rw[eq_comm,<- Bool.not_eq_true,List.isPrefixOf_iff_prefix]
  exact fun hp=>h hp.length_le
theorem Zf9 (s:LU) (c:Int):gP (ctr libT) Z7E Z6f [dS s,dU c]=(Jm (cut Z6f 0) { tm:=[(0,dS s),(1,dU c)],ob:=[] }:Tr):=by kernel_rfl
def Zet (s:LU) (c:Int):St:=⟨[(0,.str s),(1,.int .u8 c)],[]⟩
theorem Z5R (s:LU) (c:Int):let A:=(↑(List.length s):Int);let B:=Rt (dS s) [];let C:=cut Z6f 0;gH (ctr libT) 0 true Z7E C (Zet s c)=(brT (decide ((0:Int)<A)) (Ow ((0:Int)<=(0:Int)/\(0:Int)<A) (brT (decide ((↑(UInt8.toNat (List.getD s 0 (0:UInt8))):Int)=c)) (Ow ((0:Int)<=(1:Int)/\(1:Int)<=A/\A<=A) (Jm C { tm:=[(0,dS (List.drop 1 (List.take (Int.toNat A) s))),(1,dU c)],ob:=[] })) B)) B:Tr):=by intro A B C;kernel_rfl
theorem ZbQ (c:UInt8): ∀ (s:LU),At Tryz.prog 0 (cut Z6f 0) (Zet s c.toNat) (FinQ true 0 Z7E fun r _=>r= .str (s.dropWhile (· == c)))
 | []=>by
  refine At.tree (Z4 Z1 Z3) (Z5R [] c.toNat) ?_
  simp[Qe,Zz,Zr]
 | b::r=>by
  refine At.tree (Z4 Z1 Z3) (Z5R (b::r) c.toNat) ?_
  simp only[SS,List.length_cons,List.getD_cons_zero]
  refine⟨fun _=>⟨by omega,fun h=>⟨by omega, ?_⟩,fun h=> ?_⟩,fun h=>by omega⟩
  ·have hb:b=c:=UInt8.toNat_inj.1 (by omega)
   have:=ZbQ c r
   simp only[List.dropWhile_cons,hb,beq_self_eq_true,if_true]
   simpa [Int.toNat_natCast,Zet] using this
  ·have hb:b≠c:=fun h'=>h (by rw[h'])
   simp[List.dropWhile_cons,hb]
theorem ZfV (s:LU) (c:UInt8):FK 119 [.str s,.int .u8 c.toNat] (.str (s.dropWhile (· == c))) :=
 FnOK.tree Z5 Zhk (Z4 Z1 Z3) (Zf9 s c.toNat) (ZbQ c s)
def strP:PT:=fun f xs=>if f=119 then match xs with
  | [.str s,.int .u8 c]=>some (.ok (0<=c/\c<256) (.str (s.dropWhile (· == UInt8.ofNat c.toNat))) [])
  | _=>none
 else if f=171 then match xs with
  | [.str s,.str t]=>some (.ok True (.bool (t.isPrefixOf s)) [])
  | _=>none
 else none
theorem Z4d:strP.OK:=by
 intro f xs rt h
 unfold strP at h
 split at h
 ·rename_i hf; subst hf
  split at h
  ·rename_i s c
   cases h
   intro hc
   have:=ZfV s (UInt8.ofNat c.toNat)
   rwa [show ((UInt8.ofNat c.toNat).toNat:Int)=c by rw[UInt8.toNat_ofNat_of_lt' (by show _<256; omega)]; omega] at this
  ·cases h
 split at h
 ·rename_i hf; subst hf
  split at h
  ·cases h; exact fun _=>Zew _ _
  ·cases h
 ·cases h
theorem Z9h (s:LU):gP (ctr strP) rs75 sc75 [dS s,dS [95]]=(brT (decide (s=[])) (Rt (dS s) []) (Ow ((0:Int)<=(0:Int)/\(0:Int)<(1:Int)) (Ow ((0:Int)<=(0:Int)/\(0:Int)<(1:Int)) (Ow ((0:Int)<=(95:Int)/\(95:Int)<(256:Int)) (Rt (dS (List.dropWhile (fun x=>x == UInt8.ofNat 95) s)) [])))):Tr):=by kernel_rfl
theorem Z9Q (s:LU):FK 75 [.str s,.str [95]] (.str (s.dropWhile Lx.isUnd)):=by
 refine FnOK.tree Z5 fp75 (Z4 Z4d Z3) (Z9h s) ?_
 simp only[SS]
 refine⟨fun h=>by rw[h]; rfl,fun h=>⟨by decide,by decide,by decide,rfl⟩⟩
theorem ZaZ (s t:LU):let A:=(↑(List.length s):Int);let B:=(↑(List.length t):Int);gP (ctr strP) ZdF ZcT [dS s,dS t]=(Ow True (brT (!List.isPrefixOf t s) (Rt (D.tuple [dS s,dB false]) []) (Ow ((0:Int)<=B/\B<=A/\A<=A) (Rt (D.tuple [dS (List.drop (Int.toNat B) (List.take (Int.toNat A) s)),dB true]) []))):Tr):=by intro A B;kernel_rfl
theorem ZeO (s t:LU):FK 157 [.str s,.str t] (if t.isPrefixOf s=true then .tuple [.str (s.drop t.length),.bool true] else .tuple [.str s,.bool false]):=by
 refine FnOK.tree Z5 Zh4 (Z4 Z4d Z3) (ZaZ s t) ?_
 simp only[SS]
 refine⟨fun h=>by rw[if_neg (by simp[h])],fun h=> ?_⟩
 have hl:=(List.isPrefixOf_iff_prefix.1 h).length_le
 rw[if_pos h]
 exact⟨by omega,rfl⟩
def Z8M:PT:=fun f xs=>if f=157 then match xs with
  | [.str s,.str t]=>some (.br (t.isPrefixOf s) (.ok True (.tuple [.str (s.drop t.length),.bool true]) []) (.ok True (.tuple [.str s,.bool false]) []))
  | _=>none
 else if f=75 then match xs with
  | [.str s,.str [95]]=>some (.ok True (.str (s.dropWhile Lx.isUnd)) [])
  | _=>none
 else none
theorem Z38:Z8M.OK:=by
 intro f xs rt h
 unfold Z8M at h
 split at h
 ·rename_i hf; subst hf
  split at h
  ·rename_i s t
   cases h
   have:=ZeO s t
   cases hp:t.isPrefixOf s <;> (rw[hp] at this; exact fun _=>this)
  ·cases h
 split at h
 ·rename_i hf; subst hf
  split at h
  ·cases h; exact fun _=>Z9Q _
  ·cases h
 ·cases h
theorem Z9f (s t:LU):gP (ctr Z8M) ZdS Zd6 [dS s,dS t]=(brT (List.isPrefixOf t s) (Ow True (Rt (D.tuple [dS (List.drop (List.length t) s),dB true]) [])) (Ow True (Rt (D.tuple [dS s,dB false]) [])):Tr):=by kernel_rfl
theorem ZaE (s t:LU):FK 128 [.str s,.str t] (if t.isPrefixOf s=true then .tuple [.str (s.drop t.length),.bool true] else .tuple [.str s,.bool false]):=by
 refine FnOK.tree Z5 Zhj (Z4 Z38 Z3) (Z9f s t) ?_
 simp only[SS]
 exact⟨fun h=>by rw[if_pos h],fun h=>by rw[if_neg (by simp[h])]⟩
def wqQ:QT:=bytQ.or allQ
theorem ZbA:wqQ.OK:=QT.or_ok Z0r Z95
noncomputable def Zcg (s:LU):Tr:=Ow True (brT (!decide (List.dropWhile Lx.isUnd s=[])) (Ow ((0:Int)<=(0:Int)/\(0:Int)<(↑(List.length (List.dropWhile Lx.isUnd s)):Int)) (Ow ((0:Int)<=(↑(UInt8.toNat (List.getD (List.dropWhile Lx.isUnd s) 0 (0:UInt8))):Int)/\(↑(UInt8.toNat (List.getD (List.dropWhile Lx.isUnd s) 0 (0:UInt8))):Int)<(256:Int)) (brT (tb Lx.isLow (↑(UInt8.toNat (List.getD (List.dropWhile Lx.isUnd s) 0 (0:UInt8))):Int)) (Ow (List.length (List.dropWhile Lx.isUnd s)<=4611686018427387904) (brT (List.all (List.dropWhile Lx.isUnd s) Lx.isName) (Rt (dB (decide ((↑(List.length s):Int)<=(32:Int)))) []) (Rt (dB false) []))) (Rt (dB false) [])))) (Rt (dB false) []))
theorem Z9B (s:LU):gC (ctr Z8M wqQ) 0 rs41 sc41 [] [dS s,dF 42 [] []] [] []=Zcg s:=by kernel_rfl
noncomputable def Zcf (s:LU):Tr:=Ow True (brT (!decide (List.dropWhile Lx.isUnd s=[])) (Ow ((0:Int)<=(0:Int)/\(0:Int)<(↑(List.length (List.dropWhile Lx.isUnd s)):Int)) (Ow ((0:Int)<=(↑(UInt8.toNat (List.getD (List.dropWhile Lx.isUnd s) 0 (0:UInt8))):Int)/\(↑(UInt8.toNat (List.getD (List.dropWhile Lx.isUnd s) 0 (0:UInt8))):Int)<(256:Int)) (brT (tb Lx.isUp (↑(UInt8.toNat (List.getD (List.dropWhile Lx.isUnd s) 0 (0:UInt8))):Int)) (Ow (List.length (List.dropWhile Lx.isUnd s)<=4611686018427387904) (brT (List.all (List.dropWhile Lx.isUnd s) Lx.isName) (Rt (dB (decide ((↑(List.length s):Int)<=(32:Int)))) []) (Rt (dB false) []))) (Rt (dB false) [])))) (Rt (dB false) []))
theorem Z9A (s:LU):gC (ctr Z8M wqQ) 0 rs41 sc41 [] [dS s,dF 123 [] []] [] []=Zcf s:=by kernel_rfl
theorem Z8F {p:UInt8->Bool} {s:LU} (h: ¬ s.dropWhile p=[]): ∃ b r,s.dropWhile p=b::r:=by
 cases hd:s.dropWhile p with
 | nil=>exact (h hd).elim
 | cons b r=>exact⟨b,r,rfl⟩
theorem Z9G (s:LU) (hl:s.length<=4611686018427387904):CF 41 [.str s,.func (.func 42) [] []] [] fun r ob=>r= .bool (Lx.wordB Lx.isLow s)/\ob=[]:=by
 refine CallL.tree Z5 fp41 (Z4 Z38 ZbA) (Z9B s) ?_
 unfold Zcg Lx.wordB
 simp only[SS]
 refine⟨fun h=> ?_,fun h=>by rw[h]⟩
 obtain⟨b,r,hd⟩:=Z8F h
 have h1:=(List.dropWhile_sublist (l:=s) Lx.isUnd).length_le
 rw[hd] at h1 ⊢
 simp only[List.length_cons,List.getD_cons_zero,Z5a]
 rw[List.length_cons] at h1
 exact⟨by omega,⟨by omega,by have:=b.toNat_lt; omega⟩,fun h2=>⟨by omega,fun h3=>by simp only[h2,h3,Bool.true_and,Int.ofNat_le,show (32:Int)=((32:Nat):Int) from rfl],fun h3=>by simp only[h3,Bool.and_false,Bool.false_and]⟩,fun h2=>by simp only[h2,Bool.false_and]⟩
theorem Z9E (s:LU) (hl:s.length<=4611686018427387904):CF 41 [.str s,.func (.func 123) [] []] [] fun r ob=>r= .bool (Lx.wordB Lx.isUp s)/\ob=[]:=by
 refine CallL.tree Z5 fp41 (Z4 Z38 ZbA) (Z9A s) ?_
 unfold Zcf Lx.wordB
 simp only[SS]
 refine⟨fun h=> ?_,fun h=>by rw[h]⟩
 obtain⟨b,r,hd⟩:=Z8F h
 have h1:=(List.dropWhile_sublist (l:=s) Lx.isUnd).length_le
 rw[hd] at h1 ⊢
 simp only[List.length_cons,List.getD_cons_zero,Z5a]
 rw[List.length_cons] at h1
 exact⟨by omega,⟨by omega,by have:=b.toNat_lt; omega⟩,fun h2=>⟨by omega,fun h3=>by simp only[h2,h3,Bool.true_and,Int.ofNat_le,show (32:Int)=((32:Nat):Int) from rfl],fun h3=>by simp only[h3,Bool.and_false,Bool.false_and]⟩,fun h2=>by simp only[h2,Bool.false_and]⟩
def Zcp:QT:=fun d xs ob=>match d,xs,ob with
 | .func (.func f) [] [],[.str s,.func (.func g) [] []],[]=>if f=41 then (if g=42 then some (.ok (s.length<=4611686018427387904) (.bool (Lx.wordB Lx.isLow s)) [])
   else if g=123 then some (.ok (s.length<=4611686018427387904) (.bool (Lx.wordB Lx.isUp s)) []) else none) else none
 | _,_,_=>none
theorem Z9F:Zcp.OK:=by
 intro d xs ob rt h
 unfold Zcp at h
 split at h
 ·split at h
  ·rename_i hf
   subst hf
   split at h
   ·rename_i hg; subst hg; cases h; exact fun hl=>Z9G _ hl
   split at h
   ·rename_i hg; subst hg; cases h; exact fun hl=>Z9E _ hl
   ·cases h
  ·cases h
 ·cases h
def ZeP:PT:=fun f xs=>if f=128 then match xs with
  | [.str s,.str t]=>some (.br (t.isPrefixOf s) (.ok True (.tuple [.str (s.drop t.length),.bool true]) []) (.ok True (.tuple [.str s,.bool false]) []))
  | _=>none
 else none
theorem ZaF:ZeP.OK:=by
 intro f xs rt h
 unfold ZeP at h
 split at h
 ·rename_i hf; subst hf
  split at h
  ·rename_i s t
   cases h
   have:=ZaE s t
   cases hp:t.isPrefixOf s <;> (rw[hp] at this; exact fun _=>this)
  ·cases h
 ·cases h
def wq2:QT:=Zcp.or allQ
theorem ZbB:wq2.OK:=QT.or_ok Z9F Z95
noncomputable def PSym (s:LU):Tr:=Ow (List.length s<=4611686018427387904) (brT (Lx.wordB Lx.isLow s) (Rt (D.bool !decide (s=[(110:UInt8),(111:UInt8),(116:UInt8)])) []) (Rt (dB false) []))
theorem Zff (s:LU):gP (ctr libT wq2) rs16 sc16 [dS s]=PSym s:=by kernel_rfl
noncomputable def PVar (s:LU):Tr:=brT (List.isPrefixOf [(95:UInt8)] s) (Ow True (Ow (List.length s<=4611686018427387904) (brT (Lx.wordB Lx.isUp s) (Rt (dB true) []) (Ow (List.length (List.drop 1 s)<=4611686018427387904) (brT (List.all (List.drop 1 s) Lx.isDig) (Rt (dB (decide ((↑(List.length s):Int)<=(32:Int)))) []) (Rt (dB false) [])))))) (Ow True (Ow (List.length s<=4611686018427387904) (brT (Lx.wordB Lx.isUp s) (Rt (dB true) []) (Rt (dB false) []))))
theorem Zfd (s:LU):gP (ctr ZeP wq2) rs84 sc84 [dS s]=PVar s:=by kernel_rfl
theorem Z7b (s:LU) (hl:s.length<=4611686018427387904):FK 16 [.str s] (.bool (Lx.symbolB s)):=by
 refine FnOK.tree Z5 fp16 (Z4 Z1 ZbB) (Zff s) ?_
 unfold PSym Lx.symbolB
 simp only[SS]
 refine⟨hl,fun h=> ?_,fun h=>by simp only[h,Bool.false_and]⟩
 simp only[h,Bool.true_and,Lx.notS]
 exact (decide_not (p:=s=[110,111,116])).symm
theorem Z44 (s:LU) (hl:s.length<=4611686018427387904):FK 84 [.str s] (.bool (Lx.variableB s)):=by
 refine FnOK.tree Z5 fp84 (Z4 ZaF ZbB) (Zfd s) ?_
 unfold PVar Lx.variableB
 simp only[SS]
 have hd:(s.drop 1).length<=s.length:=by simp
 have h0:List.isPrefixOf [95] s=true-> ∃ r,s=95::r:=fun h=>by
  obtain⟨t,ht⟩:=List.isPrefixOf_iff_prefix.1 h
  exact⟨t,ht.symm⟩
 have h0':List.isPrefixOf [95] s=false-> ∀ r,s≠95::r:=fun h r hr=>by rw[hr] at h; simp[List.isPrefixOf] at h
 refine⟨fun h=>⟨hl,fun hw=>by simp only[hw,Bool.true_or],fun hw=> ?_⟩,fun h=>⟨hl,fun hw=>by simp only[hw,Bool.true_or],fun hw=> ?_⟩⟩
 ·obtain⟨r,rfl⟩:=h0 h
  simp only[List.length_cons,List.length_nil,List.drop_succ_cons,List.drop_zero] at hd hl ⊢
  exact⟨by omega,fun ha=>by simp only[hw,ha,Bool.false_or,Bool.true_and,Int.ofNat_le,show (32:Int)=((32:Nat):Int) from rfl],fun ha=>by simp only[hw,ha,Bool.false_or,Bool.false_and]⟩
 ·simp only[hw,Bool.false_or]
  split
  ·rename_i r; exact absurd rfl (h0' h r)
  ·rfl
end Go.Proofs.YtecgehidegnmnaaGreatDoor
/- sign,and the directives. -/
namespace Go.Proofs.YtecgehidegnmnaaGreatDoor
open Go.Sx
theorem Zfq (es ext:LD) (t:LU):gP (ctr libT) Z7C Z6d [dL es ext,dS t]=(Jm (cut Z6d 0) { tm:=[(0,dL es ext),(1,dS t),(7,dI (↑(List.length es):Int)),(8,dI 0)],ob:=[] }:Tr):=by kernel_rfl
def Zev (es ext:LD) (t:LU) (i:Int):St:=⟨[(0,.slice es ext),(1,.str t),(7,.int .i64 es.length),(8,.int .i64 i)],[]⟩
theorem Z5Y (l:List (LU)) (ext:LD) (t:LU) (i:Int):let A:=(↑(List.length (strC l)):Int);let B:=cut Z6d 0;let C:=Int.toNat i;let E:=(i+(1:Int));gH (ctr libT Qs fun x n=>[dS (List.getD l (Int.toNat n) [])]) 0 true Z7C B (Zev (strC l) ext t i)=(brT (decide (i<A)) (Ow ((0:Int)<=i/\(strC l)[Int.toNat i]? = some [dS (List.getD l C [])]) (brT (decide (t=List.getD l C [])) (Rt (dI i) []) (I8 E (Jm B { tm:=[(0,dL (strC l) ext),(1,dS t),(7,dI A),(8,dI E)],ob:=[] })))) (Rt (dI (-1:Int)) []):Tr):=by intro A B C E;kernel_rfl
theorem ZgM (l:List (LU)) (ext:LD) (t:LU) (hl:l.length<=4611686018427387904): ∀ (m i:Nat),l.length-i=m->i<=l.length →
  At Tryz.prog 0 (cut Z6d 0) (Zev (strC l) ext t i) (FinQ true 0 Z7C fun r _=>r= .int .i64 (idxS t (l.drop i) i)):=by
 intro m
 induction m with
 | zero =>
  intro i hm hi
  refine At.tree (Z4 Z1 Z3) (Z5Y l ext t i) ?_
  rw[List.drop_eq_nil_of_le (by omega)]
  simp only[SS,Z07]
  exact⟨fun h=>by omega,fun _=>rfl⟩
 | succ m ih =>
  intro i hm hi
  refine At.tree (Z4 Z1 Z3) (Z5Y l ext t i) ?_
  rw[Z03 (d:=[]) (by omega)]
  simp only[SS,Z07,idxS]
  refine⟨fun _=>⟨⟨by omega,Z5c (by omega)⟩,fun h=>by rw[if_pos h],fun h=>⟨by omega, ?_⟩⟩,fun h=>by omega⟩
  rw[if_neg h]
  have:=ih (i+1) (by omega) (by omega)
  simp only[Zev,Z07] at this
  exact this
def idxP:PT:=fun f xs=>if f=142 then (match xs with
  | [.slice es _,.str t]=>some (.ok (es=strC (es.map deS)/\es.length<=4611686018427387904) (.int .i64 (idxS t (es.map deS) 0)) [])
  | _=>none)
 else if f=171 then strP f xs else none
theorem Z4x:idxP.OK:=by
 intro f xs rt h
 unfold idxP at h
 split at h
 ·rename_i hf; subst hf
  split at h
  ·rename_i es ext t
   cases h
   rintro⟨he,hl⟩
   have:=FnOK.tree Z5 Zhc (Z4 Z1 Z3) (Zfq (strC (es.map deS)) ext t) (ZgM (es.map deS) ext t (by simpa using hl) _ 0 rfl (Nat.zero_le _))
   rwa [<- he] at this
  ·cases h
 split at h
 ·exact Z4d _ _ _ h
 ·cases h
theorem Z4q (l:List (LU)):(strC l).map deS=l:=by
 unfold strC
 rw[List.map_map]
 exact List.map_id'' (fun _=>rfl) l
theorem Zfu (es ext:LD) (t:LU):let A:=List.map deS es;gP (ctr idxP) ZdZ Zdd [dL es ext,dS t]=(Ow (es=strC A/\List.length es<=4611686018427387904) (Rt (dB (decide ((0:Int)<=idxS t A (0:Int)))) []):Tr):=by intro A;kernel_rfl
theorem Zc7 (l:List (LU)) (ext:LD) (t:LU) (hl:l.length<=4611686018427387904):FK 107 [.slice (strC l) ext,.str t] (.bool (decide (t∈l))):=by
 refine FnOK.tree Z5 Zhu (Z4 Z4x Z3) (Zfu _ ext t) ?_
 simp only[SS,Z4q,Z07]
 exact⟨hl,decide_eq_decide.2 (Z5A t l 0 (by omega))⟩
theorem Z9e (s t:LU):gP (ctr idxP) ZdM Zd0 [dS s,dS t]=(Ow True (Rt (dB (List.isPrefixOf t s)) []):Tr):=by kernel_rfl
theorem Zas (s t:LU):FK 144 [.str s,.str t] (.bool (t.isPrefixOf s)) :=
 FnOK.tree Z5 Zhb (Z4 Z4x Z3) (Z9e s t) ⟨trivial,rfl⟩
set_option maxRecDepth 100000 in
theorem Z7l:fnE tab (go Tryz.prog tab 400) 143 []=some (.slice (strC Lx.signL) []):=by kernel_rfl
def sgnP:PT:=fun f xs=>if f=143 then (match xs with
  | []=>some (.ok True (.slice (strC Lx.signL) []) [])
  | _=>none)
 else if f=144 then (match xs with
  | [.str s,.str t]=>some (.ok True (.bool (t.isPrefixOf s)) [])
  | _=>none)
 else none
theorem Z4h:sgnP.OK:=by
 intro f xs rt h
 unfold sgnP at h
 split at h
 ·rename_i hf; subst hf
  split at h
  ·cases h; exact fun _=>Z8r Z5 Z7a _ Z7l
  ·cases h
 split at h
 ·rename_i hf; subst hf
  split at h
  ·cases h; exact fun _=>Zas _ _
  ·cases h
 ·cases h
theorem Zin (src:LU) (a:Int):let A:=[(0,oC [dS src,dI a])];gC (ctr sgnP) 1 Z7H Z6i [] [dP 0 0] [] A=(Ow True (Jm (cut Z6i 0) { tm:=[(0,dP 0 0),(5,dL [[dS [58,45]],[dS [58,126]],[dS [58]],[dS [46,46]],[dS [46]],[dS [44]],[dS [59]],[dS [124]],[dS [40]],[dS [41]],[dS [123]],[dS [125]],[dS [91]],[dS [93]],[dS [61]],[dS [33,61]],[dS [60,61]],[dS [62,61]],[dS [60]],[dS [62]],[dS [43]],[dS [45]],[dS [42]],[dS [47]],[dS [92]],[dS [64]]] []),(6,dI 26),(7,dI 0)],ob:=A }):Tr):=by intro A;kernel_rfl
def hdSg (src:LU) (l:List (LU)) (a i:Int):St:=⟨[(0,.ptr 0 0),(5,.slice (strC l) []),(6,.int .i64 l.length),(7,.int .i64 i)],[(0,.cells [.str src,.int .i64 a])]⟩
theorem Z9C (src:LU) (l:List (LU)) (a i:Int):let A:=List.getD l (Int.toNat i) [];let B:=(↑(List.length src):Int);let C:=(↑(List.length A):Int);let E:=(↑(List.length l):Int);let F:=[(0,oC [dS src,dI a])];let G:=cut Z6i 0;let H:=(i+(1:Int));gH (ctr sgnP Qs fun x n=>[dS (List.getD l (Int.toNat n) [])]) 1 false Z7H G (hdSg src l a i)=(brT (decide (i<E)) (Ow ((0:Int)<=i/\(strC l)[Int.toNat i]? = some [dS A]) (Ow ((0:Int)<=a/\a<=B/\B<=B) (Ow True (brT (List.isPrefixOf A (List.drop (Int.toNat a) (List.take (Int.toNat B) src))) (Ow ((-9223372036854775808:Int)<=a+C/\a+C<=(9223372036854775807:Int)) (Rt (dS A) [(0,oC [dS src,dI (a+C)])])) (I8 H (Jm G { tm:=[(0,dP 0 0),(5,dL (strC l) []),(6,dI E),(7,dI H)],ob:=F })))))) (Rt (dS []) F):Tr):=by intro A B C E F G H;kernel_rfl
def sgF (l:List (LU)) (s:LU):LU:=(l.find? (·.isPrefixOf s)).getD []
theorem ZcJ (src:LU) (l:List (LU)) (a:Nat) (ha:a<=src.length) (hl:src.length<=4611686018427387904) (hk:l.length<=1000) (hll: ∀ t∈l,t.length<=100): ∀ (m i:Nat),l.length-i=m->i<=l.length →
  At Tryz.prog 1 (cut Z6i 0) (hdSg src l a i) (FinQ false 1 Z7H fun r ob=>r= .str (sgF (l.drop i) (src.drop a))/\ob=[(0,.cells [.str src,.int .i64 ((a+(sgF (l.drop i) (src.drop a)).length:Nat):Int)])]):=by
 intro m
 induction m with
 | zero =>
  intro i hm hi
  refine At.tree (Z4 Z4h Z3) (Z9C src l a i) ?_
  rw[List.drop_eq_nil_of_le (by omega)]
  simp only[SS,sgF,List.find?_nil,Option.getD_none,List.length_nil,Nat.add_zero]
  exact⟨fun h=>by omega,fun _=>trivial⟩
 | succ m ih =>
  intro i hm hi
  refine At.tree (Z4 Z4h Z3) (Z9C src l a i) ?_
  rw[Z03 (d:=[]) (by omega)]
  have hb:(l.getD i []).length<=100:=hll _ (by
   rw[List.getD_eq_getElem?_getD,List.getElem?_eq_getElem (by omega)]
   exact List.getElem_mem _)
  simp only[SS]
  refine⟨fun _=>⟨⟨by omega,Z5c (by omega)⟩,by omega,fun h=> ?_,fun h=>⟨by omega, ?_⟩⟩,fun h=>by omega⟩
  ·have e:sgF (l.getD i []::l.drop (i+1)) (src.drop a)=l.getD i []:=by simp only[sgF,List.find?_cons,h,Option.getD_some]
   rw[e]
   exact⟨by omega,rfl,rfl⟩
  ·have e:sgF (l.getD i []::l.drop (i+1)) (src.drop a)=sgF (l.drop (i+1)) (src.drop a):=by simp only[sgF,List.find?_cons,h]
   rw[e]
   exact ih (i+1) (by omega) (by omega)
theorem ZcH (src:LU) (a:Nat) (ha:a<=src.length) (hl:src.length<=4611686018427387904):CF 108 [.ptr 0 0] [(0,.cells [.str src,.int .i64 a])]
  fun r ob=>r= .str (Lx.signOf (src.drop a))/\ob=[(0,.cells [.str src,.int .i64 ((a+(Lx.signOf (src.drop a)).length:Nat):Int)])] :=
 CallL.tree Z5 Zht (Z4 Z4h Z3) (Zin src a) ⟨trivial,ZcJ src Lx.signL a ha hl (by decide) (by decide) _ 0 rfl (Nat.zero_le _)⟩
end Go.Proofs.YtecgehidegnmnaaGreatDoor
/- The class of a byte; the tests for the bytes of some classes. -/
namespace Go.Proofs.YtecgehidegnmnaaGreatDoor
open Go.Sx
def cls (b:Nat):Int :=
 if 97<=b/\b<=122\/65<=b/\b<=90 then 1 else if 48<=b/\b<=57 then 2 else if b=95 then 4 else if b=32\/b=9\/b=10\/b=13 then 8 else if b=35 then 16 else 0
noncomputable def clsB (b:Nat):Bool:=match fnE tab (go Tryz.prog tab 400) 104 [.int .u8 (b:Int)] with
 | some (.int .i64 m)=>m == cls b
 | _=>false
set_option maxRecDepth 100000
theorem ZeR:(List.range 256).all clsB=true:=by kernel_rfl
theorem ZaI (b:Nat) (hb:b<256):FK 104 [.int .u8 (b:Int)] (.int .i64 (cls b)):=by
 have h:=List.all_eq_true.1 ZeR b (List.mem_range.2 hb)
 unfold clsB at h
 split at h
 ·rename_i m hm
  rw[<- eq_of_beq h]
  exact Z8r Z5 Z7a _ hm
 ·cases h
def clsP:PT:=fun f xs=>if f=104 then match xs with
  | [.int .u8 b]=>some (.ok (0<=b/\b<256) (.int .i64 (cls b.toNat)) [])
  | _=>none
 else none
theorem ZY:clsP.OK:=by
 intro f xs rt h
 unfold clsP at h
 split at h
 ·rename_i hf; subst hf
  split at h
  ·rename_i b
   cases h
   rintro⟨h0,h1⟩
   have:=ZaI b.toNat (by omega)
   rwa [Int.toNat_of_nonneg h0] at this
  ·cases h
 ·cases h
end Go.Proofs.YtecgehidegnmnaaGreatDoor
