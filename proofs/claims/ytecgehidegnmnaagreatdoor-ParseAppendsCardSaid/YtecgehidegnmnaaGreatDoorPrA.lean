/- Own work: a layer over the kit: plain data,a walk over it,its soundness. -/
import Derived.Test.YtecgehidegnmnaaGreatDoorLibT
import Derived.Test.YtecgehidegnmnaaGreatDoorSx10
import Derived.Test.YtecgehidegnmnaaGreatDoorSx11
import Derived.Test.YtecgehidegnmnaaGreatDoorSx8
set_option linter.unusedSectionVars false
set_option linter.unusedVariables false
set_option linter.unusedSimpArgs false
set_option linter.deprecated false
set_option maxRecDepth 100000
/- The parser: where it stands,what it sees. -/
open Go.Sx.Lx (Z1N Z65 Qn ZT QN Z1o Qt QF Z2k Q2)
namespace Go.Proofs.YtecgehidegnmnaaGreatDoor
open Go.Sx
open Go.Sx.Lx (Tk Zq)
def psO (ts:List Tk) (i:Int) (so:Bool) (r1 r2 r3:LD):Obs:=[(0,.cells [.slice (ts.map Zq) [],.int .i64 i,.vec 1,.vec 2,.vec 3,.bool so]),(1,.arr true 20 42 r1),(2,.arr true 5 53 r2),(3,.arr true 2 138 r3)]
def eTok (c:List D):Nat->Int->List D:=fun _ _=>c
theorem Zdc (ts:List Tk) (i:Int) (so:Bool) (r1 r2 r3:LD) (k o:Int) (s:LU):let A:=psO ts i so r1 r2 r3;let B:=[dU k,dS s,dI o];let C:=List.map Zq ts;gC (ctr libT Z1j (eTok B)) 10 rs58 sc58 [] [dP 0 0] [] A=(brT (decide (i<(↑(List.length C):Int))) (Ow ((0:Int)<=i/\C[Int.toNat i]? = some B) (Rt (dA B) A)) (Rt (dA [dU 0,dS [],dI 0]) A):Tr):=by intro A B C;kernel_rfl
structure PS where
 ts:List Tk
 so:Bool
 r1:LD
 r2:LD
 r3:LD
 hl:ts.length<=1000000000
 hs: ∀ t∈ts,t.2.1.length<=1000000000
 hv:Ps.Z4D ts
def PS.o (p:PS) (i:Nat):Obs:=psO p.ts i p.so p.r1 p.r2 p.r3
theorem Z3p (p:PS) (i:Nat):CF 58 [.ptr 0 0] (p.o i) fun r ob=>r= .agg (Zq (Ps.Zb p.ts i))/\ob=p.o i:=by
 refine CallL.tree Z7 fp58 (Z8 Z3 Z5) (Zdc p.ts i p.so p.r1 p.r2 p.r3 (Ps.Zb p.ts i).1 (Ps.Zb p.ts i).2.2 (Ps.Zb p.ts i).2.1) ?_
 simp only[SS,List.length_map,Int.ofNat_lt]
 refine⟨fun h=>⟨⟨by omega, ?_⟩,rfl,rfl⟩,fun h=> ?_⟩
 ·rw[List.getElem?_map,List.getElem?_eq_getElem h]
  simp only[Ps.Zb,List.getD_eq_getElem?_getD,List.getElem?_eq_getElem h,Option.getD_some,Option.map_some]
  rfl
 ·have:Ps.Zb p.ts i=(0,[],0):=by simp only[Ps.Zb,List.getD_eq_getElem?_getD,List.getElem?_eq_none (by omega:p.ts.length<=i),Option.getD_none]
  rw[this]
  exact⟨rfl,rfl⟩
abbrev fltV (a:Nat) (e:Int):Value:= .iface 114 (.agg #[.int .i64 a,.int .i64 e])
theorem Zbc (ts:List Tk) (i e:Int) (so:Bool) (r1 r2 r3:LD):let A:=psO ts i so r1 r2 r3;gC (ctr libT) 10 rs54 sc54 [] [dP 0 0,dI e] [] A=(Rt (D.pan (Value.iface 114 (Value.agg #[valV (dI i),valV (dI e)]))) A:Tr):=by intro A;kernel_rfl
theorem QQ (p:PS) (i:Nat) (e:Int):CF 54 [.ptr 0 0,.int .i64 e] (p.o i) fun r ob=>r= .pan (fltV i e)/\ob=[]:=by
 refine CallL.pdrop (R:=fun r _=>r= .pan (fltV i e)) (CallL.tree Z7 fp54 (Z8 Z3 Z5) (Zbc p.ts i e p.so p.r1 p.r2 p.r3) ?_) fun _ _ h=>h
 simp only[SS]
 rfl
end Go.Proofs.YtecgehidegnmnaaGreatDoor
/- The words of terms. -/
namespace Go.Proofs.YtecgehidegnmnaaGreatDoor
open Go.Sx
def tb (p:UInt8->Bool) (b:Int):Bool:=p (UInt8.ofNat b.toNat)
theorem Z6P (p:UInt8->Bool) (b:UInt8):tb p (b.toNat:Int)=p b:=by simp[tb]
theorem Z5F (p:UInt8->Bool) (b:Int) (hb:0<=b/\b<256) {q:Int->Bool} (h:(List.range 256).all (fun n=>tb p (n:Int) == q (n:Int))=true):tb p b=q b:=by
 have:=List.all_eq_true.1 h b.toNat (List.mem_range.2 (by omega))
 rw[Int.toNat_of_nonneg hb.1] at this
 simpa using this
theorem Zh7 (b:Int):gP (ctr libT) rs42 sc42 [dU b]=(brT (decide ((97:Int)<=b)) (Rt (dB (decide (b<=(122:Int)))) []) (Rt (dB false) []):Tr):=by kernel_rfl
theorem Zh5 (b:Int):gP (ctr libT) Zc2 ZbS [dU b]=(brT (decide ((65:Int)<=b)) (Rt (dB (decide (b<=(90:Int)))) []) (Rt (dB false) []):Tr):=by kernel_rfl
theorem Zh8 (b:Int):gP (ctr libT) Zc1 ZbR [dU b]=(brT (decide ((48:Int)<=b)) (Rt (dB (decide (b<=(57:Int)))) []) (Rt (dB false) []):Tr):=by kernel_rfl
theorem Zgg (b:Int) (hb:0<=b/\b<256):FK 42 [.int .u8 b] (.bool (tb Z1N b)):=by
 refine FnOK.tree Z7 fp42 (Z8 Z3 Z5) (Zh7 b) ?_
 rw[Z5F Z1N b hb (q:=fun b=>decide (97<=b) && decide (b<=122)) (by kernel_rfl)]
 cases h:decide (97<=b) <;> simp[brT,Q3]
theorem Zeo (b:Int) (hb:0<=b/\b<256):FK 123 [.int .u8 b] (.bool (tb Z65 b)):=by
 refine FnOK.tree Z7 ZgA (Z8 Z3 Z5) (Zh5 b) ?_
 rw[Z5F Z65 b hb (q:=fun b=>decide (65<=b) && decide (b<=90)) (by kernel_rfl)]
 cases h:decide (65<=b) <;> simp[brT,Q3]
theorem ZgI (b:Int) (hb:0<=b/\b<256):FK 124 [.int .u8 b] (.bool (tb Qn b)):=by
 refine FnOK.tree Z7 Zgz (Z8 Z3 Z5) (Zh8 b) ?_
 rw[Z5F Qn b hb (q:=fun b=>decide (48<=b) && decide (b<=57)) (by kernel_rfl)]
 cases h:decide (48<=b) <;> simp[brT,Q3]
def bytP:PT:=fun f xs=>match xs with
 | [.int .u8 b]=>if f=42 then some (.ok (0<=b/\b<256) (.bool (tb Z1N b)) []) else if f=123 then some (.ok (0<=b/\b<256) (.bool (tb Z65 b)) [])
  else if f=124 then some (.ok (0<=b/\b<256) (.bool (tb Qn b)) []) else none
 | _=>none
theorem ZgP:bytP.OK:=by
 intro f xs rt h
 unfold bytP at h
 split at h
 ·split at h
  ·rename_i hf; subst hf; cases h; exact fun hp=>Zgg _ hp
  split at h
  ·rename_i hf; subst hf; cases h; exact fun hp=>Zeo _ hp
  split at h
  ·rename_i hf; subst hf; cases h; exact fun hp=>ZgI _ hp
  ·cases h
 ·cases h
theorem ZhE (b:Int):gC (ctr libT) 0 rs42 sc42 [] [dU b] [] []=(brT (decide ((97:Int)<=b)) (Rt (dB (decide (b<=(122:Int)))) []) (Rt (dB false) []):Tr):=by kernel_rfl
theorem ZhD (b:Int):gC (ctr libT) 0 Zc2 ZbS [] [dU b] [] []=(brT (decide ((65:Int)<=b)) (Rt (dB (decide (b<=(90:Int)))) []) (Rt (dB false) []):Tr):=by kernel_rfl
theorem ZhG (b:Int):gC (ctr libT) 0 Zc1 ZbR [] [dU b] [] []=(brT (decide ((48:Int)<=b)) (Rt (dB (decide (b<=(57:Int)))) []) (Rt (dB false) []):Tr):=by kernel_rfl
theorem ZhF (b:Int):let A:=Rt (dB true) [];let B:=(256:Int);gC (ctr bytP) 0 rs77 sc77 [] [dU b] [] []=(Ow ((0:Int)<=b/\b<B) (brT (tb Z1N b) A (Ow ((0:Int)<=b/\b<B) (brT (tb Z65 b) A (Ow ((0:Int)<=b/\b<B) (brT (tb Qn b) A (Rt (dB (decide (b=(95:Int)))) [])))))):Tr):=by intro A B;kernel_rfl
theorem Zgh (b:Int) (hb:0<=b/\b<256):CF 42 [.int .u8 b] [] fun r ob=>r= .bool (tb Z1N b)/\ob=[]:=by
 refine CallL.tree Z7 fp42 (Z8 Z3 Z5) (ZhE b) ?_
 rw[Z5F Z1N b hb (q:=fun b=>decide (97<=b) && decide (b<=122)) (by kernel_rfl)]
 cases h:decide (97<=b) <;> simp[brT,Q3]
theorem Zep (b:Int) (hb:0<=b/\b<256):CF 123 [.int .u8 b] [] fun r ob=>r= .bool (tb Z65 b)/\ob=[]:=by
 refine CallL.tree Z7 ZgA (Z8 Z3 Z5) (ZhD b) ?_
 rw[Z5F Z65 b hb (q:=fun b=>decide (65<=b) && decide (b<=90)) (by kernel_rfl)]
 cases h:decide (65<=b) <;> simp[brT,Q3]
theorem ZgJ (b:Int) (hb:0<=b/\b<256):CF 124 [.int .u8 b] [] fun r ob=>r= .bool (tb Qn b)/\ob=[]:=by
 refine CallL.tree Z7 Zgz (Z8 Z3 Z5) (ZhG b) ?_
 rw[Z5F Qn b hb (q:=fun b=>decide (48<=b) && decide (b<=57)) (by kernel_rfl)]
 cases h:decide (48<=b) <;> simp[brT,Q3]
theorem Zgq (b:Int) (hb:0<=b/\b<256):CF 77 [.int .u8 b] [] fun r ob=>r= .bool (tb ZT b)/\ob=[]:=by
 refine CallL.tree Z7 fp77 (Z8 ZgP Z5) (ZhF b) ?_
 rw[Z5F ZT b hb (q:=fun b=>tb Z1N b || tb Z65 b || tb Qn b || decide (b=95)) (by kernel_rfl)]
 simp only[Z07,Qh,Q3]
 refine⟨hb,fun h1=>by simp[h1],fun h1=>⟨hb,fun h2=>by simp[h2],fun h2=>⟨hb,fun h3=>by simp[h3],fun h3=>by simp[h1,h2,h3]⟩⟩⟩
def bytF (f:FuncId):Option (UInt8->Bool):=if f=42 then some Z1N else if f=123 then some Z65 else if f=124 then some Qn else if f=77 then some ZT else none
theorem ZgQ {f:FuncId} {p:UInt8->Bool} (h:bytF f=some p) (b:Int) (hb:0<=b/\b<256):CallL Tryz.prog (.func (.func f) [] []) [.int .u8 b] [] fun r ob=>r= .bool (tb p b)/\ob=[]:=by
 unfold bytF at h
 split at h
 ·rename_i hf; subst hf; cases h; exact Zgh b hb
 split at h
 ·rename_i hf; subst hf; cases h; exact Zep b hb
 split at h
 ·rename_i hf; subst hf; cases h; exact ZgJ b hb
 split at h
 ·rename_i hf; subst hf; cases h; exact Zgq b hb
 ·cases h
def bytQ:QT:=fun d xs ob=>match d,xs,ob with
 | .func (.func f) [] [],[.int .u8 b],[]=>match bytF f with
  | some p=>some (.ok (0<=b/\b<256) (.bool (tb p b)) [])
  | none=>none
 | _,_,_=>none
theorem Z1x:bytQ.OK:=by
 intro d xs ob rt h
 unfold bytQ at h
 split at h
 ·split at h
  ·rename_i p hp; cases h; exact fun hb=>ZgQ hp _ hb
  ·cases h
 ·cases h
theorem Zdr (s:LU):gC (ctr libT bytQ) 0 rs76 sc76 [] [dS s,dF 124 [] []] [] []=(Jm (cut sc76 0) { tm:=[(0,dS s),(1,dF 124 [] []),(7,dI (↑(List.length s):Int)),(8,dI 0)],ob:=[] }:Tr):=by kernel_rfl
theorem Zdq (s:LU):gC (ctr libT bytQ) 0 rs76 sc76 [] [dS s,dF 77 [] []] [] []=(Jm (cut sc76 0) { tm:=[(0,dS s),(1,dF 77 [] []),(7,dI (↑(List.length s):Int)),(8,dI 0)],ob:=[] }:Tr):=by kernel_rfl
def Zcm (f:FuncId) (s:LU) (i:Int):St:=⟨[(0,.str s),(1,.func (.func f) [] []),(7,.int .i64 s.length),(8,.int .i64 i)],[]⟩
theorem Z5o (s:LU) (i:Int):let A:=(↑(UInt8.toNat (List.getD s (Int.toNat i) (0:UInt8))):Int);let B:=(↑(List.length s):Int);let C:=cut sc76 0;let E:=(i+(1:Int));gH (ctr libT bytQ) 0 false rs76 C (Zcm 124 s i)=(brT (decide (i<B)) (Ow ((0:Int)<=i/\i<B) (Ow ((0:Int)<=A/\A<(256:Int)) (brT (!tb Qn A) (Rt (dB false) []) (I8 E (Jm C { tm:=[(0,dS s),(1,dF 124 [] []),(7,dI B),(8,dI E)],ob:=[] }))))) (Rt (dB true) []):Tr):=by intro A B C E;kernel_rfl
theorem Z5n (s:LU) (i:Int):let A:=(↑(UInt8.toNat (List.getD s (Int.toNat i) (0:UInt8))):Int);let B:=(↑(List.length s):Int);let C:=cut sc76 0;let E:=(i+(1:Int));gH (ctr libT bytQ) 0 false rs76 C (Zcm 77 s i)=(brT (decide (i<B)) (Ow ((0:Int)<=i/\i<B) (Ow ((0:Int)<=A/\A<(256:Int)) (brT (!tb ZT A) (Rt (dB false) []) (I8 E (Jm C { tm:=[(0,dS s),(1,dF 77 [] []),(7,dI B),(8,dI E)],ob:=[] }))))) (Rt (dB true) []):Tr):=by intro A B C E;kernel_rfl
theorem Z7z {p:UInt8->Bool} {s:LU} {i:Nat} (h:i<s.length):(s.drop i).all p=(p (s.getD i 0) && (s.drop (i+1)).all p):=by
 rw[List.drop_eq_getElem_cons h,List.all_cons,List.getD_eq_getElem?_getD,List.getElem?_eq_getElem h]; rfl
theorem ZgX (s:LU) (hl:s.length<=4611686018427387904): ∀ (m i:Nat),s.length-i=m->i<=s.length →
  At Tryz.prog 0 (cut sc76 0) (Zcm 124 s i) (FinQ false 0 rs76 fun r ob=>r= .bool ((s.drop i).all Qn)/\ob=[]):=by
 intro m
 induction m with
 | zero =>
  intro i hm hi
  refine At.tree (Z8 Z3 Z1x) (Z5o s i) ?_
  rw[List.drop_eq_nil_of_le (by omega)]
  simp only[SS]
  exact⟨fun h=>by omega,fun _=>rfl⟩
 | succ m ih =>
  intro i hm hi
  refine At.tree (Z8 Z3 Z1x) (Z5o s i) ?_
  rw[Z7z (by omega)]
  simp only[SS,Z6P]
  refine⟨fun _=>⟨by omega,Z6l _ _,fun h=>by simp only[h,Bool.false_and],fun h=>⟨by omega, ?_⟩⟩,fun h=>by omega⟩
  rw[h,Bool.true_and]
  exact ih (i+1) (by omega) (by omega)
theorem ZgW (s:LU) (hl:s.length<=4611686018427387904): ∀ (m i:Nat),s.length-i=m->i<=s.length →
  At Tryz.prog 0 (cut sc76 0) (Zcm 77 s i) (FinQ false 0 rs76 fun r ob=>r= .bool ((s.drop i).all ZT)/\ob=[]):=by
 intro m
 induction m with
 | zero =>
  intro i hm hi
  refine At.tree (Z8 Z3 Z1x) (Z5n s i) ?_
  rw[List.drop_eq_nil_of_le (by omega)]
  simp only[SS]
  exact⟨fun h=>by omega,fun _=>rfl⟩
 | succ m ih =>
  intro i hm hi
  refine At.tree (Z8 Z3 Z1x) (Z5n s i) ?_
  rw[Z7z (by omega)]
  simp only[SS,Z6P]
  refine⟨fun _=>⟨by omega,Z6l _ _,fun h=>by simp only[h,Bool.false_and],fun h=>⟨by omega, ?_⟩⟩,fun h=>by omega⟩
  rw[h,Bool.true_and]
  exact ih (i+1) (by omega) (by omega)
def allQ:QT:=fun d xs ob=>match d,xs,ob with
 | .func (.func f) [] [],[.str s,.func (.func g) [] []],[]=>if f=76 then (if g=124 then some (.ok (s.length<=4611686018427387904) (.bool (s.all Qn)) [])
   else if g=77 then some (.ok (s.length<=4611686018427387904) (.bool (s.all ZT)) []) else none) else none
 | _,_,_=>none
theorem Zb2:allQ.OK:=by
 intro d xs ob rt h
 unfold allQ at h
 split at h
 ·rename_i f s g
  split at h
  ·rename_i hf
   subst hf
   split at h
   ·rename_i hg
    subst hg
    cases h
    exact fun hl=>CallL.tree Z7 fp76 (Z8 Z3 Z1x) (Zdr s) (ZgX s hl _ 0 rfl (Nat.zero_le _))
   split at h
   ·rename_i hg
    subst hg
    cases h
    exact fun hl=>CallL.tree Z7 fp76 (Z8 Z3 Z1x) (Zdq s) (ZgW s hl _ 0 rfl (Nat.zero_le _))
   ·cases h
  ·cases h
 ·cases h
end Go.Proofs.YtecgehidegnmnaaGreatDoor
/- Symbol and Variable. -/
namespace Go.Proofs.YtecgehidegnmnaaGreatDoor
open Go.Sx
theorem ZcT (s t:LU):let A:=(↑(List.length t):Int);let B:=(↑(List.length s):Int);gP (ctr libT) Zfv ZeI [dS s,dS t]=(brT (decide (A<=B)) (Ow ((0:Int)<=(0:Int)/\(0:Int)<=A/\A<=B) (Rt (dB (decide (List.drop 0 (List.take (Int.toNat A) s)=t))) [])) (Rt (dB false) []):Tr):=by intro A B;kernel_rfl
theorem Zgu (s t:LU):FK 171 [.str s,.str t] (.bool (t.isPrefixOf s)):=by
 refine FnOK.tree Z7 ZiZ (Z8 Z3 Z5) (ZcT s t) ?_
 simp only[SS,Int.ofNat_le]
 refine⟨fun h=>⟨by omega, ?_⟩,fun h=> ?_⟩
 ·rw[Bool.eq_iff_iff,decide_eq_true_eq,List.isPrefixOf_iff_prefix,List.prefix_iff_eq_take]
  exact eq_comm
 ·rw[eq_comm,<- Bool.not_eq_true,List.isPrefixOf_iff_prefix]
  exact fun hp=>h hp.length_le
theorem Zh6 (s:LU) (c:Int):gP (ctr libT) Z9u Z80 [dS s,dU c]=(Jm (cut Z80 0) { tm:=[(0,dS s),(1,dU c)],ob:=[] }:Tr):=by kernel_rfl
def Zgr (s:LU) (c:Int):St:=⟨[(0,.str s),(1,.int .u8 c)],[]⟩
theorem Z7C (s:LU) (c:Int):let A:=(↑(List.length s):Int);let B:=Rt (dS s) [];let C:=cut Z80 0;gH (ctr libT) 0 true Z9u C (Zgr s c)=(brT (decide ((0:Int)<A)) (Ow ((0:Int)<=(0:Int)/\(0:Int)<A) (brT (decide ((↑(UInt8.toNat (List.getD s 0 (0:UInt8))):Int)=c)) (Ow ((0:Int)<=(1:Int)/\(1:Int)<=A/\A<=A) (Jm C { tm:=[(0,dS (List.drop 1 (List.take (Int.toNat A) s))),(1,dU c)],ob:=[] })) B)) B:Tr):=by intro A B C;kernel_rfl
theorem ZdK (c:UInt8): ∀ (s:LU),At Tryz.prog 0 (cut Z80 0) (Zgr s c.toNat) (FinQ true 0 Z9u fun r _=>r= .str (s.dropWhile (· == c)))
 | []=>by
  refine At.tree (Z8 Z3 Z5) (Z7C [] c.toNat) ?_
  simp[Z07,Qh,Q3]
 | b::r=>by
  refine At.tree (Z8 Z3 Z5) (Z7C (b::r) c.toNat) ?_
  simp only[SS,List.length_cons,List.getD_cons_zero]
  refine⟨fun _=>⟨by omega,fun h=>⟨by omega, ?_⟩,fun h=> ?_⟩,fun h=>by omega⟩
  ·have hb:b=c:=UInt8.toNat_inj.1 (by omega)
   have:=ZdK c r
   simp only[List.dropWhile_cons,hb,beq_self_eq_true,if_true]
   simpa [Int.toNat_natCast,Zgr] using this
  ·have hb:b≠c:=fun h'=>h (by rw[h'])
   simp[List.dropWhile_cons,hb]
theorem ZhU (s:LU) (c:UInt8):FK 119 [.str s,.int .u8 c.toNat] (.str (s.dropWhile (· == c))) :=
 FnOK.tree Z7 Zjl (Z8 Z3 Z5) (Zh6 s c.toNat) (ZdK c s)
def strP:PT:=fun f xs=>if f=119 then match xs with
  | [.str s,.int .u8 c]=>some (.ok (0<=c/\c<256) (.str (s.dropWhile (· == UInt8.ofNat c.toNat))) [])
  | _=>none
 else if f=171 then match xs with
  | [.str s,.str t]=>some (.ok True (.bool (t.isPrefixOf s)) [])
  | _=>none
 else none
theorem Z5G:strP.OK:=by
 intro f xs rt h
 unfold strP at h
 split at h
 ·rename_i hf; subst hf
  split at h
  ·rename_i s c
   cases h
   intro hc
   have:=ZhU s (UInt8.ofNat c.toNat)
   rwa [show ((UInt8.ofNat c.toNat).toNat:Int)=c by rw[UInt8.toNat_ofNat_of_lt' (by show _<256; omega)]; omega] at this
  ·cases h
 split at h
 ·rename_i hf; subst hf
  split at h
  ·cases h; exact fun _=>Zgu _ _
  ·cases h
 ·cases h
theorem Zbd (s:LU):gP (ctr strP) rs75 sc75 [dS s,dS [95]]=(brT (decide (s=[])) (Rt (dS s) []) (Ow ((0:Int)<=(0:Int)/\(0:Int)<(1:Int)) (Ow ((0:Int)<=(0:Int)/\(0:Int)<(1:Int)) (Ow ((0:Int)<=(95:Int)/\(95:Int)<(256:Int)) (Rt (dS (List.dropWhile (fun x=>x == UInt8.ofNat 95) s)) [])))):Tr):=by kernel_rfl
theorem ZbI (s:LU):FK 75 [.str s,.str [95]] (.str (s.dropWhile QN)):=by
 refine FnOK.tree Z7 fp75 (Z8 Z5G Z5) (Zbd s) ?_
 simp only[SS]
 refine⟨fun h=>by rw[h]; rfl,fun h=>⟨by decide,by decide,by decide,rfl⟩⟩
theorem ZcU (s t:LU):let A:=(↑(List.length s):Int);let B:=(↑(List.length t):Int);gP (ctr strP) ZfA ZeN [dS s,dS t]=(Ow True (brT (!List.isPrefixOf t s) (Rt (D.tuple [dS s,dB false]) []) (Ow ((0:Int)<=B/\B<=A/\A<=A) (Rt (D.tuple [dS (List.drop (Int.toNat B) (List.take (Int.toNat A) s)),dB true]) []))):Tr):=by intro A B;kernel_rfl
theorem ZgL (s t:LU):FK 157 [.str s,.str t] (if t.isPrefixOf s=true then .tuple [.str (s.drop t.length),.bool true] else .tuple [.str s,.bool false]):=by
 refine FnOK.tree Z7 Zj5 (Z8 Z5G Z5) (ZcU s t) ?_
 simp only[SS]
 refine⟨fun h=>by rw[if_neg (by simp[h])],fun h=> ?_⟩
 have hl:=(List.isPrefixOf_iff_prefix.1 h).length_le
 rw[if_pos h]
 exact⟨by omega,rfl⟩
def ZaH:PT:=fun f xs=>if f=157 then match xs with
  | [.str s,.str t]=>some (.br (t.isPrefixOf s) (.ok True (.tuple [.str (s.drop t.length),.bool true]) []) (.ok True (.tuple [.str s,.bool false]) []))
  | _=>none
 else if f=75 then match xs with
  | [.str s,.str [95]]=>some (.ok True (.str (s.dropWhile QN)) [])
  | _=>none
 else none
theorem Z4B:ZaH.OK:=by
 intro f xs rt h
 unfold ZaH at h
 split at h
 ·rename_i hf; subst hf
  split at h
  ·rename_i s t
   cases h
   have:=ZgL s t
   cases hp:t.isPrefixOf s <;> (rw[hp] at this; exact fun _=>this)
  ·cases h
 split at h
 ·rename_i hf; subst hf
  split at h
  ·cases h; exact fun _=>ZbI _
  ·cases h
 ·cases h
theorem Zbb (s t:LU):gP (ctr ZaH) ZfN Zf0 [dS s,dS t]=(brT (List.isPrefixOf t s) (Ow True (Rt (D.tuple [dS (List.drop (List.length t) s),dB true]) [])) (Ow True (Rt (D.tuple [dS s,dB false]) [])):Tr):=by kernel_rfl
theorem ZcA (s t:LU):FK 128 [.str s,.str t] (if t.isPrefixOf s=true then .tuple [.str (s.drop t.length),.bool true] else .tuple [.str s,.bool false]):=by
 refine FnOK.tree Z7 Zjk (Z8 Z4B Z5) (Zbb s t) ?_
 simp only[SS]
 exact⟨fun h=>by rw[if_pos h],fun h=>by rw[if_neg (by simp[h])]⟩
def wqQ:QT:=bytQ.or allQ
theorem Zdt:wqQ.OK:=QT.or_ok Z1x Zb2
noncomputable def Zea (s:LU):Tr:=Ow True (brT (!decide (List.dropWhile QN s=[])) (Ow ((0:Int)<=(0:Int)/\(0:Int)<(↑(List.length (List.dropWhile QN s)):Int)) (Ow ((0:Int)<=(↑(UInt8.toNat (List.getD (List.dropWhile QN s) 0 (0:UInt8))):Int)/\(↑(UInt8.toNat (List.getD (List.dropWhile QN s) 0 (0:UInt8))):Int)<(256:Int)) (brT (tb Z1N (↑(UInt8.toNat (List.getD (List.dropWhile QN s) 0 (0:UInt8))):Int)) (Ow (List.length (List.dropWhile QN s)<=4611686018427387904) (brT (List.all (List.dropWhile QN s) ZT) (Rt (dB (decide ((↑(List.length s):Int)<=(32:Int)))) []) (Rt (dB false) []))) (Rt (dB false) [])))) (Rt (dB false) []))
theorem Zbt (s:LU):gC (ctr ZaH wqQ) 0 rs41 sc41 [] [dS s,dF 42 [] []] [] []=Zea s:=by kernel_rfl
noncomputable def Ze9 (s:LU):Tr:=Ow True (brT (!decide (List.dropWhile QN s=[])) (Ow ((0:Int)<=(0:Int)/\(0:Int)<(↑(List.length (List.dropWhile QN s)):Int)) (Ow ((0:Int)<=(↑(UInt8.toNat (List.getD (List.dropWhile QN s) 0 (0:UInt8))):Int)/\(↑(UInt8.toNat (List.getD (List.dropWhile QN s) 0 (0:UInt8))):Int)<(256:Int)) (brT (tb Z65 (↑(UInt8.toNat (List.getD (List.dropWhile QN s) 0 (0:UInt8))):Int)) (Ow (List.length (List.dropWhile QN s)<=4611686018427387904) (brT (List.all (List.dropWhile QN s) ZT) (Rt (dB (decide ((↑(List.length s):Int)<=(32:Int)))) []) (Rt (dB false) []))) (Rt (dB false) [])))) (Rt (dB false) []))
theorem Zbs (s:LU):gC (ctr ZaH wqQ) 0 rs41 sc41 [] [dS s,dF 123 [] []] [] []=Ze9 s:=by kernel_rfl
theorem Zaz {p:UInt8->Bool} {s:LU} (h: ¬ s.dropWhile p=[]): ∃ b r,s.dropWhile p=b::r:=by
 cases hd:s.dropWhile p with
 | nil=>exact (h hd).elim
 | cons b r=>exact⟨b,r,rfl⟩
theorem Zby (s:LU) (hl:s.length<=4611686018427387904):CF 41 [.str s,.func (.func 42) [] []] [] fun r ob=>r= .bool (Z1o Z1N s)/\ob=[]:=by
 refine CallL.tree Z7 fp41 (Z8 Z4B Zdt) (Zbt s) ?_
 unfold Zea Z1o
 simp only[SS]
 refine⟨fun h=> ?_,fun h=>by rw[h]⟩
 obtain⟨b,r,hd⟩:=Zaz h
 have h1:=(List.dropWhile_sublist (l:=s) QN).length_le
 rw[hd] at h1 ⊢
 simp only[List.length_cons,List.getD_cons_zero,Z6P]
 rw[List.length_cons] at h1
 exact⟨by omega,⟨by omega,by have:=b.toNat_lt; omega⟩,fun h2=>⟨by omega,fun h3=>by simp only[h2,h3,Bool.true_and,Int.ofNat_le,show (32:Int)=((32:Nat):Int) from rfl],fun h3=>by simp only[h3,Bool.and_false,Bool.false_and]⟩,fun h2=>by simp only[h2,Bool.false_and]⟩
theorem Zbw (s:LU) (hl:s.length<=4611686018427387904):CF 41 [.str s,.func (.func 123) [] []] [] fun r ob=>r= .bool (Z1o Z65 s)/\ob=[]:=by
 refine CallL.tree Z7 fp41 (Z8 Z4B Zdt) (Zbs s) ?_
 unfold Ze9 Z1o
 simp only[SS]
 refine⟨fun h=> ?_,fun h=>by rw[h]⟩
 obtain⟨b,r,hd⟩:=Zaz h
 have h1:=(List.dropWhile_sublist (l:=s) QN).length_le
 rw[hd] at h1 ⊢
 simp only[List.length_cons,List.getD_cons_zero,Z6P]
 rw[List.length_cons] at h1
 exact⟨by omega,⟨by omega,by have:=b.toNat_lt; omega⟩,fun h2=>⟨by omega,fun h3=>by simp only[h2,h3,Bool.true_and,Int.ofNat_le,show (32:Int)=((32:Nat):Int) from rfl],fun h3=>by simp only[h3,Bool.and_false,Bool.false_and]⟩,fun h2=>by simp only[h2,Bool.false_and]⟩
def Zej:QT:=fun d xs ob=>match d,xs,ob with
 | .func (.func f) [] [],[.str s,.func (.func g) [] []],[]=>if f=41 then (if g=42 then some (.ok (s.length<=4611686018427387904) (.bool (Z1o Z1N s)) [])
   else if g=123 then some (.ok (s.length<=4611686018427387904) (.bool (Z1o Z65 s)) []) else none) else none
 | _,_,_=>none
theorem Zbx:Zej.OK:=by
 intro d xs ob rt h
 unfold Zej at h
 split at h
 ·split at h
  ·rename_i hf
   subst hf
   split at h
   ·rename_i hg; subst hg; cases h; exact fun hl=>Zby _ hl
   split at h
   ·rename_i hg; subst hg; cases h; exact fun hl=>Zbw _ hl
   ·cases h
  ·cases h
 ·cases h
def ZgM:PT:=fun f xs=>if f=128 then match xs with
  | [.str s,.str t]=>some (.br (t.isPrefixOf s) (.ok True (.tuple [.str (s.drop t.length),.bool true]) []) (.ok True (.tuple [.str s,.bool false]) []))
  | _=>none
 else none
theorem ZcB:ZgM.OK:=by
 intro f xs rt h
 unfold ZgM at h
 split at h
 ·rename_i hf; subst hf
  split at h
  ·rename_i s t
   cases h
   have:=ZcA s t
   cases hp:t.isPrefixOf s <;> (rw[hp] at this; exact fun _=>this)
  ·cases h
 ·cases h
def wq2:QT:=Zej.or allQ
theorem Zdu:wq2.OK:=QT.or_ok Zbx Zb2
noncomputable def PSym (s:LU):Tr:=Ow (List.length s<=4611686018427387904) (brT (Z1o Z1N s) (Rt (D.bool !decide (s=[(110:UInt8),(111:UInt8),(116:UInt8)])) []) (Rt (dB false) []))
theorem Zhc (s:LU):gP (ctr libT wq2) rs16 sc16 [dS s]=PSym s:=by kernel_rfl
noncomputable def PVar (s:LU):Tr:=brT (List.isPrefixOf [(95:UInt8)] s) (Ow True (Ow (List.length s<=4611686018427387904) (brT (Z1o Z65 s) (Rt (dB true) []) (Ow (List.length (List.drop 1 s)<=4611686018427387904) (brT (List.all (List.drop 1 s) Qn) (Rt (dB (decide ((↑(List.length s):Int)<=(32:Int)))) []) (Rt (dB false) [])))))) (Ow True (Ow (List.length s<=4611686018427387904) (brT (Z1o Z65 s) (Rt (dB true) []) (Rt (dB false) []))))
theorem Zha (s:LU):gP (ctr ZgM wq2) rs84 sc84 [dS s]=PVar s:=by kernel_rfl
theorem Z8X (s:LU) (hl:s.length<=4611686018427387904):FK 16 [.str s] (.bool (Qt s)):=by
 refine FnOK.tree Z7 fp16 (Z8 Z3 Zdu) (Zhc s) ?_
 unfold PSym Qt
 simp only[SS]
 refine⟨hl,fun h=> ?_,fun h=>by simp only[h,Bool.false_and]⟩
 simp only[h,Bool.true_and,Lx.ZD]
 exact (decide_not (p:=s=[110,111,116])).symm
theorem Z5u (s:LU) (hl:s.length<=4611686018427387904):FK 84 [.str s] (.bool (QF s)):=by
 refine FnOK.tree Z7 fp84 (Z8 ZcB Zdu) (Zha s) ?_
 unfold PVar QF
 simp only[SS]
 have hd:(s.drop 1).length<=s.length:=by simp
 have h0:List.isPrefixOf [95] s=true-> ∃ r,s=95::r:=fun h=>by
  obtain⟨t,ht⟩:=List.isPrefixOf_iff_prefix.1 h
  exact⟨t,ht.symm⟩
 have h0':List.isPrefixOf [95] s=false-> ∀ r,s≠95::r:=fun h r hr=>by rw[hr] at h; simp[List.isPrefixOf] at h
 refine⟨fun h=>⟨hl,fun hw=>by simp only[hw,Bool.true_or],fun hw=> ?_⟩,fun h=>⟨hl,fun hw=>by simp only[hw,Bool.true_or],fun hw=> ?_⟩⟩
 ·obtain⟨r,rfl⟩:=h0 h
  simp only[List.length_cons,List.length_nil,List.drop_succ_cons,List.drop_zero] at hd hl ⊢
  exact⟨by omega,fun ha=>by simp only[hw,ha,Bool.false_or,Bool.true_and,Int.ofNat_le,show (32:Int)=((32:Nat):Int) from rfl],fun ha=>by simp only[hw,ha,Bool.false_or,Bool.false_and]⟩
 ·simp only[hw,Bool.false_or]
  split
  ·rename_i r; exact absurd rfl (h0' h r)
  ·rfl
end Go.Proofs.YtecgehidegnmnaaGreatDoor
/- sign,and the directives. -/
namespace Go.Proofs.YtecgehidegnmnaaGreatDoor
open Go.Sx
theorem Zhn (es ext:LD) (t:LU):gP (ctr libT) Z9s Z7Y [dL es ext,dS t]=(Jm (cut Z7Y 0) { tm:=[(0,dL es ext),(1,dS t),(7,dI (↑(List.length es):Int)),(8,dI 0)],ob:=[] }:Tr):=by kernel_rfl
def Zgt (es ext:LD) (t:LU) (i:Int):St:=⟨[(0,.slice es ext),(1,.str t),(7,.int .i64 es.length),(8,.int .i64 i)],[]⟩
theorem Z7J (l:List (LU)) (ext:LD) (t:LU) (i:Int):let A:=(↑(List.length (strC l)):Int);let B:=cut Z7Y 0;let C:=Int.toNat i;let E:=(i+(1:Int));gH (ctr libT Z1j fun x n=>[dS (List.getD l (Int.toNat n) [])]) 0 true Z9s B (Zgt (strC l) ext t i)=(brT (decide (i<A)) (Ow ((0:Int)<=i/\(strC l)[Int.toNat i]? = some [dS (List.getD l C [])]) (brT (decide (t=List.getD l C [])) (Rt (dI i) []) (I8 E (Jm B { tm:=[(0,dL (strC l) ext),(1,dS t),(7,dI A),(8,dI E)],ob:=[] })))) (Rt (dI (-1:Int)) []):Tr):=by intro A B C E;kernel_rfl
theorem ZiN (l:List (LU)) (ext:LD) (t:LU) (hl:l.length<=4611686018427387904): ∀ (m i:Nat),l.length-i=m->i<=l.length →
  At Tryz.prog 0 (cut Z7Y 0) (Zgt (strC l) ext t i) (FinQ true 0 Z9s fun r _=>r= .int .i64 (idxS t (l.drop i) i)):=by
 intro m
 induction m with
 | zero =>
  intro i hm hi
  refine At.tree (Z8 Z3 Z5) (Z7J l ext t i) ?_
  rw[List.drop_eq_nil_of_le (by omega)]
  simp only[SS,Z1B]
  exact⟨fun h=>by omega,fun _=>rfl⟩
 | succ m ih =>
  intro i hm hi
  refine At.tree (Z8 Z3 Z5) (Z7J l ext t i) ?_
  rw[Z14 (d:=[]) (by omega)]
  simp only[SS,Z1B,idxS]
  refine⟨fun _=>⟨⟨by omega,Z6R (by omega)⟩,fun h=>by rw[if_pos h],fun h=>⟨by omega, ?_⟩⟩,fun h=>by omega⟩
  rw[if_neg h]
  have:=ih (i+1) (by omega) (by omega)
  simp only[Zgt,Z1B] at this
  exact this
def idxP:PT:=fun f xs=>if f=142 then (match xs with
  | [.slice es _,.str t]=>some (.ok (es=strC (es.map deS)/\es.length<=4611686018427387904) (.int .i64 (idxS t (es.map deS) 0)) [])
  | _=>none)
 else if f=171 then strP f xs else none
theorem Z68:idxP.OK:=by
 intro f xs rt h
 unfold idxP at h
 split at h
 ·rename_i hf; subst hf
  split at h
  ·rename_i es ext t
   cases h
   rintro⟨he,hl⟩
   have:=FnOK.tree Z7 Zjd (Z8 Z3 Z5) (Zhn (strC (es.map deS)) ext t) (ZiN (es.map deS) ext t (by simpa using hl) _ 0 rfl (Nat.zero_le _))
   rwa [<- he] at this
  ·cases h
 split at h
 ·exact Z5G _ _ _ h
 ·cases h
theorem Z9X (l:List (LU)):(strC l).map deS=l:=by
 unfold strC
 rw[List.map_map]
 exact List.map_id'' (fun _=>rfl) l
theorem Zhr (es ext:LD) (t:LU):let A:=List.map deS es;gP (ctr idxP) ZfU Zf7 [dL es ext,dS t]=(Ow (es=strC A/\List.length es<=4611686018427387904) (Rt (dB (decide ((0:Int)<=idxS t A (0:Int)))) []):Tr):=by intro A;kernel_rfl
theorem Ze1 (l:List (LU)) (ext:LD) (t:LU) (hl:l.length<=4611686018427387904):FK 107 [.slice (strC l) ext,.str t] (.bool (decide (t∈l))):=by
 refine FnOK.tree Z7 Zjv (Z8 Z68 Z5) (Zhr _ ext t) ?_
 simp only[SS,Z9X,Z1B]
 exact⟨hl,decide_eq_decide.2 (Z7k t l 0 (by omega))⟩
theorem Zba (s t:LU):gP (ctr idxP) ZfH ZeU [dS s,dS t]=(Ow True (Rt (dB (List.isPrefixOf t s)) []):Tr):=by kernel_rfl
theorem Zcn (s t:LU):FK 144 [.str s,.str t] (.bool (t.isPrefixOf s)) :=
 FnOK.tree Z7 Zjc (Z8 Z68 Z5) (Zba s t) ⟨trivial,rfl⟩
set_option maxRecDepth 100000 in
theorem Z97:fnE tab (go Tryz.prog tab 400) 143 []=some (.slice (strC Z2k) []):=by kernel_rfl
def sgnP:PT:=fun f xs=>if f=143 then (match xs with
  | []=>some (.ok True (.slice (strC Z2k) []) [])
  | _=>none)
 else if f=144 then (match xs with
  | [.str s,.str t]=>some (.ok True (.bool (t.isPrefixOf s)) [])
  | _=>none)
 else none
theorem Z5K:sgnP.OK:=by
 intro f xs rt h
 unfold sgnP at h
 split at h
 ·rename_i hf; subst hf
  split at h
  ·cases h; exact fun _=>Zak Z7 Z8W _ Z97
  ·cases h
 split at h
 ·rename_i hf; subst hf
  split at h
  ·cases h; exact fun _=>Zcn _ _
  ·cases h
 ·cases h
theorem Zkp (src:LU) (a:Int):let A:=[(0,oC [dS src,dI a])];gC (ctr sgnP) 1 Z9x Z83 [] [dP 0 0] [] A=(Ow True (Jm (cut Z83 0) { tm:=[(0,dP 0 0),(5,dL [[dS [58,45]],[dS [58,126]],[dS [58]],[dS [46,46]],[dS [46]],[dS [44]],[dS [59]],[dS [124]],[dS [40]],[dS [41]],[dS [123]],[dS [125]],[dS [91]],[dS [93]],[dS [61]],[dS [33,61]],[dS [60,61]],[dS [62,61]],[dS [60]],[dS [62]],[dS [43]],[dS [45]],[dS [42]],[dS [47]],[dS [92]],[dS [64]]] []),(6,dI 26),(7,dI 0)],ob:=A }):Tr):=by intro A;kernel_rfl
def hdSg (src:LU) (l:List (LU)) (a i:Int):St:=⟨[(0,.ptr 0 0),(5,.slice (strC l) []),(6,.int .i64 l.length),(7,.int .i64 i)],[(0,.cells [.str src,.int .i64 a])]⟩
theorem Zbu (src:LU) (l:List (LU)) (a i:Int):let A:=List.getD l (Int.toNat i) [];let B:=(↑(List.length src):Int);let C:=(↑(List.length A):Int);let E:=(↑(List.length l):Int);let F:=[(0,oC [dS src,dI a])];let G:=cut Z83 0;let H:=(i+(1:Int));gH (ctr sgnP Z1j fun x n=>[dS (List.getD l (Int.toNat n) [])]) 1 false Z9x G (hdSg src l a i)=(brT (decide (i<E)) (Ow ((0:Int)<=i/\(strC l)[Int.toNat i]? = some [dS A]) (Ow ((0:Int)<=a/\a<=B/\B<=B) (Ow True (brT (List.isPrefixOf A (List.drop (Int.toNat a) (List.take (Int.toNat B) src))) (Ow ((-9223372036854775808:Int)<=a+C/\a+C<=(9223372036854775807:Int)) (Rt (dS A) [(0,oC [dS src,dI (a+C)])])) (I8 H (Jm G { tm:=[(0,dP 0 0),(5,dL (strC l) []),(6,dI E),(7,dI H)],ob:=F })))))) (Rt (dS []) F):Tr):=by intro A B C E F G H;kernel_rfl
def sgF (l:List (LU)) (s:LU):LU:=(l.find? (·.isPrefixOf s)).getD []
theorem ZeD (src:LU) (l:List (LU)) (a:Nat) (ha:a<=src.length) (hl:src.length<=4611686018427387904) (hk:l.length<=1000) (hll: ∀ t∈l,t.length<=100): ∀ (m i:Nat),l.length-i=m->i<=l.length →
  At Tryz.prog 1 (cut Z83 0) (hdSg src l a i) (FinQ false 1 Z9x fun r ob=>r= .str (sgF (l.drop i) (src.drop a))/\ob=[(0,.cells [.str src,.int .i64 ((a+(sgF (l.drop i) (src.drop a)).length:Nat):Int)])]):=by
 intro m
 induction m with
 | zero =>
  intro i hm hi
  refine At.tree (Z8 Z5K Z5) (Zbu src l a i) ?_
  rw[List.drop_eq_nil_of_le (by omega)]
  simp only[SS,sgF,List.find?_nil,Option.getD_none,List.length_nil,Nat.add_zero]
  exact⟨fun h=>by omega,fun _=>trivial⟩
 | succ m ih =>
  intro i hm hi
  refine At.tree (Z8 Z5K Z5) (Zbu src l a i) ?_
  rw[Z14 (d:=[]) (by omega)]
  have hb:(l.getD i []).length<=100:=hll _ (by
   rw[List.getD_eq_getElem?_getD,List.getElem?_eq_getElem (by omega)]
   exact List.getElem_mem _)
  simp only[SS]
  refine⟨fun _=>⟨⟨by omega,Z6R (by omega)⟩,by omega,fun h=> ?_,fun h=>⟨by omega, ?_⟩⟩,fun h=>by omega⟩
  ·have e:sgF (l.getD i []::l.drop (i+1)) (src.drop a)=l.getD i []:=by simp only[sgF,List.find?_cons,h,Option.getD_some]
   rw[e]
   exact⟨by omega,rfl,rfl⟩
  ·have e:sgF (l.getD i []::l.drop (i+1)) (src.drop a)=sgF (l.drop (i+1)) (src.drop a):=by simp only[sgF,List.find?_cons,h]
   rw[e]
   exact ih (i+1) (by omega) (by omega)
theorem ZeC (src:LU) (a:Nat) (ha:a<=src.length) (hl:src.length<=4611686018427387904):CF 108 [.ptr 0 0] [(0,.cells [.str src,.int .i64 a])]
  fun r ob=>r= .str (Q2 (src.drop a))/\ob=[(0,.cells [.str src,.int .i64 ((a+(Q2 (src.drop a)).length:Nat):Int)])] :=
 CallL.tree Z7 Zju (Z8 Z5K Z5) (Zkp src a) ⟨trivial,ZeD src Z2k a ha hl (by decide) (by decide) _ 0 rfl (Nat.zero_le _)⟩
end Go.Proofs.YtecgehidegnmnaaGreatDoor
/- The class of a byte; the tests for the bytes of some classes. -/
namespace Go.Proofs.YtecgehidegnmnaaGreatDoor
open Go.Sx
def cls (b:Nat):Int :=
 if 97<=b/\b<=122\/65<=b/\b<=90 then 1 else if 48<=b/\b<=57 then 2 else if b=95 then 4 else if b=32\/b=9\/b=10\/b=13 then 8 else if b=35 then 16 else 0
noncomputable def clsB (b:Nat):Bool:=match fnE tab (go Tryz.prog tab 400) 104 [.int .u8 (b:Int)] with
 | some (.int .i64 m)=>m == cls b
 | _=>false
set_option maxRecDepth 100000
theorem ZgN:(List.range 256).all clsB=true:=by kernel_rfl
theorem ZcE (b:Nat) (hb:b<256):FK 104 [.int .u8 (b:Int)] (.int .i64 (cls b)):=by
 have h:=List.all_eq_true.1 ZgN b (List.mem_range.2 hb)
 unfold clsB at h
 split at h
 ·rename_i m hm
  rw[<- eq_of_beq h]
  exact Zak Z7 Z8W _ hm
 ·cases h
def clsP:PT:=fun f xs=>if f=104 then match xs with
  | [.int .u8 b]=>some (.ok (0<=b/\b<256) (.int .i64 (cls b.toNat)) [])
  | _=>none
 else none
theorem QP:clsP.OK:=by
 intro f xs rt h
 unfold clsP at h
 split at h
 ·rename_i hf; subst hf
  split at h
  ·rename_i b
   cases h
   rintro⟨h0,h1⟩
   have:=ZcE b.toNat (by omega)
   rwa [Int.toNat_of_nonneg h0] at this
  ·cases h
 ·cases h
end Go.Proofs.YtecgehidegnmnaaGreatDoor
