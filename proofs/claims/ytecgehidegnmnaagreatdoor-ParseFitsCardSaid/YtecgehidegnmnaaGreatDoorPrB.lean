/- Own work: a layer over the kit: plain data,a walk over it,its soundness. -/
import Derived.Test.YtecgehidegnmnaaGreatDoorPrA
import Derived.Test.YtecgehidegnmnaaGreatDoorClass
import Derived.Test.YtecgehidegnmnaaGreatDoorLibT
import Derived.Test.YtecgehidegnmnaaGreatDoorSx8
set_option linter.all false
set_option maxRecDepth 100000
/- The parser: what it sees and takes. -/
open Go.Sx.Ps (Z1 Zg PR Z0 Zv Z1J Ze Zc cmpL Z13)
namespace Go.Proofs.YtecgehidegnmnaaGreatDoor
open Go.Sx
open Go.Sx.Lx (Tk Zo)
def psQ (r:D) (o':Obs):QT:=λd ys ob=>some (.ok (CallL Tryz.prog d ys ob λr0 ob0=>r0=r/\ob0=o') r o')
theorem Zh (r:D) (o':Obs):(psQ r o').OK:=by intro d ys ob rt h;cases h;exactλhp=>hp
def psB (b:Bool) (r:D) (o':Obs) (v:Value):QT:=λd ys ob=>some (.br b (.ok (CallL Tryz.prog d ys ob λr0 ob0=>r0=r/\ob0=o') r o') (.ok (CallL Tryz.prog d ys ob λr0 ob0=>r0=.pan v/\ob0=[]) (.pan v) []))
theorem Z2 (b:Bool) (r:D) (o':Obs) (v:Value):(psB b r o' v).OK:=by
 intro d ys ob rt h;cases h;cases b
 ·exactλhp=>hp
 ·exactλhp=>hp
def conP:PT:=λf xs=>if f=107 then (match xs with
  |[.slice es _,.str t]=>some (.ok (es=strC (es.map deS)/\es.length<=4611686018427387904) (.bool (decide (t∈es.map deS))) [])
  |_=>none) else none
theorem Zah:conP.OK:=by
 intro f xs rt h;unfold conP at h;split at h
 ·rename_i hf;subst hf;split at h
  ·rename_i es ext t;cases h;rintro⟨a,hl⟩
   have:=Zdu (es.map deS) ext t (by simpa using hl);rwa [<- a] at this
  ·cases h
 ·cases h
theorem Zcw (ts:List Tk) (i k o:Int) (s:LU) (es ext:LD) (so:Bool) (r1 r2 r3:LD):let A:=psO ts i so r1 r2 r3;let B:=dA [dU k,dS s,dI o];gC (ctr conP (psQ B A)) 10 rs63 sc63 [] [dP 0 0,dL es ext] [] A=(Ow (CQ 58 [dP 0 0] A B A) (brT (decide ((4:Int)<=k)) (Ow (es=strC (List.map deS es)/\List.length es<=4611686018427387904) (Rt (dB (decide (s∈List.map deS es))) A)) (Rt (dB false) A)):Tr):=by intro A B;kernel_rfl
theorem Z1H (p:PS) (i:Nat) (l:List (LU)) (ext:LD) (hl:l.length<=1000):CF 63 [.ptr 0 0,.slice (strC l) ext] (p.o i) λr ob=>r=.bool (Z1 p.ts i l)/\ob=p.o i:=by
 refine CallL.tree Z5 fp63 (Z9 Zah (Zh _ _)) (Zcw p.ts i (Zg p.ts i).1 (Zg p.ts i).2.2 (Zg p.ts i).2.1 (strC l) ext p.so p.r1 p.r2 p.r3) ?_;simp only[SS,Z9s,Z1z];refine⟨Z3l p i,λh=>⟨by omega,?_,rfl⟩,λh=>⟨?_,rfl⟩⟩
 ·have a:4<=(Zg p.ts i).1:=by omega
  simp[Z1,a]
 ·have a: ¬ 4<=(Zg p.ts i).1:=by omega
  simp[Z1,a]
theorem ZaM (ts:List Tk) (i:Int) (es ext:LD) (b so:Bool) (r1 r2 r3:LD):let A:=psO ts i so r1 r2 r3;let B:=[dP 0 0,dL es ext];let C:=(i+(1:Int));gC (ctr conP (psQ (dB b) A)) 10 rs66 sc66 [] B [] A=(Ow (CQ 63 B A (dB b) A) (brT b (I8 C (Rt (dB b) [(0,oC [dL (List.map Zo ts) [],dI C,dV 1,dV 2,dV 3,dB so]),(1,oR true 20 42 r1),(2,oR true 5 53 r2),(3,oR true 2 138 r3)])) (Rt (dB b) A)):Tr):=by intro A B C;kernel_rfl
theorem Z0m {ts:List Tk} {i:Nat} (h:(Zg ts i).1≠0):i<ts.length:=by
 apply Classical.byContradiction;intro a;apply h;simp only[Zg,List.getD_eq_getElem?_getD,List.getElem?_eq_none (by omega:ts.length<=i),Option.getD_none]
theorem Qd {ts:List Tk} {i:Nat} {l:List (LU)} (h:Z1 ts i l=true):i<ts.length:=by
 simp only[Z1,Bool.and_eq_true,decide_eq_true_eq] at h;exact Z0m (by omega)
theorem ZY (p:PS) (i:Nat) (l:List (LU)) (ext:LD) (hl:l.length<=1000):CF 66 [.ptr 0 0,.slice (strC l) ext] (p.o i) λr ob=>r=.bool (Z1 p.ts i l)/\ob=p.o (if Z1 p.ts i l=true then i+1 else i):=by
 refine CallL.tree Z5 fp66 (Z9 Zah (Zh _ _)) (ZaM p.ts i (strC l) ext (Z1 p.ts i l) p.so p.r1 p.r2 p.r3) ?_;have hp:=p.hl;simp only[SS];refine⟨Z1H p i l ext hl,λh=>⟨by have:=Qd h;omega,?_⟩,λh=>?_⟩
 ·rw[if_pos h];rfl
 ·rw[if_neg (by simp[h])];rfl
def PRes {α:Type} (p:PS) (enc:α->D) (x:PR α):D->Obs->Prop:=λr ob=>match x with
 |.ok a j=>r=enc a/\ob=p.o j
 |.bad a e=>r=.pan (fltV a e)/\ob=[]
theorem Z5q (n:Nat) (a:QT) {b:QT} (h1:a.OK) (h2:b.OK):(⟨λ_=>libT,λm=>if m=n then a else b,noE⟩:Ctr).OK Tryz.prog:=by
 refine⟨λ_=>Z3,λm=>?_⟩;show QT.OK (if m=n then a else b);split
 ·exact h1
 ·exact h2
theorem Z7c (ts:List Tk) (i j:Int) (t:LU) (b so:Bool) (v:Value) (r1 r2 r3:LD):let A:=psO ts j so r1 r2 r3;goT Tryz.prog {F:=λx=>libT,C:=λn=>if n=7 then psQ (dB b) A else psB false D.undef [] v,E:=noE} 10 (finF false 10 rs68) 2000 [Fr.sc sc68] {tm:=Zu 0 ([]++[dP 0 0,dS t]++[]),ob:=psO ts i so r1 r2 r3}=(Ow (CQ 66 [dP 0 0,dL [[dS t]] []] (psO ts i so r1 r2 r3) (dB b) A) (brT (!b) (Ow (CQ 54 [dP 0 0,dI 40] A (D.pan v) []) (Rt (D.pan v) [])) (Rt (D.tuple []) A)):Tr):=by intro A;kernel_rfl
theorem Qe (p:PS) (i:Nat) (t:LU):CF 68 [.ptr 0 0,.str t] (p.o i) (PRes p (λ_=>.tuple []) (Z0 p.ts t i)):=by
 have a:=ZY p i [t] [] (by simp);unfold Z0;cases h:Z1 p.ts i [t] with
 |true =>
  rw[h] at a;refine CallL.tree Z5 fp68 (Z5q _ _ (Zh _ _) (Z2 _ _ _ _)) (Z7c p.ts i ((i+1:Nat):Int) t true p.so Go.undef p.r1 p.r2 p.r3) ?_;simp only[SS,if_true];exact⟨a,nofun,⟨rfl,rfl⟩⟩
 |false =>
  rw[h] at a;refine CallL.tree Z5 fp68 (Z5q _ _ (Zh _ _) (Z2 _ _ _ _)) (Z7c p.ts i (i:Nat) t false p.so (fltV i 40) p.r1 p.r2 p.r3) ?_;simp only[SS,Bool.false_eq_true,if_false];exact⟨a,⟨QV p i 40,rfl,rfl⟩,λh=>h.elim⟩
theorem Zcy (ts:List Tk) (i k a o:Int) (s:LU) (so:Bool) (v:Value) (r1 r2 r3:LD):let A:=psO ts i so r1 r2 r3;let B:=dA [dU a,dS s,dI o];let G:=(i+(1:Int));goT Tryz.prog {F:=λx=>libT,C:=λn=>if n=7 then psQ B A else psB false D.undef [] v,E:=noE} 10 (finF false 10 rs97) 2000 [Fr.sc sc97] {tm:=Zu 0 ([]++[dP 0 0,dU k]++[]),ob:=psO ts i so r1 r2 r3}=(Ow (CQ 58 [dP 0 0] A B A) (brT (!decide (a=k)) (Ow (CQ 54 [dP 0 0,dI 40] A (D.pan v) []) (Rt (D.pan v) [])) (I8 G (Rt (dS s) [(0,oC [dL (List.map Zo ts) [],dI G,dV 1,dV 2,dV 3,dB so]),(1,oR true 20 42 r1),(2,oR true 5 53 r2),(3,oR true 2 138 r3)]))):Tr):=by intro A B G;kernel_rfl
theorem Z99 (p:PS) (i k:Nat) (a:k≠0):CF 97 [.ptr 0 0,.int .u8 k] (p.o i) (PRes p .str (Zv p.ts k i)):=by
 refine CallL.tree Z5 fp97 (Z5q _ _ (Zh _ _) (Z2 _ _ _ _)) (Zcy p.ts i k (Zg p.ts i).1 (Zg p.ts i).2.2 (Zg p.ts i).2.1 p.so (fltV i 40) p.r1 p.r2 p.r3) ?_;have hp:=p.hl;simp only[SS];refine⟨Z3l p i,λh=>⟨QV p i 40,?_⟩,λh=>?_⟩
 ·unfold Zv;rw[if_neg h];exact⟨rfl,rfl⟩
 ·have:=Z0m (ts:=p.ts) (i:=i) (by rw[h];omega);refine⟨by omega,?_⟩;unfold Zv;rw[if_pos h];exact⟨rfl,rfl⟩
theorem ZaP (ts:List Tk) (i j n:Int) (s:LU) (b so:Bool) (v:Value) (r1 r2 r3:LD):let A:=psO ts j so r1 r2 r3;let B:=psO ts i so r1 r2 r3;let C:=[dP 0 0,dU 3];gC (ctr libT (psB b (dS s) A v)) 10 rs98 sc98 [] [dP 0 0] [] B=(brT b (Ow (CQ 97 C B (dS s) A) (brT (match Lib.atoiAll s with|Lib.NumEnd.ok v=>true|x=>false) (Ow (List.length s<=281474976710656) (Rt (dI (match Lib.atoiAll s with|Lib.NumEnd.ok n=>n|x=>(0:Int))) A)) (Ow (List.length s<=281474976710656) (Rt (dI (match Lib.atoiAll s with|Lib.NumEnd.range=>Lib.atoiSat s|x=>(0:Int))) A)))) (Ow (CQ 97 C B (D.pan v) []) (Rt (D.pan v) [])):Tr):=by intro A B C;kernel_rfl
theorem ZbK (p:PS) {k:Int} {i j:Nat} {s:LU} (h:Zv p.ts k i=.ok s j):s.length<=1000000000:=by
 unfold Zv at h;split at h
 ·cases h;simp only[Zg,List.getD_eq_getElem?_getD];cases a:p.ts[i]? with
  |none=>simp
  |some t=>exact p.hs t (List.mem_of_getElem? a)
 ·cases h
theorem qNum (p:PS) (i:Nat):CF 98 [.ptr 0 0] (p.o i) (PRes p (.int .i64 ·) (Z1J p.ts i)):=by
 have b:=Z99 p i 3 (by decide);unfold Z1J;cases hx:Zv p.ts 3 i with
 |ok s j =>
  rw[show ((3:Nat):Int)=3 from rfl,hx] at b;refine CallL.tree Z5 fp98 (Z9 Z3 (Z2 _ _ _ _)) (ZaP p.ts i j 0 s true p.so Go.undef p.r1 p.r2 p.r3) ?_;have hs:=ZbK p hx;cases ha:Lib.atoiAll s<;>simp only[SS,PR.bind,Ps.Zl4,ha]<;>refine⟨⟨b,?_⟩,nofun⟩<;>first|exact⟨⟨by omega,rfl,rfl⟩,nofun⟩|exact⟨nofun,by omega,rfl,rfl⟩
 |bad a e =>
  rw[show ((3:Nat):Int)=3 from rfl,hx] at b;refine CallL.tree Z5 fp98 (Z9 Z3 (Z2 _ _ _ _)) (ZaP p.ts i 0 0 [] false p.so (fltV a e) p.r1 p.r2 p.r3) ?_;simp only[SS];exact⟨nofun,⟨b,rfl,rfl⟩⟩
end Go.Proofs.YtecgehidegnmnaaGreatDoor
/- The parser: more,comparisons. -/
namespace Go.Proofs.YtecgehidegnmnaaGreatDoor
open Go.Sx
open Go.Sx.Lx (Tk Zo)
noncomputable def ZjV (ts:List Tk) (i n:Int) (so:Bool) (v:Value) (r1 r2 r3:LD):Tr:=brT (decide ((400:Int)<=n)) (Ow (CQ 54 [dP 0 0,dI 5] (psO ts i so r1 r2 r3) (D.pan v) []) (Rt (D.pan v) [])) (Rt (D.tuple []) (psO ts i so r1 r2 r3))
theorem Zcz (ts:List Tk) (i n:Int) (so:Bool) (v:Value) (r1 r2 r3:LD):gC (ctr libT (psB false D.nils [] v)) 10 rs59 sc59 [] [dP 0 0,dI n] [] (psO ts i so r1 r2 r3)=ZjV ts i n so v r1 r2 r3:=by kernel_rfl
theorem Z9a (p:PS) (i n:Nat):CF 59 [.ptr 0 0,.int .i64 n] (p.o i) (PRes p (λ_=>.tuple []) (Ze n i)):=by
 refine CallL.tree Z5 fp59 (Z9 Z3 (Z2 _ _ _ _)) (Zcz p.ts i n p.so (fltV i 5) p.r1 p.r2 p.r3) ?_;unfold ZjV Ze;simp only[SS];refine⟨λh=>?_,λh=>?_⟩
 ·rw[if_pos (by omega)];exact⟨QV p i 5,rfl,rfl⟩
 ·rw[if_neg (by omega)];exact⟨rfl,rfl⟩
theorem ZcL:gP (ctr libT) ZeX Zed []=(Rt (D.own 1 9 [[dS [61]],[dS [33,61]],[dS [60]],[dS [60,61]],[dS [62]],[dS [62,61]]]) []:Tr):=by kernel_rfl
def Zcc:PT:=λf xs=>if f=167 then (match xs with
  |[]=>some (.ok True (.own 1 9 [[.str [61]],[.str [33,61]],[.str [60]],[.str [60,61]],[.str [62]],[.str [62,61]]]) [])
  |_=>none) else idxP f xs
theorem Z74:Zcc.OK:=by
 intro f xs rt h;unfold Zcc at h;split at h
 ·rename_i hf;subst hf;split at h
  ·cases h;exactλ_=>FnOK.tree Z5 ZiS (Z9 Z3 Z8) ZcL rfl
  ·cases h
 ·exact Z5Q _ _ _ h
theorem ZdW {c:PT} (hp:c.OK) (n:Nat) {a b:QT} (h1:a.OK) (h2:b.OK):(⟨λ_=>c,λm=>if m=n then a else b,noE⟩:Ctr).OK Tryz.prog:=by
 refine⟨λ_=>hp,λm=>?_⟩;show QT.OK (if m=n then a else b);split
 ·exact h1
 ·exact h2
noncomputable def Zka (ts:List Tk) (i k o:Int) (s:LU) (so:Bool) (v:Value) (r1 r2 r3:LD):Tr:=Ow True (Ow (CQ 58 [dP 0 0] (psO ts i so r1 r2 r3) (dA [dU k,dS s,dI o]) (psO ts i so r1 r2 r3)) (Ow ([[dS [61]],[dS [33,61]],[dS [60]],[dS [60,61]],[dS [62]],[dS [62,61]]]=[[dS [61]],[dS [33,61]],[dS [60]],[dS [60,61]],[dS [62]],[dS [62,61]]]/\6<=4611686018427387904) (brT (decide (idxS s [[(61:UInt8)],[(33:UInt8),(61:UInt8)],[(60:UInt8)],[(60:UInt8),(61:UInt8)],[(62:UInt8)],[(62:UInt8),(61:UInt8)]] (0:Int)<(0:Int))) (Ow (CQ 54 [dP 0 0,dI 40] (psO ts i so r1 r2 r3) (D.pan v) []) (Rt (D.pan v) [])) (Ow (CQ 58 [dP 0 0] (psO ts i so r1 r2 r3) (dA [dU k,dS s,dI o]) (psO ts i so r1 r2 r3)) (brT (!decide (k=(6:Int))) (Ow (CQ 54 [dP 0 0,dI 40] (psO ts i so r1 r2 r3) (D.pan v) []) (Rt (D.pan v) [])) (I8 (i+(1:Int)) (Rt (dU (IntKind.wrap IntKind.u8 (IntKind.wrap IntKind.u8 (idxS s [[(61:UInt8)],[(33:UInt8),(61:UInt8)],[(60:UInt8)],[(60:UInt8),(61:UInt8)],[(62:UInt8)],[(62:UInt8),(61:UInt8)]] (0:Int))+(1:Int)))) [(0,oC [dL (List.map Zo ts) [],dI (i+(1:Int)),dV 1,dV 2,dV 3,dB so]),(1,oR true 20 42 r1),(2,oR true 5 53 r2),(3,oR true 2 138 r3)])))))))
theorem ZcK (ts:List Tk) (i k o:Int) (s:LU) (so:Bool) (v:Value) (r1 r2 r3:LD):goT Tryz.prog {F:=λx=>Zcc,C:=λn=>if n=24 then psB false D.nils [] v else psQ (dA [dU k,dS s,dI o]) (psO ts i so r1 r2 r3),E:=noE} 10 (finF false 10 ZeW) 2000 [Fr.sc Zec] {tm:=Zu 0 ([]++[dP 0 0]++[]),ob:=psO ts i so r1 r2 r3}=Zka ts i k o s so v r1 r2 r3:=by kernel_rfl
theorem Z9G (t:LU): ∀ (l:List (LU)) (i:Int),idxS t l i<i+l.length\/idxS t l i= -1
 |[],i=>.inr rfl
 |x::l,i=>by
  simp only[idxS];split
  ·left;simp only[List.length_cons];omega
  ·have:=Z9G t l (i+1);simp only[List.length_cons];omega
theorem Z8b {n:Int} (h1:0<=n) (h2:n<256):IntKind.u8.wrap n=n:=by
 simp only[IntKind.wrap,IntKind.signed,IntKind.bits];simp;omega
theorem Zfs (p:PS) (i:Nat):CF 168 [.ptr 0 0] (p.o i) (PRes p (λn:Nat=>.int .u8 n) (Zc p.ts i)):=by
 refine CallL.tree Z5 ZiR (ZdW Z74 24 (Z2 _ _ _ _) (Zh _ _)) (ZcK p.ts i (Zg p.ts i).1 (Zg p.ts i).2.2 (Zg p.ts i).2.1 p.so (fltV i 40) p.r1 p.r2 p.r3) ?_;unfold Zka Zc;have hp:=p.hl;have hi:=Z9G (Zg p.ts i).2.1 cmpL 0;simp only[SS];refine⟨Z3l p i,by decide,λh=>?_,λh=>⟨Z3l p i,λh2=>?_,λh2=>?_⟩⟩
 ·have h':idxS (Zg p.ts i).2.1 cmpL 0<0:=by first|exact of_decide_eq_true h|exact h
  rw[if_pos (.inl h')];exact⟨QV p i 40,rfl,rfl⟩
 ·rw[if_pos (.inr h2)];exact⟨QV p i 40,rfl,rfl⟩
 ·have c:=Z0m (ts:=p.ts) (i:=i) (by rw[h2];decide);have a: ¬ idxS (Zg p.ts i).2.1 cmpL 0<0:=by first|exact of_decide_eq_false h|exact h
  have b:cmpL.length=6:=rfl;rw[b] at hi;refine⟨by omega,?_⟩;rw[if_neg (by rintro (h|h);exact a h;exact h h2)];change PRes p _ _ (dU (IntKind.u8.wrap (IntKind.u8.wrap (idxS (Zg p.ts i).2.1 cmpL 0)+1))) _;rw[Z8b (n:=idxS (Zg p.ts i).2.1 cmpL 0) (by omega) (by omega),Z8b (by omega) (by omega)];refine⟨?_,rfl⟩;congr 1;omega
end Go.Proofs.YtecgehidegnmnaaGreatDoor
/- The parser: lists. -/
namespace Go.Proofs.YtecgehidegnmnaaGreatDoor
open Go.Sx
open Go.Sx.Lx (Tk Zo)
theorem ZjZ (ts:List Tk) (i:Int) (g:Nat) (m:Int) (a:LU) (so:Bool) (r1 r2 r3:LD):gC (ctr libT) 10 Z8Y Z7x [] [dP 0 0,dI m,dS a,dF g [dP 0 0] []] [] (psO ts i so r1 r2 r3)=(Jm (cut Z7x 0) {tm:=[(0,dP 0 0),(1,dI m),(2,dS a),(3,dF g [dP 0 0] []),(8,dV 10)],ob:=[(0,oC [dL (List.map Zo ts) [],dI i,dV 1,dV 2,dV 3,dB so]),(1,oR true 20 42 r1),(2,oR true 5 53 r2),(3,oR true 2 138 r3),(10,oR true 4 39 [])]}:Tr):=by kernel_rfl
def hdLt (ts:List Tk) (i:Int) (g:Nat) (m:Int) (a:LU) (so:Bool) (r1 r2 r3 out:LD):St:=⟨[(0,.ptr 0 0),(1,.int .i64 m),(2,.str a),(3,.func (.func g) [.ptr 0 0] []),(8,.vec 10)],psO ts i so r1 r2 r3++[(10,.arr true 4 39 out)]⟩
theorem Z68 (ts:List Tk) (i j k:Int) (g:Nat) (m:Int) (d:LU) (so b c:Bool) (e nn:Int) (s:LU) (a:LD) (v:Value) (r1 r2 r3 out:LD):let A:=[(0,oC [dL (List.map Zo ts) [],dI k,dV 1,dV 2,dV 3,dB so]),(1,oR true 20 42 r1),(2,oR true 5 53 r2),(3,oR true 2 138 r3),(10,oR true 4 39 (out++[[dU e,dI nn,dS s,dL a []]]))];let B:=[dU e,dI nn,dS s,dL a []];let G:=psO ts j so r1 r2 r3;let H:=psO ts i so r1 r2 r3;let I:=psO ts k so r1 r2 r3;let J:=dF g [dP 0 0] [];let K:=D.pan v;let L:=cut Z7x 0;goT Tryz.prog {F:=λx=>libT,C:=λn=>if n=16 then psB false D.nils [] v else if n=19 then psB b (dA B) G v else psQ (dB c) I,E:=noE} 10 (finF false 10 Z8Y) 2000 L (hdLt ts i g m d so r1 r2 r3 out)=(brT (decide (m<=(↑(List.length out):Int))) (Ow (CQ 54 [dP 0 0,dI 5] H K []) (Rt K [])) (brT b (Ow (CallL Tryz.prog J [] H λr0 ob0=>r0=dA B/\ob0=G) (Ow (Zk 4 [B]/\List.length out+1<=1073741824) (Ow (CQ 66 [dP 0 0,dL [[dS d]] []] G (dB c) I) (brT (!c) (Rt (dV 10) A) (Jm L {tm:=[(0,dP 0 0),(1,dI m),(2,dS d),(3,dF g [dP 0 0] []),(8,dV 10)],ob:=A}))))) (Ow (CallL Tryz.prog J [] H λr0 ob0=>r0=D.pan v/\ob0=[]) (Rt K []))):Tr):=by intro A B G H I J K L;kernel_rfl
def LRes {α:Type} (p:PS) (n e:Nat) (enc:α->List D) (x:PR (List α)):D->Obs->Prop:=λr ob=>match x with
 |.ok l j=>r=.vec 10/\ob=p.o j++[(10,.arr true n e (l.map enc))]
 |.bad a e=>r=.pan (fltV a e)/\ob=[]
theorem Z9t {α:Type} {p:PS} {n e:Nat} {enc:α->List D} {x:PR (List α)} {d:D} {ys:List D} {ob:Obs} (h:CallL Tryz.prog d ys ob (LRes p n e enc x)):CallL Tryz.prog d ys ob (PRes p (λl:List α=>.slice (l.map enc) []) x):=by
 cases x with
 |ok l j=>exact CallL.vecR (ob0:=p.o j) (by rfl) h
 |bad a e=>exact h
theorem Z4 {n m:Nat} {a b:QT} (ha:a.OK) (c:b.OK):QT.OK (if n=m then a else b):=by
 split
 ·exact ha
 ·exact c
theorem ZE {a:PT} (hp:a.OK) {q:Nat->QT} (b: ∀ n,(q n).OK):(⟨λ_=>a,q,noE⟩:Ctr).OK Tryz.prog:=⟨λ_=>hp,b⟩
theorem Z0K {a:Bool} {r1 r2 r3:D} {o1 o2 o3:Obs} {v:Value}:(⟨λ_=>libT,λn=>if n=16 then psB false r1 o1 v else if n=19 then psB a r2 o2 v else psQ r3 o3,noE⟩:Ctr).OK Tryz.prog:=ZE Z3 λn=>Z4 (Z2 _ _ _ _) (Z4 (Z2 _ _ _ _) (Zh _ _))
theorem qLt2 (p:PS) (g b:Nat) (d:LU) (c:Nat->PR Tm) (i0:Nat) (hm:b<=1000)
  (u: ∀ k,i0<=k->CallL Tryz.prog (.func (.func g) [.ptr 0 0] []) [] (p.o k) (PRes p (λt:Tm=>.agg t.cells) (c k)))
  (q: ∀ k a j,i0<=k->c k=.ok a j->k<=j): ∀ (n:Nat) (out:List Tm) (i:Nat),i0<=i->b+1<=n+out.length->out.length<=b →
  At Tryz.prog 10 (cut Z7x 0) (hdLt p.ts i g b d p.so p.r1 p.r2 p.r3 (out.map Tm.cells)) (FinQ false 10 Z8Y (LRes p 4 39 Tm.cells (Z13 p.ts b d c n out i)))
 |0,out,i,hi,w,y=>by omega
 |n+1,out,i,hi,w,y=>by
  unfold Z13;have hc:=u i hi;by_cases o:b<=out.length
  ·rw[if_pos o];refine At.tree Z0K (Z68 p.ts i 0 0 g b d p.so false false 0 0 [] [] (fltV i 5) p.r1 p.r2 p.r3 (out.map Tm.cells)) ?_;simp only[SS,List.length_map];exact⟨λ_=>⟨QV p i 5,rfl,rfl⟩,λh=>by omega⟩
  ·rw[if_neg o];cases hx:c i with
   |bad a e =>
    rw[hx] at hc;refine At.tree Z0K (Z68 p.ts i 0 0 g b d p.so false false 0 0 [] [] (fltV a e) p.r1 p.r2 p.r3 (out.map Tm.cells)) ?_;simp only[SS,List.length_map];exact⟨λh=>by omega,λ_=>⟨nofun,hc,rfl,rfl⟩⟩
   |ok t j =>
    rw[hx] at hc;cases t with
    |mk k m s l =>
     have z:=ZY p j [d] [] (by simp);refine At.tree Z0K (Z68 p.ts i j ((if Z1 p.ts j [d]=true then j+1 else j:Nat):Int) g b d p.so true (Z1 p.ts j [d]) k m s (Tm.cellsL l) Go.undef p.r1 p.r2 p.r3 (out.map Tm.cells)) ?_;simp only[SS,List.length_map];refine⟨λh=>by omega,λ_=>⟨⟨hc,⟨by simp[Zk],by omega⟩,z,?_⟩,nofun⟩⟩;have v:=q i _ j hi hx;have e:out.map Tm.cells++[[.int .u8 k,.int .i64 m,.str s,.slice (Tm.cellsL l) []]]=(out++[Tm.mk k m s l]).map Tm.cells:=by simp[Tm.cells]
     rw[e];cases hs:Z1 p.ts j [d] with
     |true =>
      refine⟨nofun,λ_=>?_⟩
      have:=qLt2 p g b d c i0 hm u q n (out++[Tm.mk k m s l]) (j+1) (by omega) (by simp;omega) (by simp;omega);simp only[PR.bind,hs,if_true];exact this
     |false =>
      refine⟨λ_=>?_,nofun⟩;simp only[PR.bind,hs,Bool.false_eq_true,if_false];exact⟨rfl,rfl⟩
theorem Zdk (p:PS) (g b:Nat) (d:LU) (c:Nat->PR Tm) (i:Nat) (hm:b<=1000)
  (o: ∀ k,i<=k->CallL Tryz.prog (.func (.func g) [.ptr 0 0] []) [] (p.o k) (PRes p (λt:Tm=>.agg t.cells) (c k)))
  (m: ∀ k a j,i<=k->c k=.ok a j->k<=j):CF 166 [.ptr 0 0,.int .i64 b,.str d,.func (.func g) [.ptr 0 0] []] (p.o i) (PRes p (λl:List Tm=>.slice (Tm.cellsL l) []) (Ps.Q9 p.ts b d c i)):=by
 have e:(λl:List Tm=>dL (Tm.cellsL l) [])=λl:List Tm=>dL (l.map Tm.cells) []:=funext λl=>by rw[Ql]
 rw[e];refine Z9t (n:=4) (e:=39) ?_;refine CallL.tree Z5 ZiT (Z9 Z3 Z8) (ZjZ p.ts i g b d p.so p.r1 p.r2 p.r3) ?_;exact qLt2 p g b d c i hm o m (b+1) [] i (Nat.le_refl _) (by simp) (by simp)
end Go.Proofs.YtecgehidegnmnaaGreatDoor
/- The parser in a box. -/
namespace Go.Proofs.YtecgehidegnmnaaGreatDoor
open Go.Sx
open Go.Sx.Lx (Tk Zo)
def psQ0 (ts:List Tk) (i:Int) (so:Bool) (r1 r2 r3:LD):Obs:=[(0,.cells [.ptr 1 0]),(1,.cells [.slice (ts.map Zo) [],.int .i64 i,.vec 2,.vec 3,.vec 4,.bool so]),(2,.arr true 20 42 r1),(3,.arr true 5 53 r2),(4,.arr true 2 138 r3)]
def PS.oq (p:PS) (i:Nat):Obs:=psQ0 p.ts i p.so p.r1 p.r2 p.r3
def Z59 {α:Type} (p:PS) (enc:α->D) (x:PR α):D->Obs->Prop:=λr ob=>match x with
 |.ok a j=>r=enc a/\ob=p.oq j
 |.bad a e=>r=.pan (fltV a e)/\ob=[]
def psO1 (ts:List Tk) (i:Int) (so:Bool) (r1 r2 r3:LD):Obs:=[(0,.cells [.slice (ts.map Zo) [],.int .i64 i,.vec 2,.vec 3,.vec 4,.bool so]),(1,.cells [.ptr 0 0]),(2,.arr true 20 42 r1),(3,.arr true 5 53 r2),(4,.arr true 2 138 r3)]
def PS.ob (p:PS) (i:Nat):Obs:=psO1 p.ts i p.so p.r1 p.r2 p.r3
def ZaN {α:Type} (p:PS) (enc:α->D) (x:PR α):D->Obs->Prop:=λr ob=>match x with
 |.ok a j=>r=enc a/\ob=p.ob j
 |.bad a e=>r=.pan (fltV a e)/\ob=[]
def RW {α:Type} (os:Nat->Obs) (enc:α->D) (x:PR α):D->Obs->Prop:=λr ob=>match x with
 |.ok a j=>r=enc a/\ob=os j
 |.bad a e=>r=.pan (fltV a e)
def ZcQ {α:Type} (p:PS) (n e:Nat) (enc:α->List D) (x:PR (List α)):D->Obs->Prop:=λr ob=>match x with
 |.ok l j=>r=.vec 10/\ob=p.ob j++[(10,.arr true n e (l.map enc))]
 |.bad a e=>r=.pan (fltV a e)
theorem Z20 {α:Type} {p:PS} {n e:Nat} {enc:α->List D} {x:PR (List α)} {d:D} {ys:List D} {ob:Obs} (h:CallL Tryz.prog d ys ob (ZcQ p n e enc x)):CallL Tryz.prog d ys ob (ZaN p (λl:List α=>.slice (l.map enc) []) x):=by
 cases x with
 |ok l j=>exact CallL.vecR (ob0:=p.ob j) (by rfl) h
 |bad a e=>exact CallL.pdrop h λ_ _ h=>h
end Go.Proofs.YtecgehidegnmnaaGreatDoor
/- every,subterms,visit. -/
namespace Go.Proofs.YtecgehidegnmnaaGreatDoor
open Go.Sx
def asmV (r:D):QT:=λd xs ob=>match ob with
 |[]=>some (.ok (CallL Tryz.prog d xs [] λr0 ob0=>r0=r/\ob0=[]) r [])
 |_=>none
theorem Zgj (r:D):(asmV r).OK:=by
 intro d xs ob rt h;unfold asmV at h;split at h
 ·cases h;exactλhp=>hp
 ·cases h
theorem Zhe (k n:Int) (s:LU) (a:LD):let A:=[dU k,dI n,dS s,dL a []];gC (ctr libT) 0 rs78 sc78 [] [dA A] [] []=(Rt (dF 125 [] [dP 0 0]) [(0,oC A)]:Tr):=by intro A;kernel_rfl
def subQ:QT:=λd xs ob=>match d,xs,ob with
 |.func (.func f) [] [],[.agg [.int .u8 k,.int .i64 n,.str s,.slice a []]],[]=>if f=78 then some (.ok True (.func (.func 125) [] [.ptr 0 0]) [(0,.cells [.int .u8 k,.int .i64 n,.str s,.slice a []])]) else none
 |_,_,_=>none
theorem ZdZ:subQ.OK:=by
 intro d xs ob rt h;unfold subQ at h;split at h
 ·split at h
  ·rename_i hf;subst hf;cases h;intro _;exact CallL.tree Z5 fp78 (Z9 Z3 Z8) (Zhe _ _ _ _) ⟨rfl,rfl⟩
  ·cases h
 ·cases h
def Z9z:List Nat:=[7,6,4,3,2,0,1]
abbrev tC (k n:Int) (s:LU) (a:LD):List D:=[.int .u8 k,.int .i64 n,.str s,.slice a []]
def dsEv (k n:Int) (s:LU) (a:LD) (f:FuncId) (t0 q u v:Nat):List D:=[.func (.func 125) [] [.ptr t0 0],.agg (tC k n s a),.ptr q 0,.ptr u 0,.ptr v 0,.agg (tC k n s a),.func (.func f) [] []]
def Zi7 (st:LoopState) (pend:Option Code) (ds:List D):Ob:=.gen (.loop st pend #[8] (sc44.rngA 0) (sc44.rngB 0) 13 Z9z) ds
def obEv (k n:Int) (s:LU) (a:LD) (f:FuncId) (st:LoopState) (pend:Option Code) (b:Bool):Obs:=[(0,.cells (tC k n s a)),(1,Zi7 st pend (dsEv k n s a f 0 2 3 4)),(2,.cells [.bool b]),(3,.cells [.func (.func f) [] []]),(4,.cells (tC k n s a))]
def obVi (k n:Int) (s:LU) (a:LD) (f:FuncId) (st:LoopState) (pend:Option Code):Obs:=[(0,Zi7 st pend (dsEv k n s a f 1 2 3 4)),(1,.cells (tC k n s a)),(2,.cells [.bool false]),(3,.cells [.func (.func f) [] []]),(4,.cells (tC k n s a))]
def Zjr:Obs->Obs
 |(i,.gen (.loop _ _ ps a b N ks) ds)::r=>(i,.gen (.loop .done (some .ret) ps a b N ks) ds)::r
 |ob=>ob
def asmB (b:Bool):QT:=λd xs ob=>some (.br b (.ok (CallL Tryz.prog d xs ob λr o=>r=.bool true/\o=ob) (.bool true) ob) (.ok (CallL Tryz.prog d xs ob λr o=>r=.bool false/\o=Zjr ob) (.bool false) (Zjr ob)))
theorem Z4s (b:Bool):(asmB b).OK:=by
 intro d xs ob rt h;cases h;cases b
 ·exactλhp=>hp
 ·exactλhp=>hp
theorem Zko (d nx:Int) (e:LU) (c:LD) (k n:Int) (s:LU) (a:LD) (f:FuncId) (b:Bool):let A:=[dF 125 [] [dP 1 0],dA (tC k n s a),dP 2 0,dP 3 0,dP 4 0,dA (tC k n s a),dF f [] []];let B:=tC k n s a;let C:=(3,oC [dF f [] []]);let E:=(2,oC [dB false]);let F:=tC d nx e c;let G:=SC.rngA sc44 0;let H:=SC.rngB sc44 0;let I:=some Code.ret;gC (ctr libT (asmB b)) 5 Z91 Z7A [] [dA F,D.yld 0] [] (obVi k n s a f LoopState.ready none)=(brT b (Ow (CallL Tryz.prog (D.yld 0) [dA F] [(0,gL .ready none #[8] sc44 0 13 [7,6,4,3,2,0,1] A),(1,oC B),E,C,(4,oC B)] λr o=>r=dB true/\o=[(0,gL .ready none #[8] sc44 0 13 [7,6,4,3,2,0,1] A),(1,oC B),E,C,(4,oC B)]) (Jm (cut Z7A 0) {tm:=[(1,D.yld 0),(12,dL c []),(13,dI (↑(List.length c):Int)),(14,dI 0)],ob:=[(0,gL .ready none #[8] sc44 0 13 [7,6,4,3,2,0,1] A),(1,oC B),E,C,(4,oC B)]})) (Ow (CallL Tryz.prog (D.yld 0) [dA F] [(0,gL .ready none #[8] sc44 0 13 [7,6,4,3,2,0,1] A),(1,oC B),E,C,(4,oC B)] λr o=>r=dB false/\o=[(0,Ob.gen (Gen.loop LoopState.done I #[8] G H 13 [7,6,4,3,2,0,1]) A),(1,oC B),E,C,(4,oC B)]) (Rt (dB false) [(0,Ob.gen (Gen.loop LoopState.done I #[8] G H 13 [7,6,4,3,2,0,1]) A),(1,oC B),E,C,(4,oC B)])):Tr):=by intro A B C E F G H I;kernel_rfl
theorem ZjM (d nx:Int) (e:LU) (c:LD) (k n:Int) (s:LU) (a:LD) (f:FuncId) (b:Bool):let A:=tC k n s a;let B:=[dF 125 [] [dP 1 0],dA A,dP 2 0,dP 3 0,dP 4 0,dA A,dF f [] []];let C:=(3,oC [dF f [] []]);let E:=(2,oC [dB false]);let F:=dsEv k n s a f 1 2 3 4;let G:=[dA (tC d nx e c)];let H:=SC.rngA sc44 0;let I:=SC.rngB sc44 0;yldT Tryz.prog (ctr libT (asmV (dB b))) 5 0 13 #[8] H I Z9z F 2000 {tm:=putP (List.zip [8] G) (List.zip Z9z F),ob:=[(1,oC A),E,C,(4,oC A)]}=(Ow (CallL Tryz.prog (dF f [] []) G [] λr0 ob0=>r0=dB b/\ob0=[]) (brT (!b) (Rt (dB false) [(0,Ob.gen (Gen.loop LoopState.done (some Code.ret) #[8] H I 13 [7,6,4,3,2,0,1]) B),(1,oC A),E,C,(4,oC A)]) (Rt (dB true) [(0,gL .ready none #[8] sc44 0 13 [7,6,4,3,2,0,1] B),(1,oC A),E,C,(4,oC A)])):Tr):=by intro A B C E F G H I;kernel_rfl
def hdVi (a:LD) (m i:Int) (ob:Obs):St:=⟨[(1,.yld 0),(12,.slice a []),(13,.int .i64 m),(14,.int .i64 i)],ob⟩
theorem Zb2 (c:LD) (m i e nx:Int) (g:LU) (d:LD) (k n:Int) (s:LU) (a:LD) (f:FuncId) (b:Bool):let A:=[dF 125 [] [dP 1 0],dA (tC k n s a),dP 2 0,dP 3 0,dP 4 0,dA (tC k n s a),dF f [] []];let B:=tC k n s a;let C:=(3,oC [dF f [] []]);let E:=(2,oC [dB false]);let F:=tC e nx g d;let G:=SC.rngA sc44 0;let H:=SC.rngB sc44 0;let I:=some Code.ret;let J:=[dA F,D.yld 0];let K:=cut Z7A 0;let L:=(i+(1:Int));gH (ctr libT (asmB b) λx j=>tC e nx g d) 5 false Z91 K (hdVi c m i (obVi k n s a f LoopState.ready none))=(brT (decide (i<m)) (Ow ((0:Int)<=i/\c[Int.toNat i]? = some F) (brT b (Ow (CF 126 J [(0,gL .ready none #[8] sc44 0 13 [7,6,4,3,2,0,1] A),(1,oC B),E,C,(4,oC B)] λr o=>r=dB true/\o=[(0,gL .ready none #[8] sc44 0 13 [7,6,4,3,2,0,1] A),(1,oC B),E,C,(4,oC B)]) (I8 L (Jm K {tm:=[(1,D.yld 0),(12,dL c []),(13,dI m),(14,dI L)],ob:=[(0,gL .ready none #[8] sc44 0 13 [7,6,4,3,2,0,1] A),(1,oC B),E,C,(4,oC B)]}))) (Ow (CF 126 J [(0,gL .ready none #[8] sc44 0 13 [7,6,4,3,2,0,1] A),(1,oC B),E,C,(4,oC B)] λr o=>r=dB false/\o=[(0,Ob.gen (Gen.loop LoopState.done I #[8] G H 13 [7,6,4,3,2,0,1]) A),(1,oC B),E,C,(4,oC B)]) (Rt (dB false) [(0,Ob.gen (Gen.loop LoopState.done I #[8] G H 13 [7,6,4,3,2,0,1]) A),(1,oC B),E,C,(4,oC B)])))) (Rt (dB true) [(0,gL .ready none #[8] sc44 0 13 [7,6,4,3,2,0,1] A),(1,oC B),E,C,(4,oC B)]):Tr):=by intro A B C E F G H I J K L;kernel_rfl
theorem Zhf (k n:Int) (s:LU) (a:LD) (f:FuncId) (b:Bool):let A:=tC k n s a;let B:=[dF 125 [] [dP 1 0],dA A,dP 2 0,dP 3 0,dP 4 0,dA A,dF f [] []];let C:=(3,oC [dF f [] []]);let E:=(2,oC [dB false]);let F:=[dF 125 [] [dP 0 0],dA A,dP 2 0,dP 3 0,dP 4 0,dA A,dF f [] []];let G:=SC.rngA sc44 0;let H:=SC.rngB sc44 0;let I:=some Code.ret;let J:=[dA A,D.yld 0];let K:=D.tuple [];gC (ctr libT (asmB b)) 5 Zfd Zet [] [D.yld 1] [dP 0 0] (obEv k n s a f LoopState.ready none false)=(brT b (Ow (CF 126 J [(0,gL .ready none #[8] sc44 0 13 [7,6,4,3,2,0,1] B),(1,oC A),E,C,(4,oC A)] λr o=>r=dB true/\o=[(0,gL .ready none #[8] sc44 0 13 [7,6,4,3,2,0,1] B),(1,oC A),E,C,(4,oC A)]) (Rt K [(0,oC A),(1,gL .ready none #[8] sc44 0 13 [7,6,4,3,2,0,1] F),E,C,(4,oC A)])) (Ow (CF 126 J [(0,gL .ready none #[8] sc44 0 13 [7,6,4,3,2,0,1] B),(1,oC A),E,C,(4,oC A)] λr o=>r=dB false/\o=[(0,Ob.gen (Gen.loop LoopState.done I #[8] G H 13 [7,6,4,3,2,0,1]) B),(1,oC A),E,C,(4,oC A)]) (Rt K [(0,oC A),(1,Ob.gen (Gen.loop LoopState.done I #[8] G H 13 [7,6,4,3,2,0,1]) F),E,C,(4,oC A)])):Tr):=by intro A B C E F G H I J K;kernel_rfl
def asmI (b:Bool):QT:=λd xs ob=>match d,ob with
 |.func (.func _) [] [.ptr 0 0],(0,c)::(1,.gen (.loop _ _ ps a e N ks) ds)::r=>some (.br b (.ok (CallL Tryz.prog d xs ob λr o=>r=.tuple []/\o=ob) (.tuple []) ob) (.ok (CallL Tryz.prog d xs ob λr0 o=>r0=.tuple []/\o=(0,c)::(1,.gen (.loop .done (some .ret) ps a e N ks) ds)::r) (.tuple []) ((0,c)::(1,.gen (.loop .done (some .ret) ps a e N ks) ds)::r)))
 |_,_=>none
theorem Zgk (b:Bool):(asmI b).OK:=by
 intro d xs ob rt h;unfold asmI at h;split at h
 ·cases h;cases b
  ·exactλhp=>hp
  ·exactλhp=>hp
 ·cases h
theorem Zkw (k n:Int) (s:LU) (a:LD) (f:FuncId) (b:Bool):let A:=SC.block 1 (SC.seq (SC.reg [so 9 (AOp.load false 1) [xt 3],so 10 (AOp.load true 4) [xt 5],SOp.cd (some 11) none (xt 9) [xt 10],so 12 (AOp.un UnOp.not) [xt 11]]) (SC.cond (xt 12) (SC.seq (SC.reg [SOp.st none (SK.c 1) (xt 4) (xc (dB false))]) SC.ret) SC.skip));let B:=SC.reg [so 5 (AOp.alloc [dU 0,dI 0,dS [],D.nils]) [],SOp.st none (SK.c 4) (xt 5) (xt 8)];let C:=[dF 125 [] [dP 0 0],dA (tC k n s a),dP 2 0,dP 3 0,dP 4 0,dA (tC k n s a),dF f [] []];let E:=tC k n s a;let F:=(3,oC [dF f [] []]);let G:=(2,oC [dB false]);let H:=dF 125 [] [dP 0 0];gC (ctr libT (QT.or subQ (asmI b))) 0 rs44 sc44 [] [dA E,dF f [] []] [] []=(Ow True (brT b (Ow (CallL Tryz.prog H [D.yld 1] [(0,oC E),(1,Ob.gen (Gen.loop LoopState.ready none #[8] B A 13 [7,6,4,3,2,0,1]) C),G,F,(4,oC E)] λr o=>r=D.tuple []/\o=[(0,oC E),(1,Ob.gen (Gen.loop LoopState.ready none #[8] B A 13 [7,6,4,3,2,0,1]) C),G,F,(4,oC E)]) (Rt (dB true) [])) (Ow (CallL Tryz.prog H [D.yld 1] [(0,oC E),(1,Ob.gen (Gen.loop LoopState.ready none #[8] B A 13 [7,6,4,3,2,0,1]) C),G,F,(4,oC E)] λr0 o=>r0=D.tuple []/\o=[(0,oC E),(1,Ob.gen (Gen.loop LoopState.done (some Code.ret) #[8] B A 13 [7,6,4,3,2,0,1]) C),G,F,(4,oC E)]) (Rt (dB false) []))):Tr):=by intro A B C E F G H;kernel_rfl
section
variable {h:Tm->Bool} {f:FuncId} (H: ∀ x:Tm,x.wf 281474976710656->CallL Tryz.prog (.func (.func f) [] []) [.agg x.cells] [] λr ob=>r=.bool (h x)/\ob=[])
include H
def obRv (k n:Int) (s:LU) (a:LD) (f:FuncId) (b:Bool):Obs:=match b with
 |true=>obVi k n s a f .ready none
 |false=>obVi k n s a f .done (some .ret)
theorem ZdJ (k n:Int) (s:LU) (a:LD) (x:Tm) (hx:x.wf 281474976710656):CallL Tryz.prog (.yld 0) [.agg x.cells] (obVi k n s a f .ready none) λr ob=>r=.bool (h x)/\ob=obRv k n s a f (h x):=by
 have d:=H x hx;generalize h x=b at d ⊢;obtain⟨g,nx,i,e⟩:=x;refine CallL.yldT Z5 (Z9 Z3 (Zgj (.bool b))) rfl (ZjM g nx i (Tm.cellsL e) k n s a f b) ?_;rw[Zs,Qw,Zn,Zn];refine⟨d,λc=>?_,λc=>?_⟩
 ·cases b
  ·exact⟨rfl,rfl⟩
  ·cases c
 ·cases b
  ·cases c
  ·exact⟨rfl,rfl⟩
def VisC (h:Tm->Bool) (f:FuncId) (k n:Int) (s:LU) (a:LD) (x:Tm):Prop:=CF 126 [.agg x.cells,.yld 0] (obVi k n s a f .ready none) λr ob=>r=.bool (x.all h)/\ob=obRv k n s a f (x.all h)
omit H in
theorem Zhl (k n:Int) (s:LU) (a:LD) (l:List Tm) (hl:l.length<=281474976710656) (HV: ∀ x∈l,VisC h f k n s a x): ∀ (m i:Nat),l.length-i=m->i<=l.length →
  At Tryz.prog 5 (cut Z7A 0) (hdVi (Tm.cellsL l) l.length i (obVi k n s a f .ready none)) (FinQ false 5 Z91 λr ob=>r=.bool (Tm.allL h (l.drop i))/\ob=obRv k n s a f (Tm.allL h (l.drop i))):=by
 intro m;induction m with
 |zero =>
  intro i hm hi;refine At.tree (Z9 Z3 (Z4s true)) (Zb2 (Tm.cellsL l) l.length i 0 0 [] [] k n s a f true) ?_;rw[List.drop_eq_nil_of_le (by omega)];rw[Qw];refine⟨λh=>?_,λ_=>?_⟩
  ·have:=of_decide_eq_true h;omega
  ·rw[Zn];exact⟨rfl,rfl⟩
 |succ m j =>
  intro i hm hi;have h1:i<l.length:=by omega
  have hx:(Tm.cellsL l)[i]? = some l[i].cells:=by rw[Ql];simp[h1]
  have c:=HV _ (List.getElem_mem h1);have g:l.drop i=l[i]::l.drop (i+1):=List.drop_eq_getElem_cons h1;have e:=j (i+1) (by omega) (by omega);rw[g];simp only[Tm.allL];unfold VisC at c;generalize Tm.all h l[i]=b at c ⊢;generalize l[i]=x at hx c;obtain⟨o,nx,p,d⟩:=x;refine At.tree (Z9 Z3 (Z4s b)) (Zb2 (Tm.cellsL l) l.length i o nx p (Tm.cellsL d) k n s a f b) ?_;rw[Qw];refine⟨λ_=>?_,λh=>?_⟩
  ·rw[Zs,Int.toNat_natCast];refine⟨⟨by omega,hx⟩,?_⟩;cases b
   ·rw[Q8,Zs,Zn];exact⟨c,rfl,rfl⟩
   ·rw[QF,Zs,Zs,Z0r,Bool.true_and];exact⟨c,by omega,e⟩
  ·have:=of_decide_eq_false h;omega
theorem Zd3 (k n:Int) (s:LU) (a:LD): ∀ x:Tm,x.wf 281474976710656->VisC h f k n s a x
 |.mk d nx e l,hx=>by
  have c:=ZdJ H k n s a (.mk d nx e l) hx;simp only[Tm.wf] at hx;obtain⟨o,i,j,hs,hl,m⟩:=hx;have g:=Zhl (h:=h) (f:=f) k n s a l hl (λx hx=>Zd3 k n s a x (Z5f.1 m x hx)) _ 0 rfl (Nat.zero_le _);unfold VisC;simp only[Tm.all];generalize h (.mk d nx e l)=b at c ⊢;refine CallL.tree Z5 Zjb (Z9 Z3 (Z4s b)) (Zko d nx e (Tm.cellsL l) k n s a f b) ?_;cases b
  ·rw[Q8,Zs,Zn,Bool.false_and];exact⟨c,rfl,rfl⟩
  ·rw[QF,Zs,Z0r,Bool.true_and,QJ];exact⟨c,g⟩
termination_by x=>SizeOf.sizeOf x
decreasing_by
 have:=List.sizeOf_lt_of_mem hx;simp only[Tm.mk.sizeOf_spec];omega
theorem Zc4 (x:Tm) (hx:x.wf 281474976710656):CF 44 [.agg x.cells,.func (.func f) [] []] [] λr ob=>r=.bool (x.all h)/\ob=[]:=by
 obtain⟨k,n,s,l⟩:=x;have hv:=Zd3 H k n s (Tm.cellsL l) (.mk k n s l) hx;unfold VisC at hv;generalize Tm.all h (.mk k n s l)=b at hv ⊢;have hs:CallL Tryz.prog (.func (.func 125) [] [.ptr 0 0]) [.yld 1] (obEv k n s (Tm.cellsL l) f .ready none false) λr ob=>r=.tuple []/\ob=match b with
   |true=>obEv k n s (Tm.cellsL l) f .ready none false
   |false=>obEv k n s (Tm.cellsL l) f .done (some .ret) false:=by
  refine CallL.tree Z5 Zjc (Z9 Z3 (Z4s b)) (Zhf k n s (Tm.cellsL l) f b) ?_;cases b
  ·rw[Q8,Zs,Zn];exact⟨hv,rfl,rfl⟩
  ·rw[QF,Zs,Zn];exact⟨hv,rfl,rfl⟩
 refine CallL.tree Z5 fp44 (Z9 Z3 (QT.or_ok ZdZ (Zgk b))) (Zkw k n s (Tm.cellsL l) f b) ?_;rw[Zs];refine⟨trivial,?_⟩;cases b
 ·rw[Q8,Zs,Zn];exact⟨hs,rfl,rfl⟩
 ·rw[QF,Zs,Zn];exact⟨hs,rfl,rfl⟩
end
end Go.Proofs.YtecgehidegnmnaaGreatDoor
