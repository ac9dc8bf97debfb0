/- Own work: a layer over the kit: plain data,a walk over it,its soundness. -/
import Derived.Test.YtecgehidegnmnaaGreatDoorPrA
import Derived.Test.YtecgehidegnmnaaGreatDoorClass
import Derived.Test.YtecgehidegnmnaaGreatDoorLibT
import Derived.Test.YtecgehidegnmnaaGreatDoorSx8
set_option linter.unusedSectionVars false
set_option linter.unusedVariables false
set_option linter.unusedSimpArgs false
set_option linter.deprecated false
set_option maxRecDepth 100000
/- The parser: what it sees and takes. -/
open Go.Sx.Ps (Z1 Zb PR Z0 Zu Z1t Zd Ze cmpL Z10)
namespace Go.Proofs.YtecgehidegnmnaaGreatDoor
open Go.Sx
open Go.Sx.Lx (Tk Zq)
def psQ (r:D) (o':Obs):QT:=fun d ys ob=>some (.ok (CallL Tryz.prog d ys ob fun r0 ob0=>r0=r/\ob0=o') r o')
theorem Zi (r:D) (o':Obs):(psQ r o').OK:=by intro d ys ob rt h; cases h; exact fun hp=>hp
def psB (b:Bool) (r:D) (o':Obs) (v:Value):QT:=fun d ys ob=>some (.br b (.ok (CallL Tryz.prog d ys ob fun r0 ob0=>r0=r/\ob0=o') r o') (.ok (CallL Tryz.prog d ys ob fun r0 ob0=>r0= .pan v/\ob0=[]) (.pan v) []))
theorem Z2 (b:Bool) (r:D) (o':Obs) (v:Value):(psB b r o' v).OK:=by
 intro d ys ob rt h
 cases h
 cases b
 ·exact fun hp=>hp
 ·exact fun hp=>hp
def conP:PT:=fun f xs=>if f=107 then (match xs with
  | [.slice es _,.str t]=>some (.ok (es=strC (es.map deS)/\es.length<=4611686018427387904) (.bool (decide (t∈es.map deS))) [])
  | _=>none) else none
theorem ZaL:conP.OK:=by
 intro f xs rt h
 unfold conP at h
 split at h
 ·rename_i hf; subst hf
  split at h
  ·rename_i es ext t
   cases h
   rintro⟨he,hl⟩
   have:=Ze1 (es.map deS) ext t (by simpa using hl)
   rwa [<- he] at this
  ·cases h
 ·cases h
theorem ZcX (ts:List Tk) (i k o:Int) (s:LU) (es ext:LD) (so:Bool) (r1 r2 r3:LD):let A:=psO ts i so r1 r2 r3;let B:=dA [dU k,dS s,dI o];gC (ctr conP (psQ B A)) 10 rs63 sc63 [] [dP 0 0,dL es ext] [] A=(Ow (CQ 58 [dP 0 0] A B A) (brT (decide ((4:Int)<=k)) (Ow (es=strC (List.map deS es)/\List.length es<=4611686018427387904) (Rt (dB (decide (s∈List.map deS es))) A)) (Rt (dB false) A)):Tr):=by intro A B;kernel_rfl
theorem Z1J (p:PS) (i:Nat) (l:List (LU)) (ext:LD) (hl:l.length<=1000):CF 63 [.ptr 0 0,.slice (strC l) ext] (p.o i) fun r ob=>r= .bool (Z1 p.ts i l)/\ob=p.o i:=by
 refine CallL.tree Z7 fp63 (Z8 ZaL (Zi _ _)) (ZcX p.ts i (Zb p.ts i).1 (Zb p.ts i).2.2 (Zb p.ts i).2.1 (strC l) ext p.so p.r1 p.r2 p.r3) ?_
 simp only[SS,Z9X,Z1B]
 refine⟨Z3p p i,fun h=>⟨by omega, ?_,rfl⟩,fun h=>⟨?_,rfl⟩⟩
 ·have h4:4<=(Zb p.ts i).1:=by omega
  simp[Z1,h4]
 ·have h4: ¬ 4<=(Zb p.ts i).1:=by omega
  simp[Z1,h4]
theorem Zbe (ts:List Tk) (i:Int) (es ext:LD) (b so:Bool) (r1 r2 r3:LD):let A:=psO ts i so r1 r2 r3;let B:=[dP 0 0,dL es ext];let C:=(i+(1:Int));gC (ctr conP (psQ (dB b) A)) 10 rs66 sc66 [] B [] A=(Ow (CQ 63 B A (dB b) A) (brT b (I8 C (Rt (dB b) [(0,oC [dL (List.map Zq ts) [],dI C,dV 1,dV 2,dV 3,dB so]),(1,oR true 20 42 r1),(2,oR true 5 53 r2),(3,oR true 2 138 r3)])) (Rt (dB b) A)):Tr):=by intro A B C;kernel_rfl
theorem Z0j {ts:List Tk} {i:Nat} (h:(Zb ts i).1≠0):i<ts.length:=by
 apply Classical.byContradiction
 intro hn
 apply h
 simp only[Zb,List.getD_eq_getElem?_getD,List.getElem?_eq_none (by omega:ts.length<=i),Option.getD_none]
theorem Qg {ts:List Tk} {i:Nat} {l:List (LU)} (h:Z1 ts i l=true):i<ts.length:=by
 simp only[Z1,Bool.and_eq_true,decide_eq_true_eq] at h
 exact Z0j (by omega)
theorem Q6 (p:PS) (i:Nat) (l:List (LU)) (ext:LD) (hl:l.length<=1000):CF 66 [.ptr 0 0,.slice (strC l) ext] (p.o i) fun r ob=>r= .bool (Z1 p.ts i l)/\ob=p.o (if Z1 p.ts i l=true then i+1 else i):=by
 refine CallL.tree Z7 fp66 (Z8 ZaL (Zi _ _)) (Zbe p.ts i (strC l) ext (Z1 p.ts i l) p.so p.r1 p.r2 p.r3) ?_
 have hp:=p.hl
 simp only[SS]
 refine⟨Z1J p i l ext hl,fun h=>⟨by have:=Qg h; omega, ?_⟩,fun h=> ?_⟩
 ·rw[if_pos h]; rfl
 ·rw[if_neg (by simp[h])]; rfl
def PRes {α:Type} (p:PS) (enc:α->D) (x:PR α):D->Obs->Prop:=fun r ob=>match x with
 | .ok a j=>r=enc a/\ob=p.o j
 | .bad a e=>r= .pan (fltV a e)/\ob=[]
theorem Z5E (n:Nat) (q1:QT) {q2:QT} (h1:q1.OK) (h2:q2.OK):(⟨fun _=>libT,fun m=>if m=n then q1 else q2,noE⟩:Ctr).OK Tryz.prog:=by
 refine⟨fun _=>Z3,fun m=> ?_⟩
 show QT.OK (if m=n then q1 else q2)
 split
 ·exact h1
 ·exact h2
theorem Z7E (ts:List Tk) (i j:Int) (t:LU) (b so:Bool) (v:Value) (r1 r2 r3:LD):let A:=psO ts j so r1 r2 r3;goT Tryz.prog { F:=fun x=>libT,C:=fun n=>if n=7 then psQ (dB b) A else psB false D.undef [] v,E:=noE } 10 (finF false 10 rs68) 2000 [Fr.sc sc68] { tm:=Zv 0 ([]++[dP 0 0,dS t]++[]),ob:=psO ts i so r1 r2 r3 }=(Ow (CQ 66 [dP 0 0,dL [[dS t]] []] (psO ts i so r1 r2 r3) (dB b) A) (brT (!b) (Ow (CQ 54 [dP 0 0,dI 40] A (D.pan v) []) (Rt (D.pan v) [])) (Rt (D.tuple []) A)):Tr):=by intro A;kernel_rfl
theorem Qm (p:PS) (i:Nat) (t:LU):CF 68 [.ptr 0 0,.str t] (p.o i) (PRes p (fun _=> .tuple []) (Z0 p.ts t i)):=by
 have ht:=Q6 p i [t] [] (by simp)
 unfold Z0
 cases h:Z1 p.ts i [t] with
 | true =>
  rw[h] at ht
  refine CallL.tree Z7 fp68 (Z5E _ _ (Zi _ _) (Z2 _ _ _ _)) (Z7E p.ts i ((i+1:Nat):Int) t true p.so Go.undef p.r1 p.r2 p.r3) ?_
  simp only[SS,if_true]
  exact⟨ht,nofun,⟨rfl,rfl⟩⟩
 | false =>
  rw[h] at ht
  refine CallL.tree Z7 fp68 (Z5E _ _ (Zi _ _) (Z2 _ _ _ _)) (Z7E p.ts i (i:Nat) t false p.so (fltV i 40) p.r1 p.r2 p.r3) ?_
  simp only[SS,Bool.false_eq_true,if_false]
  exact⟨ht,⟨QQ p i 40,rfl,rfl⟩,fun h=>h.elim⟩
theorem Zd6 (ts:List Tk) (i k k' o:Int) (s:LU) (so:Bool) (v:Value) (r1 r2 r3:LD):let A:=psO ts i so r1 r2 r3;let B:=dA [dU k',dS s,dI o];let G:=(i+(1:Int));goT Tryz.prog { F:=fun x=>libT,C:=fun n=>if n=7 then psQ B A else psB false D.undef [] v,E:=noE } 10 (finF false 10 rs97) 2000 [Fr.sc sc97] { tm:=Zv 0 ([]++[dP 0 0,dU k]++[]),ob:=psO ts i so r1 r2 r3 }=(Ow (CQ 58 [dP 0 0] A B A) (brT (!decide (k'=k)) (Ow (CQ 54 [dP 0 0,dI 40] A (D.pan v) []) (Rt (D.pan v) [])) (I8 G (Rt (dS s) [(0,oC [dL (List.map Zq ts) [],dI G,dV 1,dV 2,dV 3,dB so]),(1,oR true 20 42 r1),(2,oR true 5 53 r2),(3,oR true 2 138 r3)]))):Tr):=by intro A B G;kernel_rfl
theorem Z9F (p:PS) (i k:Nat) (hk:k≠0):CF 97 [.ptr 0 0,.int .u8 k] (p.o i) (PRes p .str (Zu p.ts k i)):=by
 refine CallL.tree Z7 fp97 (Z5E _ _ (Zi _ _) (Z2 _ _ _ _)) (Zd6 p.ts i k (Zb p.ts i).1 (Zb p.ts i).2.2 (Zb p.ts i).2.1 p.so (fltV i 40) p.r1 p.r2 p.r3) ?_
 have hp:=p.hl
 simp only[SS]
 refine⟨Z3p p i,fun h=>⟨QQ p i 40, ?_⟩,fun h=> ?_⟩
 ·unfold Zu
  rw[if_neg h]
  exact⟨rfl,rfl⟩
 ·have:=Z0j (ts:=p.ts) (i:=i) (by rw[h]; omega)
  refine⟨by omega, ?_⟩
  unfold Zu
  rw[if_pos h]
  exact⟨rfl,rfl⟩
theorem Zbn (ts:List Tk) (i j n:Int) (s:LU) (b so:Bool) (v:Value) (r1 r2 r3:LD):let A:=psO ts j so r1 r2 r3;let B:=psO ts i so r1 r2 r3;let C:=[dP 0 0,dU 3];gC (ctr libT (psB b (dS s) A v)) 10 rs98 sc98 [] [dP 0 0] [] B=(brT b (Ow (CQ 97 C B (dS s) A) (brT (match Lib.atoiAll s with | Lib.NumEnd.ok v=>true | x=>false) (Ow (List.length s<=281474976710656) (Rt (dI (match Lib.atoiAll s with | Lib.NumEnd.ok n=>n | x=>(0:Int))) A)) (Ow (List.length s<=281474976710656) (Rt (dI (match Lib.atoiAll s with | Lib.NumEnd.range=>Lib.atoiSat s | x=>(0:Int))) A)))) (Ow (CQ 97 C B (D.pan v) []) (Rt (D.pan v) [])):Tr):=by intro A B C;kernel_rfl
theorem Zce (p:PS) {k:Int} {i j:Nat} {s:LU} (h:Zu p.ts k i= .ok s j):s.length<=1000000000:=by
 unfold Zu at h
 split at h
 ·cases h
  simp only[Zb,List.getD_eq_getElem?_getD]
  cases hq:p.ts[i]? with
  | none=>simp
  | some t=>exact p.hs t (List.mem_of_getElem? hq)
 ·cases h
theorem qNum (p:PS) (i:Nat):CF 98 [.ptr 0 0] (p.o i) (PRes p (.int .i64 ·) (Z1t p.ts i)):=by
 have hn:=Z9F p i 3 (by decide)
 unfold Z1t
 cases hx:Zu p.ts 3 i with
 | ok s j =>
  rw[show ((3:Nat):Int)=3 from rfl,hx] at hn
  refine CallL.tree Z7 fp98 (Z8 Z3 (Z2 _ _ _ _)) (Zbn p.ts i j 0 s true p.so Go.undef p.r1 p.r2 p.r3) ?_
  have hs:=Zce p hx
  cases ha:Lib.atoiAll s <;> simp only[SS,PR.bind,Ps.Zl1,ha] <;> refine⟨⟨hn, ?_⟩,nofun⟩ <;> first | exact⟨⟨by omega,rfl,rfl⟩,nofun⟩ | exact⟨nofun,by omega,rfl,rfl⟩
 | bad a e =>
  rw[show ((3:Nat):Int)=3 from rfl,hx] at hn
  refine CallL.tree Z7 fp98 (Z8 Z3 (Z2 _ _ _ _)) (Zbn p.ts i 0 0 [] false p.so (fltV a e) p.r1 p.r2 p.r3) ?_
  simp only[SS]
  exact⟨nofun,⟨hn,rfl,rfl⟩⟩
end Go.Proofs.YtecgehidegnmnaaGreatDoor
/- The parser: more,comparisons. -/
namespace Go.Proofs.YtecgehidegnmnaaGreatDoor
open Go.Sx
open Go.Sx.Lx (Tk Zq)
noncomputable def Zk0 (ts:List Tk) (i n:Int) (so:Bool) (v:Value) (r1 r2 r3:LD):Tr:=brT (decide ((400:Int)<=n)) (Ow (CQ 54 [dP 0 0,dI 5] (psO ts i so r1 r2 r3) (D.pan v) []) (Rt (D.pan v) [])) (Rt (D.tuple []) (psO ts i so r1 r2 r3))
theorem Zd7 (ts:List Tk) (i n:Int) (so:Bool) (v:Value) (r1 r2 r3:LD):gC (ctr libT (psB false D.nils [] v)) 10 rs59 sc59 [] [dP 0 0,dI n] [] (psO ts i so r1 r2 r3)=Zk0 ts i n so v r1 r2 r3:=by kernel_rfl
theorem Z9G (p:PS) (i n:Nat):CF 59 [.ptr 0 0,.int .i64 n] (p.o i) (PRes p (fun _=> .tuple []) (Zd n i)):=by
 refine CallL.tree Z7 fp59 (Z8 Z3 (Z2 _ _ _ _)) (Zd7 p.ts i n p.so (fltV i 5) p.r1 p.r2 p.r3) ?_
 unfold Zk0 Zd
 simp only[SS]
 refine⟨fun h=> ?_,fun h=> ?_⟩
 ·rw[if_pos (by omega)]; exact⟨QQ p i 5,rfl,rfl⟩
 ·rw[if_neg (by omega)]; exact⟨rfl,rfl⟩
theorem Zdj:gP (ctr libT) Zfx ZeK []=(Rt (D.own 1 9 [[dS [61]],[dS [33,61]],[dS [60]],[dS [60,61]],[dS [62]],[dS [62,61]]]) []:Tr):=by kernel_rfl
def ZcD:PT:=fun f xs=>if f=167 then (match xs with
  | []=>some (.ok True (.own 1 9 [[.str [61]],[.str [33,61]],[.str [60]],[.str [60,61]],[.str [62]],[.str [62,61]]]) [])
  | _=>none) else idxP f xs
theorem Z7w:ZcD.OK:=by
 intro f xs rt h
 unfold ZcD at h
 split at h
 ·rename_i hf; subst hf
  split at h
  ·cases h
   exact fun _=>FnOK.tree Z7 Zj1 (Z8 Z3 Z5) Zdj rfl
  ·cases h
 ·exact Z68 _ _ _ h
theorem Zes {pt:PT} (hp:pt.OK) (n:Nat) {q1 q2:QT} (h1:q1.OK) (h2:q2.OK):(⟨fun _=>pt,fun m=>if m=n then q1 else q2,noE⟩:Ctr).OK Tryz.prog:=by
 refine⟨fun _=>hp,fun m=> ?_⟩
 show QT.OK (if m=n then q1 else q2)
 split
 ·exact h1
 ·exact h2
noncomputable def Zkf (ts:List Tk) (i k o:Int) (s:LU) (so:Bool) (v:Value) (r1 r2 r3:LD):Tr:=Ow True (Ow (CQ 58 [dP 0 0] (psO ts i so r1 r2 r3) (dA [dU k,dS s,dI o]) (psO ts i so r1 r2 r3)) (Ow ([[dS [61]],[dS [33,61]],[dS [60]],[dS [60,61]],[dS [62]],[dS [62,61]]]=[[dS [61]],[dS [33,61]],[dS [60]],[dS [60,61]],[dS [62]],[dS [62,61]]]/\6<=4611686018427387904) (brT (decide (idxS s [[(61:UInt8)],[(33:UInt8),(61:UInt8)],[(60:UInt8)],[(60:UInt8),(61:UInt8)],[(62:UInt8)],[(62:UInt8),(61:UInt8)]] (0:Int)<(0:Int))) (Ow (CQ 54 [dP 0 0,dI 40] (psO ts i so r1 r2 r3) (D.pan v) []) (Rt (D.pan v) [])) (Ow (CQ 58 [dP 0 0] (psO ts i so r1 r2 r3) (dA [dU k,dS s,dI o]) (psO ts i so r1 r2 r3)) (brT (!decide (k=(6:Int))) (Ow (CQ 54 [dP 0 0,dI 40] (psO ts i so r1 r2 r3) (D.pan v) []) (Rt (D.pan v) [])) (I8 (i+(1:Int)) (Rt (dU (IntKind.wrap IntKind.u8 (IntKind.wrap IntKind.u8 (idxS s [[(61:UInt8)],[(33:UInt8),(61:UInt8)],[(60:UInt8)],[(60:UInt8),(61:UInt8)],[(62:UInt8)],[(62:UInt8),(61:UInt8)]] (0:Int))+(1:Int)))) [(0,oC [dL (List.map Zq ts) [],dI (i+(1:Int)),dV 1,dV 2,dV 3,dB so]),(1,oR true 20 42 r1),(2,oR true 5 53 r2),(3,oR true 2 138 r3)])))))))
theorem Zdi (ts:List Tk) (i k o:Int) (s:LU) (so:Bool) (v:Value) (r1 r2 r3:LD):goT Tryz.prog { F:=fun x=>ZcD,C:=fun n=>if n=24 then psB false D.nils [] v else psQ (dA [dU k,dS s,dI o]) (psO ts i so r1 r2 r3),E:=noE } 10 (finF false 10 Zfw) 2000 [Fr.sc ZeJ] { tm:=Zv 0 ([]++[dP 0 0]++[]),ob:=psO ts i so r1 r2 r3 }=Zkf ts i k o s so v r1 r2 r3:=by kernel_rfl
theorem Zac (t:LU): ∀ (l:List (LU)) (i:Int),idxS t l i<i+l.length\/idxS t l i= -1
 | [],i=> .inr rfl
 | x::l,i=>by
  simp only[idxS]
  split
  ·left; simp only[List.length_cons]; omega
  ·have:=Zac t l (i+1)
   simp only[List.length_cons]; omega
theorem Z8D {n:Int} (h1:0<=n) (h2:n<256):IntKind.u8.wrap n=n:=by
 simp only[IntKind.wrap,IntKind.signed,IntKind.bits]
 simp
 omega
theorem Zg4 (p:PS) (i:Nat):CF 168 [.ptr 0 0] (p.o i) (PRes p (fun n:Nat=> .int .u8 n) (Ze p.ts i)):=by
 refine CallL.tree Z7 Zj0 (Zes Z7w 24 (Z2 _ _ _ _) (Zi _ _)) (Zdi p.ts i (Zb p.ts i).1 (Zb p.ts i).2.2 (Zb p.ts i).2.1 p.so (fltV i 40) p.r1 p.r2 p.r3) ?_
 unfold Zkf Ze
 have hp:=p.hl
 have hi:=Zac (Zb p.ts i).2.1 cmpL 0
 simp only[SS]
 refine⟨Z3p p i,by decide,fun h=> ?_,fun h=>⟨Z3p p i,fun h2=> ?_,fun h2=> ?_⟩⟩
 ·have h':idxS (Zb p.ts i).2.1 cmpL 0<0:=by first | exact of_decide_eq_true h | exact h
  rw[if_pos (.inl h')]; exact⟨QQ p i 40,rfl,rfl⟩
 ·rw[if_pos (.inr h2)]; exact⟨QQ p i 40,rfl,rfl⟩
 ·have hlt:=Z0j (ts:=p.ts) (i:=i) (by rw[h2]; decide)
  have hge: ¬ idxS (Zb p.ts i).2.1 cmpL 0<0:=by first | exact of_decide_eq_false h | exact h
  have h6:cmpL.length=6:=rfl
  rw[h6] at hi
  refine⟨by omega, ?_⟩
  rw[if_neg (by rintro (h | h); exact hge h; exact h h2)]
  change PRes p _ _ (dU (IntKind.u8.wrap (IntKind.u8.wrap (idxS (Zb p.ts i).2.1 cmpL 0)+1))) _
  rw[Z8D (n:=idxS (Zb p.ts i).2.1 cmpL 0) (by omega) (by omega),Z8D (by omega) (by omega)]
  refine⟨?_,rfl⟩
  congr 1
  omega
end Go.Proofs.YtecgehidegnmnaaGreatDoor
/- The parser: lists. -/
namespace Go.Proofs.YtecgehidegnmnaaGreatDoor
open Go.Sx
open Go.Sx.Lx (Tk Zq)
theorem Zk4 (ts:List Tk) (i:Int) (g:Nat) (m:Int) (sg:LU) (so:Bool) (r1 r2 r3:LD):gC (ctr libT) 10 Z9r Z7X [] [dP 0 0,dI m,dS sg,dF g [dP 0 0] []] [] (psO ts i so r1 r2 r3)=(Jm (cut Z7X 0) { tm:=[(0,dP 0 0),(1,dI m),(2,dS sg),(3,dF g [dP 0 0] []),(8,dV 10)],ob:=[(0,oC [dL (List.map Zq ts) [],dI i,dV 1,dV 2,dV 3,dB so]),(1,oR true 20 42 r1),(2,oR true 5 53 r2),(3,oR true 2 138 r3),(10,oR true 4 39 [])] }:Tr):=by kernel_rfl
def hdLt (ts:List Tk) (i:Int) (g:Nat) (m:Int) (sg:LU) (so:Bool) (r1 r2 r3 out:LD):St:=⟨[(0,.ptr 0 0),(1,.int .i64 m),(2,.str sg),(3,.func (.func g) [.ptr 0 0] []),(8,.vec 10)],psO ts i so r1 r2 r3++[(10,.arr true 4 39 out)]⟩
theorem Z6t (ts:List Tk) (i j k:Int) (g:Nat) (m:Int) (sg:LU) (so b c:Bool) (kk nn:Int) (s:LU) (a:LD) (v:Value) (r1 r2 r3 out:LD):let A:=[(0,oC [dL (List.map Zq ts) [],dI k,dV 1,dV 2,dV 3,dB so]),(1,oR true 20 42 r1),(2,oR true 5 53 r2),(3,oR true 2 138 r3),(10,oR true 4 39 (out++[[dU kk,dI nn,dS s,dL a []]]))];let B:=[dU kk,dI nn,dS s,dL a []];let G:=psO ts j so r1 r2 r3;let H:=psO ts i so r1 r2 r3;let I:=psO ts k so r1 r2 r3;let J:=dF g [dP 0 0] [];let K:=D.pan v;let L:=cut Z7X 0;goT Tryz.prog { F:=fun x=>libT,C:=fun n=>if n=16 then psB false D.nils [] v else if n=19 then psB b (dA B) G v else psQ (dB c) I,E:=noE } 10 (finF false 10 Z9r) 2000 L (hdLt ts i g m sg so r1 r2 r3 out)=(brT (decide (m<=(↑(List.length out):Int))) (Ow (CQ 54 [dP 0 0,dI 5] H K []) (Rt K [])) (brT b (Ow (CallL Tryz.prog J [] H fun r0 ob0=>r0=dA B/\ob0=G) (Ow (Zr 4 [B]/\List.length out+1<=1073741824) (Ow (CQ 66 [dP 0 0,dL [[dS sg]] []] G (dB c) I) (brT (!c) (Rt (dV 10) A) (Jm L { tm:=[(0,dP 0 0),(1,dI m),(2,dS sg),(3,dF g [dP 0 0] []),(8,dV 10)],ob:=A }))))) (Ow (CallL Tryz.prog J [] H fun r0 ob0=>r0=D.pan v/\ob0=[]) (Rt K []))):Tr):=by intro A B G H I J K L;kernel_rfl
def LRes {α:Type} (p:PS) (n e:Nat) (enc:α->List D) (x:PR (List α)):D->Obs->Prop:=fun r ob=>match x with
 | .ok l j=>r= .vec 10/\ob=p.o j++[(10,.arr true n e (l.map enc))]
 | .bad a e=>r= .pan (fltV a e)/\ob=[]
theorem Za2 {α:Type} {p:PS} {n e:Nat} {enc:α->List D} {x:PR (List α)} {d:D} {ys:List D} {ob:Obs} (h:CallL Tryz.prog d ys ob (LRes p n e enc x)):CallL Tryz.prog d ys ob (PRes p (fun l:List α=> .slice (l.map enc) []) x):=by
 cases x with
 | ok l j=>exact CallL.vecR (ob0:=p.o j) (by rfl) h
 | bad a e=>exact h
theorem Z4 {n m:Nat} {a b:QT} (ha:a.OK) (hb:b.OK):QT.OK (if n=m then a else b):=by
 split
 ·exact ha
 ·exact hb
theorem ZF {pt:PT} (hp:pt.OK) {q:Nat->QT} (hq: ∀ n,(q n).OK):(⟨fun _=>pt,q,noE⟩:Ctr).OK Tryz.prog:=⟨fun _=>hp,hq⟩
theorem Z0F {b1:Bool} {r1 r2 r3:D} {o1 o2 o3:Obs} {v:Value}:(⟨fun _=>libT,fun n=>if n=16 then psB false r1 o1 v else if n=19 then psB b1 r2 o2 v else psQ r3 o3,noE⟩:Ctr).OK Tryz.prog:=ZF Z3 fun n=>Z4 (Z2 _ _ _ _) (Z4 (Z2 _ _ _ _) (Zi _ _))
theorem qLt2 (p:PS) (g most:Nat) (sg:LU) (item:Nat->PR Tm) (i0:Nat) (hm:most<=1000)
  (hI: ∀ k,i0<=k->CallL Tryz.prog (.func (.func g) [.ptr 0 0] []) [] (p.o k) (PRes p (fun t:Tm=> .agg t.cells) (item k)))
  (hG: ∀ k a j,i0<=k->item k= .ok a j->k<=j): ∀ (n:Nat) (out:List Tm) (i:Nat),i0<=i->most+1<=n+out.length->out.length<=most →
  At Tryz.prog 10 (cut Z7X 0) (hdLt p.ts i g most sg p.so p.r1 p.r2 p.r3 (out.map Tm.cells)) (FinQ false 10 Z9r (LRes p 4 39 Tm.cells (Z10 p.ts most sg item n out i)))
 | 0,out,i,hi,hn,ho=>by omega
 | n+1,out,i,hi,hn,ho=>by
  unfold Z10
  have hc:=hI i hi
  by_cases hlen:most<=out.length
  ·rw[if_pos hlen]
   refine At.tree Z0F (Z6t p.ts i 0 0 g most sg p.so false false 0 0 [] [] (fltV i 5) p.r1 p.r2 p.r3 (out.map Tm.cells)) ?_
   simp only[SS,List.length_map]
   exact⟨fun _=>⟨QQ p i 5,rfl,rfl⟩,fun h=>by omega⟩
  ·rw[if_neg hlen]
   cases hx:item i with
   | bad a e =>
    rw[hx] at hc
    refine At.tree Z0F (Z6t p.ts i 0 0 g most sg p.so false false 0 0 [] [] (fltV a e) p.r1 p.r2 p.r3 (out.map Tm.cells)) ?_
    simp only[SS,List.length_map]
    exact⟨fun h=>by omega,fun _=>⟨nofun,hc,rfl,rfl⟩⟩
   | ok t j =>
    rw[hx] at hc
    cases t with
    | mk k m s l =>
     have ht:=Q6 p j [sg] [] (by simp)
     refine At.tree Z0F (Z6t p.ts i j ((if Z1 p.ts j [sg]=true then j+1 else j:Nat):Int) g most sg p.so true (Z1 p.ts j [sg]) k m s (Tm.cellsL l) Go.undef p.r1 p.r2 p.r3 (out.map Tm.cells)) ?_
     simp only[SS,List.length_map]
     refine⟨fun h=>by omega,fun _=>⟨⟨hc,⟨by simp[Zr],by omega⟩,ht, ?_⟩,nofun⟩⟩
     have hij:=hG i _ j hi hx
     have e:out.map Tm.cells++[[.int .u8 k,.int .i64 m,.str s,.slice (Tm.cellsL l) []]]=(out++[Tm.mk k m s l]).map Tm.cells:=by simp[Tm.cells]
     rw[e]
     cases hs:Z1 p.ts j [sg] with
     | true =>
      refine⟨nofun,fun _=> ?_⟩
      have:=qLt2 p g most sg item i0 hm hI hG n (out++[Tm.mk k m s l]) (j+1) (by omega) (by simp; omega) (by simp; omega)
      simp only[PR.bind,hs,if_true]
      exact this
     | false =>
      refine⟨fun _=> ?_,nofun⟩
      simp only[PR.bind,hs,Bool.false_eq_true,if_false]
      exact⟨rfl,rfl⟩
theorem ZdQ (p:PS) (g most:Nat) (sg:LU) (item:Nat->PR Tm) (i:Nat) (hm:most<=1000)
  (hI: ∀ k,i<=k->CallL Tryz.prog (.func (.func g) [.ptr 0 0] []) [] (p.o k) (PRes p (fun t:Tm=> .agg t.cells) (item k)))
  (hG: ∀ k a j,i<=k->item k= .ok a j->k<=j):CF 166 [.ptr 0 0,.int .i64 most,.str sg,.func (.func g) [.ptr 0 0] []] (p.o i) (PRes p (fun l:List Tm=> .slice (Tm.cellsL l) []) (Ps.Qi p.ts most sg item i)):=by
 have e:(fun l:List Tm=>dL (Tm.cellsL l) [])=fun l:List Tm=>dL (l.map Tm.cells) []:=funext fun l=>by rw[Z01]
 rw[e]
 refine Za2 (n:=4) (e:=39) ?_
 refine CallL.tree Z7 Zj2 (Z8 Z3 Z5) (Zk4 p.ts i g most sg p.so p.r1 p.r2 p.r3) ?_
 exact qLt2 p g most sg item i hm hI hG (most+1) [] i (Nat.le_refl _) (by simp) (by simp)
end Go.Proofs.YtecgehidegnmnaaGreatDoor
/- The parser in a box. -/
namespace Go.Proofs.YtecgehidegnmnaaGreatDoor
open Go.Sx
open Go.Sx.Lx (Tk Zq)
def psQ0 (ts:List Tk) (i:Int) (so:Bool) (r1 r2 r3:LD):Obs:=[(0,.cells [.ptr 1 0]),(1,.cells [.slice (ts.map Zq) [],.int .i64 i,.vec 2,.vec 3,.vec 4,.bool so]),(2,.arr true 20 42 r1),(3,.arr true 5 53 r2),(4,.arr true 2 138 r3)]
def PS.oq (p:PS) (i:Nat):Obs:=psQ0 p.ts i p.so p.r1 p.r2 p.r3
def Z5l {α:Type} (p:PS) (enc:α->D) (x:PR α):D->Obs->Prop:=fun r ob=>match x with
 | .ok a j=>r=enc a/\ob=p.oq j
 | .bad a e=>r= .pan (fltV a e)/\ob=[]
def psO1 (ts:List Tk) (i:Int) (so:Bool) (r1 r2 r3:LD):Obs:=[(0,.cells [.slice (ts.map Zq) [],.int .i64 i,.vec 2,.vec 3,.vec 4,.bool so]),(1,.cells [.ptr 0 0]),(2,.arr true 20 42 r1),(3,.arr true 5 53 r2),(4,.arr true 2 138 r3)]
def PS.ob (p:PS) (i:Nat):Obs:=psO1 p.ts i p.so p.r1 p.r2 p.r3
def Zbl {α:Type} (p:PS) (enc:α->D) (x:PR α):D->Obs->Prop:=fun r ob=>match x with
 | .ok a j=>r=enc a/\ob=p.ob j
 | .bad a e=>r= .pan (fltV a e)/\ob=[]
def RW {α:Type} (os:Nat->Obs) (enc:α->D) (x:PR α):D->Obs->Prop:=fun r ob=>match x with
 | .ok a j=>r=enc a/\ob=os j
 | .bad a e=>r= .pan (fltV a e)
def Zdo {α:Type} (p:PS) (n e:Nat) (enc:α->List D) (x:PR (List α)):D->Obs->Prop:=fun r ob=>match x with
 | .ok l j=>r= .vec 10/\ob=p.ob j++[(10,.arr true n e (l.map enc))]
 | .bad a e=>r= .pan (fltV a e)
theorem Z1Z {α:Type} {p:PS} {n e:Nat} {enc:α->List D} {x:PR (List α)} {d:D} {ys:List D} {ob:Obs} (h:CallL Tryz.prog d ys ob (Zdo p n e enc x)):CallL Tryz.prog d ys ob (Zbl p (fun l:List α=> .slice (l.map enc) []) x):=by
 cases x with
 | ok l j=>exact CallL.vecR (ob0:=p.ob j) (by rfl) h
 | bad a e=>exact CallL.pdrop h fun _ _ h=>h
end Go.Proofs.YtecgehidegnmnaaGreatDoor
/- every,subterms,visit. -/
namespace Go.Proofs.YtecgehidegnmnaaGreatDoor
open Go.Sx
abbrev tC (k n:Int) (s:LU) (a:LD):List D:=[.int .u8 k,.int .i64 n,.str s,.slice a []]
section
variable {h:Tm->Bool} {f:FuncId} (H: ∀ x:Tm,x.wf 281474976710656->CallL Tryz.prog (.func (.func f) [] []) [.agg x.cells] [] fun r ob=>r= .bool (h x)/\ob=[])
include H
end
end Go.Proofs.YtecgehidegnmnaaGreatDoor
