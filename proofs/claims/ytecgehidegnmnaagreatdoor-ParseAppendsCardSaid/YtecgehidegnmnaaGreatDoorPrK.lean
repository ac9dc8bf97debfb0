/- Own work: a layer over the kit: plain data,a walk over it,its soundness. -/
import Derived.Test.YtecgehidegnmnaaGreatDoorPrF
import Derived.Test.YtecgehidegnmnaaGreatDoorPrB
import Derived.Test.YtecgehidegnmnaaGreatDoorShape
set_option linter.unusedSectionVars false
set_option linter.unusedVariables false
set_option linter.unusedSimpArgs false
set_option linter.deprecated false
set_option maxRecDepth 100000
/- The parser: atoms and literals. -/
open Go.Sx.Ps (Am Z9 Zp fu z0 ZI PR ZA QK Qa cmpL Z6 Zn Ze ZX Z10 Z1 Qi Zb tkP Z1S zL Qe)
namespace Go.Proofs.YtecgehidegnmnaaGreatDoor
open Go.Sx
open Go.Sx.Lx (Tk Zq)
open Go.Sx.Ps (kT nmT W Sm)
abbrev amE (a:Am):D:= .agg [.str a.1,.slice (Tm.cellsL a.2) []]
abbrev ltE (l:Lt):D:= .agg [.int .u8 l.k,.bool l.no,.str l.p,.slice (Tm.cellsL l.a) [],.int .u8 l.op,.int .u8 (kT l.l:Nat),.int .i64 (nT l.l),.str (nmT l.l),.slice (Tm.cellsL (Ps.arT l.l)) [],.int .u8 (kT l.r:Nat),.int .i64 (nT l.r),.str (nmT l.r),.slice (Tm.cellsL (Ps.arT l.r)) []]
abbrev eiE (x:Am × Tm × Bool):D:= .tuple [amE x.1,tmE x.2.1,.bool x.2.2]
theorem Za1 (l:Lt):ltE l= .agg (Lt.c l):=by
 obtain⟨k,no,q,a,op,⟨k1,n1,s1,a1⟩,⟨k2,n2,s2,a2⟩⟩:=l; rfl
theorem Z3o (p:PS) (i:Nat):Mth 51 (p.o i) (RS p.o tmE (Z9 p.ts i)):=by
 refine Mth.rs (Mth.tree fp51 (ZF Z3 fun _=>(Z4 (Z2 _ _ _ _) (Z2 _ _ _ _))) (ZcW p.ts i p.so  (Zp p.ts (fu p.ts) i).isOk (kT ((Zp p.ts (fu p.ts) i).val z0):Nat) (nT ((Zp p.ts (fu p.ts) i).val z0)) (nmT ((Zp p.ts (fu p.ts) i).val z0)) (Tm.cellsL (Ps.arT ((Zp p.ts (fu p.ts) i).val z0))) (Zp p.ts (fu p.ts) i).pos (flt (Zp p.ts (fu p.ts) i)) (ZI ((Zp p.ts (fu p.ts) i).val z0) 12 i (Zp p.ts (fu p.ts) i).pos).isOk (kT ((ZI ((Zp p.ts (fu p.ts) i).val z0) 12 i (Zp p.ts (fu p.ts) i).pos).val z0):Nat) (nT ((ZI ((Zp p.ts (fu p.ts) i).val z0) 12 i (Zp p.ts (fu p.ts) i).pos).val z0)) (nmT ((ZI ((Zp p.ts (fu p.ts) i).val z0) 12 i (Zp p.ts (fu p.ts) i).pos).val z0)) (Tm.cellsL (Ps.arT ((ZI ((Zp p.ts (fu p.ts) i).val z0) 12 i (Zp p.ts (fu p.ts) i).pos).val z0))) (ZI ((Zp p.ts (fu p.ts) i).val z0) 12 i (Zp p.ts (fu p.ts) i).pos).pos (flt (ZI ((Zp p.ts (fu p.ts) i).val z0) 12 i (Zp p.ts (fu p.ts) i).pos)) p.r1 p.r2 p.r3) ?_)
 unfold ZjY Z9
 simp only[SS]
 refine psX z0 (Z9E p i).1 (fun t j h1=> ?_) fun a e h1=> ?_
 ·have hs:=Z9M p h1
  simp only[h1,PR.bind,PR.pos,PR.val]
  refine psX z0 (qFit p t hs.1 hs.2 12 i j) (fun u m h2=> ?_) fun a e h2=> ?_
  ·simp only[h2,PR.pos,PR.val]; exact⟨rfl,rfl⟩
  ·simp only[h2]; exact rfl
 ·simp only[h1,PR.bind]; exact rfl
theorem Zal {t u:Tm} {m a j k:Nat} (h:ZI t m a j= .ok u k):u=t/\k=j:=by
 unfold ZI at h
 split at h <;> cases h
 exact⟨rfl,rfl⟩
theorem Z9I (p:PS) (t:Tm) (ht:Ps.Sh t) (hd:t.depth<=1000000000) (at' i:Nat):CF 147 [.ptr 0 0,tmE t,.int .i64 at'] (p.o i) (RS p.o amE (ZA t at' i)):=by
 refine Z0L (CallL.tree Z7 Zj9 (ZF Z3 fun _=>(Z2 _ _ _ _)) (Zhz p.ts i p.so at' (kT t:Nat) (nT t) (nmT t) (Tm.cellsL (Ps.arT t)) (ZI t 13 at' i).isOk (kT ((ZI t 13 at' i).val z0):Nat) (nT ((ZI t 13 at' i).val z0)) (nmT ((ZI t 13 at' i).val z0)) (Tm.cellsL (Ps.arT ((ZI t 13 at' i).val z0))) (ZI t 13 at' i).pos (flt (ZI t 13 at' i)) p.r1 p.r2 p.r3) ?_)
 unfold PAof ZA
 simp only[SS]
 refine psX z0 (qFit p t ht hd 13 at' i) (fun u m h2=> ?_) fun a e h2=> ?_
 ·obtain⟨rfl,rfl⟩:=Zal h2
  simp only[h2,PR.pos,PR.val,PR.bind]; exact⟨rfl,rfl⟩
 ·simp only[h2,PR.bind]; exact rfl
theorem Zg5 (p:PS) (i:Nat):Mth 111 (p.o i) (RS p.o amE (QK p.ts i)):=by
 refine Mth.rs (Mth.tree Zjr (ZF Z3 fun _=>(Z4 (Z2 _ _ _ _) (Z2 _ _ _ _))) (Zdn p.ts i p.so  (Qa p.ts (fu p.ts) i).isOk (kT ((Qa p.ts (fu p.ts) i).val z0):Nat) (nT ((Qa p.ts (fu p.ts) i).val z0)) (nmT ((Qa p.ts (fu p.ts) i).val z0)) (Tm.cellsL (Ps.arT ((Qa p.ts (fu p.ts) i).val z0))) (Qa p.ts (fu p.ts) i).pos (flt (Qa p.ts (fu p.ts) i)) (ZA ((Qa p.ts (fu p.ts) i).val z0) i (Qa p.ts (fu p.ts) i).pos).isOk ((ZA ((Qa p.ts (fu p.ts) i).val z0) i (Qa p.ts (fu p.ts) i).pos).val ([],[])).1 (Tm.cellsL ((ZA ((Qa p.ts (fu p.ts) i).val z0) i (Qa p.ts (fu p.ts) i).pos).val ([],[])).2) (ZA ((Qa p.ts (fu p.ts) i).val z0) i (Qa p.ts (fu p.ts) i).pos).pos (flt (ZA ((Qa p.ts (fu p.ts) i).val z0) i (Qa p.ts (fu p.ts) i).pos)) p.r1 p.r2 p.r3) ?_)
 unfold Zkj QK
 simp only[SS]
 refine psX z0 (Zg2 p i).1 (fun t j h1=> ?_) fun a e h1=> ?_
 ·have hs:=Zcg p h1
  simp only[h1,PR.bind,PR.pos,PR.val]
  refine psX ([],[]) (Z9I p t hs.1.1 hs.2 i j) (fun u m h2=> ?_) fun a e h2=> ?_
  ·simp only[h2,PR.pos,PR.val]; exact⟨rfl,rfl⟩
  ·simp only[h2]; exact rfl
 ·simp only[h1,PR.bind]; exact rfl
theorem Zit (p:PS) (no:Bool) (i:Nat) (hE:CF 110 [.ptr 0 0,.slice (strC cmpL) []] (p.o i) (RS p.o eiE (Z6 p.ts cmpL i))):CF 139 [.ptr 0 0,.bool no] (p.o i) (RS p.o ltE (Zn p.ts no i)):=by
 refine Z0L (CallL.tree Z7 Zjf (ZF Z7w fun _=>(Z4 (Z2 _ _ _ _) (Z4 (Z2 _ _ _ _) (Z4 (Z2 _ _ _ _) (Z2 _ _ _ _))))) (Zdb p.ts i p.so no (QK p.ts i).isOk ((QK p.ts i).val ([],[])).1 (Tm.cellsL ((QK p.ts i).val ([],[])).2) (QK p.ts i).pos (flt (QK p.ts i)) (Z6 p.ts cmpL i).isOk ((Z6 p.ts cmpL i).val (([],[]),z0,false)).1.1 (Tm.cellsL ((Z6 p.ts cmpL i).val (([],[]),z0,false)).1.2) (kT ((Z6 p.ts cmpL i).val (([],[]),z0,false)).2.1:Nat) (nT ((Z6 p.ts cmpL i).val (([],[]),z0,false)).2.1) (nmT ((Z6 p.ts cmpL i).val (([],[]),z0,false)).2.1) (Tm.cellsL (Ps.arT ((Z6 p.ts cmpL i).val (([],[]),z0,false)).2.1)) ((Z6 p.ts cmpL i).val (([],[]),z0,false)).2.2 (Z6 p.ts cmpL i).pos (flt (Z6 p.ts cmpL i)) (Ze p.ts (Z6 p.ts cmpL i).pos).isOk (((Ze p.ts (Z6 p.ts cmpL i).pos).val 0):Nat) (Ze p.ts (Z6 p.ts cmpL i).pos).pos (flt (Ze p.ts (Z6 p.ts cmpL i).pos)) (Z9 p.ts (Ze p.ts (Z6 p.ts cmpL i).pos).pos).isOk (kT ((Z9 p.ts (Ze p.ts (Z6 p.ts cmpL i).pos).pos).val z0):Nat) (nT ((Z9 p.ts (Ze p.ts (Z6 p.ts cmpL i).pos).pos).val z0)) (nmT ((Z9 p.ts (Ze p.ts (Z6 p.ts cmpL i).pos).pos).val z0)) (Tm.cellsL (Ps.arT ((Z9 p.ts (Ze p.ts (Z6 p.ts cmpL i).pos).pos).val z0))) (Z9 p.ts (Ze p.ts (Z6 p.ts cmpL i).pos).pos).pos (flt (Z9 p.ts (Ze p.ts (Z6 p.ts cmpL i).pos).pos)) p.r1 p.r2 p.r3) ?_)
 unfold Zk5 Zn
 simp only[SS]
 refine⟨fun hn=> ?_,fun hn=> ?_⟩
 ·rw[if_pos hn]
  refine psX ([],[]) (Zg5 p i).1 (fun t j h1=> ?_) fun a e h1=> ?_
  ·simp only[h1,PR.bind,PR.pos,PR.val]; exact⟨rfl,rfl⟩
  ·simp only[h1,PR.bind]; exact rfl
 ·rw[if_neg (by simp[hn])]
  refine psX (([],[]),z0,false) hE (fun x j h1=> ?_) fun a e h1=> ?_
  ·simp only[h1,PR.bind,PR.pos,PR.val]
   refine⟨fun h2=> ?_,fun h2=> ?_⟩
   ·rw[if_pos h2]; exact⟨rfl,rfl⟩
   ·rw[if_neg (by simp[h2])]
    refine psX 0 (ZH (Zg4 p j)) (fun n k h3=> ?_) fun a e h3=> ?_
    ·simp only[h3,PR.bind,PR.pos,PR.val]
     refine psX z0 (Z3o p k).1 (fun u m h4=> ?_) fun a e h4=> ?_
     ·simp only[h4,PR.pos,PR.val]; exact⟨rfl,rfl⟩
     ·simp only[h4]; exact rfl
    ·simp only[h3,PR.bind]; exact rfl
  ·simp only[h1,PR.bind]; exact rfl
theorem qTup (p:PS) (i:Nat):Mth 136 (p.o i) (RS p.o (fun l:List Tm=> .slice (Tm.cellsL l) []) (ZX p.ts i)):=by
 refine Mth.rs (Mth.tree Zji (ZF Z3 fun _=>(Z2 _ _ _ _)) (Zhb p.ts i p.so  (ZX p.ts i).isOk (Tm.cellsL ((ZX p.ts i).val [])) (ZX p.ts i).pos (flt (ZX p.ts i)) p.r1 p.r2 p.r3) ?_)
 have hl:=ZH (ZdQ p 51 64 [44] (Z9 p.ts) i (by decide) (fun k hk=>(Z3o p k).2.mono fun r ob h=>by
   unfold RS at h; unfold PRes
   cases hq:Z9 p.ts k with
   | ok a m=>rw[hq] at h; simp only at h ⊢; rw[<- Z6O]; exact h
   | bad a e=>rw[hq] at h; exact h) fun k a j _ hx=>w_le (Ps.Z29 (Sm.self p.ts) k) hx)
 simp only[SS]
 refine psX [] hl (fun l j h1=> ?_) fun a e h1=> ?_
 ·change ZX p.ts i=_ at h1
  simp only[h1,PR.pos,PR.val]; exact⟨rfl,rfl⟩
 ·change ZX p.ts i=_ at h1
  simp only[h1]; exact rfl
end Go.Proofs.YtecgehidegnmnaaGreatDoor
/- The parser: lists of api.Lit. -/
namespace Go.Proofs.YtecgehidegnmnaaGreatDoor
open Go.Sx
open Go.Sx.Lx (Tk Zq)
theorem Zk6 (ts:List Tk) (i:Int) (g:Nat) (m:Int) (sg:LU) (so:Bool) (r1 r2 r3:LD):gC (ctr libT) 10 Z9t Z7Z [] [dP 0 0,dI m,dS sg,dF g [] [dP 1 0]] [] (psO1 ts i so r1 r2 r3)=(Jm (cut Z7Z 0) { tm:=[(0,dP 0 0),(1,dI m),(2,dS sg),(3,dF g [] [dP 1 0]),(8,dV 10)],ob:=[(0,oC [dL (List.map Zq ts) [],dI i,dV 2,dV 3,dV 4,dB so]),(1,oC [dP 0 0]),(2,oR true 20 42 r1),(3,oR true 5 53 r2),(4,oR true 2 138 r3),(10,oR true 13 64 [])] }:Tr):=by kernel_rfl
def hdLL (ts:List Tk) (i:Int) (g:Nat) (m:Int) (sg:LU) (so:Bool) (r1 r2 r3 out:LD):St:=⟨[(0,.ptr 0 0),(1,.int .i64 m),(2,.str sg),(3,.func (.func g) [] [.ptr 1 0]),(8,.vec 10)],psO1 ts i so r1 r2 r3++[(10,.arr true 13 64 out)]⟩
theorem Z6u (ts:List Tk) (i j k:Int) (g:Nat) (m:Int) (sg:LU) (so b c:Bool) (lk:Int) (lno:Bool) (lp:LU) (la:LD) (lop k1 n1 k2 n2:Int) (s1 s2:LU) (a1 a2:LD) (v:Value) (r1 r2 r3 out:LD):let A:=[dU lk,dB lno,dS lp,dL la [],dU lop,dU k1,dI n1,dS s1,dL a1 [],dU k2,dI n2,dS s2,dL a2 []];let B:=[(0,oC [dL (List.map Zq ts) [],dI k,dV 2,dV 3,dV 4,dB so]),(1,oC [dP 0 0]),(2,oR true 20 42 r1),(3,oR true 5 53 r2),(4,oR true 2 138 r3),(10,oR true 13 64 (out++[A]))];let G:=[(0,oC [dP 1 0]),(1,oC [dL (List.map Zq ts) [],dI i,dV 2,dV 3,dV 4,dB so]),(2,oR true 20 42 r1),(3,oR true 5 53 r2),(4,oR true 2 138 r3)];let H:=psO ts k so r1 r2 r3;let I:=dF g [] [dP 0 0];let J:=D.pan v;let K:=cut Z7Z 0;goT Tryz.prog { F:=fun x=>libT,C:=fun n=>if n=16 then psB false D.nils [] v else if n=19 then psB b (dA A) (psQ0 ts j so r1 r2 r3) v else psQ (dB c) H,E:=noE } 10 (finF false 10 Z9t) 2000 K (hdLL ts i g m sg so r1 r2 r3 out)=(brT (decide (m<=(↑(List.length out):Int))) (Ow (CQ 54 [dP 0 0,dI 5] (psO ts i so r1 r2 r3) J []) (Rt J [(1,oC [dP 0 0])])) (brT b (Ow (CallL Tryz.prog I [] G fun r0 ob0=>r0=dA A/\ob0=[(0,oC [dP 1 0]),(1,oC [dL (List.map Zq ts) [],dI j,dV 2,dV 3,dV 4,dB so]),(2,oR true 20 42 r1),(3,oR true 5 53 r2),(4,oR true 2 138 r3)]) (Ow (Zr 13 [A]/\List.length out+1<=1073741824) (Ow (CQ 66 [dP 0 0,dL [[dS sg]] []] (psO ts j so r1 r2 r3) (dB c) H) (brT (!c) (Rt (dV 10) B) (Jm K { tm:=[(0,dP 0 0),(1,dI m),(2,dS sg),(3,dF g [] [dP 1 0]),(8,dV 10)],ob:=B }))))) (Ow (CallL Tryz.prog I [] G fun r0 ob0=>r0=D.pan v/\ob0=[]) (Rt J []))):Tr):=by intro A B G H I J K;kernel_rfl
theorem qLL2 (p:PS) (g most:Nat) (sg:LU) (item:Nat->PR Lt) (i0:Nat) (hm:most<=1000)
  (hI: ∀ k,i0<=k->CallL Tryz.prog (.func (.func g) [] [.ptr 0 0]) [] (p.oq k) (Z5l p (fun t:Lt=> .agg (Lt.c t)) (item k)))
  (hG: ∀ k a j,i0<=k->item k= .ok a j->k<=j): ∀ (n:Nat) (out:List Lt) (i:Nat),i0<=i->most+1<=n+out.length->out.length<=most →
  At Tryz.prog 10 (cut Z7Z 0) (hdLL p.ts i g most sg p.so p.r1 p.r2 p.r3 (out.map Lt.c)) (FinQ false 10 Z9t (Zdo p 13 64 Lt.c (Z10 p.ts most sg item n out i)))
 | 0,out,i,hi,hn,ho=>by omega
 | n+1,out,i,hi,hn,ho=>by
  unfold Z10
  have hc:=hI i hi
  by_cases hlen:most<=out.length
  ·rw[if_pos hlen]
   refine At.tree Z0F (Z6u p.ts i 0 0 g most sg p.so false false 0 false [] [] 0 0 0 0 0 [] [] [] [] (fltV i 5) p.r1 p.r2 p.r3 (out.map Lt.c)) ?_
   simp only[SS,List.length_map]
   exact⟨fun _=>⟨QQ p i 5,rfl⟩,fun h=>by omega⟩
  ·rw[if_neg hlen]
   cases hx:item i with
   | bad a e =>
    rw[hx] at hc
    refine At.tree Z0F (Z6u p.ts i 0 0 g most sg p.so false false 0 false [] [] 0 0 0 0 0 [] [] [] [] (fltV a e) p.r1 p.r2 p.r3 (out.map Lt.c)) ?_
    simp only[SS,List.length_map]
    exact⟨fun h=>by omega,fun _=>⟨nofun,hc,rfl⟩⟩
   | ok t j =>
    rw[hx] at hc
    obtain⟨lk,lno,lp,la,lop,⟨k1,n1,s1,a1⟩,⟨k2,n2,s2,a2⟩⟩:=t
    have ht:=Q6 p j [sg] [] (by simp)
    refine At.tree Z0F (Z6u p.ts i j ((if Z1 p.ts j [sg]=true then j+1 else j:Nat):Int) g most sg p.so true (Z1 p.ts j [sg]) lk lno lp (Tm.cellsL la) lop k1 n1 k2 n2 s1 s2 (Tm.cellsL a1) (Tm.cellsL a2) Go.undef p.r1 p.r2 p.r3 (out.map Lt.c)) ?_
    simp only[SS,List.length_map]
    refine⟨fun h=>by omega,fun _=>⟨⟨hc,⟨by simp[Zr],by omega⟩,ht, ?_⟩,nofun⟩⟩
    have hij:=hG i _ j hi hx
    have e:out.map Lt.c++[[.int .u8 lk,.bool lno,.str lp,.slice (Tm.cellsL la) [],.int .u8 lop,.int .u8 k1,.int .i64 n1,.str s1,.slice (Tm.cellsL a1) [],.int .u8 k2,.int .i64 n2,.str s2,.slice (Tm.cellsL a2) []]]=(out++[(⟨lk,lno,lp,la,lop,.mk k1 n1 s1 a1,.mk k2 n2 s2 a2⟩:Lt)]).map Lt.c:=by simp[Lt.c,Tm.cells]
    rw[e]
    cases hs:Z1 p.ts j [sg] with
    | true =>
     refine⟨nofun,fun _=> ?_⟩
     have:=qLL2 p g most sg item i0 hm hI hG n (out++[(⟨lk,lno,lp,la,lop,.mk k1 n1 s1 a1,.mk k2 n2 s2 a2⟩:Lt)]) (j+1) (by omega) (by simp; omega) (by simp; omega)
     simp only[PR.bind,hs,if_true]
     exact this
    | false =>
     refine⟨fun _=> ?_,nofun⟩
     simp only[PR.bind,hs,Bool.false_eq_true,if_false]
     exact⟨rfl,rfl⟩
theorem Ziu (p:PS) (g most:Nat) (sg:LU) (item:Nat->PR Lt) (i:Nat) (hm:most<=1000)
  (hI: ∀ k,i<=k->CallL Tryz.prog (.func (.func g) [] [.ptr 0 0]) [] (p.oq k) (Z5l p (fun t:Lt=> .agg (Lt.c t)) (item k)))
  (hG: ∀ k a j,i<=k->item k= .ok a j->k<=j):CF 137 [.ptr 0 0,.int .i64 most,.str sg,.func (.func g) [] [.ptr 1 0]] (p.ob i) (Zbl p (fun l:List Lt=> .slice (l.map Lt.c) []) (Qi p.ts most sg item i)):=by
 refine Z1Z (n:=13) (e:=64) ?_
 refine CallL.tree Z7 Zjh (Z8 Z3 Z5) (Zk6 p.ts i g most sg p.so p.r1 p.r2 p.r3) ?_
 exact qLL2 p g most sg item i hm hI hG (most+1) [] i (Nat.le_refl _) (by simp) (by simp)
end Go.Proofs.YtecgehidegnmnaaGreatDoor
/- The parser: an atom or a term; conditions. -/
namespace Go.Proofs.YtecgehidegnmnaaGreatDoor
open Go.Sx
open Go.Sx.Lx (Tk Zq)
open Go.Sx.Ps (kT nmT W Sm)
theorem Zg3 (p:PS) (i:Nat) (l:List (LU)) (ext:LD) (hl:l.length<=1000):CF 110 [.ptr 0 0,.slice (strC l) ext] (p.o i) (RS p.o eiE (Z6 p.ts l i)):=by
 refine Z0L (CallL.tree Z7 Zjs (ZF Z3 fun _=>(Z4 (Zi _ _) (Z4 (Z2 _ _ _ _) (Z4 (Zi _ _) (Z4 (Z2 _ _ _ _) (Z4 (Z2 _ _ _ _) (Z4 (Z2 _ _ _ _) (Z2 _ _ _ _)))))))) (Zdf p.ts i p.so (strC l) ext (Zb p.ts (i)).1 (Zb p.ts (i)).2.2 (Zb p.ts (i)).2.1 (Zp p.ts (fu p.ts) i).isOk (kT ((Zp p.ts (fu p.ts) i).val z0):Nat) (nT ((Zp p.ts (fu p.ts) i).val z0)) (nmT ((Zp p.ts (fu p.ts) i).val z0)) (Tm.cellsL (Ps.arT ((Zp p.ts (fu p.ts) i).val z0))) (Zp p.ts (fu p.ts) i).pos (flt (Zp p.ts (fu p.ts) i)) (Z1 p.ts ((Zp p.ts (fu p.ts) i).pos) l) (ZI ((Zp p.ts (fu p.ts) i).val z0) 12 i (Zp p.ts (fu p.ts) i).pos).isOk (kT ((ZI ((Zp p.ts (fu p.ts) i).val z0) 12 i (Zp p.ts (fu p.ts) i).pos).val z0):Nat) (nT ((ZI ((Zp p.ts (fu p.ts) i).val z0) 12 i (Zp p.ts (fu p.ts) i).pos).val z0)) (nmT ((ZI ((Zp p.ts (fu p.ts) i).val z0) 12 i (Zp p.ts (fu p.ts) i).pos).val z0)) (Tm.cellsL (Ps.arT ((ZI ((Zp p.ts (fu p.ts) i).val z0) 12 i (Zp p.ts (fu p.ts) i).pos).val z0))) (ZI ((Zp p.ts (fu p.ts) i).val z0) 12 i (Zp p.ts (fu p.ts) i).pos).pos (flt (ZI ((Zp p.ts (fu p.ts) i).val z0) 12 i (Zp p.ts (fu p.ts) i).pos)) (ZI ((Zp p.ts (fu p.ts) i).val z0) 12 i (Zp p.ts (fu p.ts) i).pos).isOk (kT ((ZI ((Zp p.ts (fu p.ts) i).val z0) 12 i (Zp p.ts (fu p.ts) i).pos).val z0):Nat) (nT ((ZI ((Zp p.ts (fu p.ts) i).val z0) 12 i (Zp p.ts (fu p.ts) i).pos).val z0)) (nmT ((ZI ((Zp p.ts (fu p.ts) i).val z0) 12 i (Zp p.ts (fu p.ts) i).pos).val z0)) (Tm.cellsL (Ps.arT ((ZI ((Zp p.ts (fu p.ts) i).val z0) 12 i (Zp p.ts (fu p.ts) i).pos).val z0))) (ZI ((Zp p.ts (fu p.ts) i).val z0) 12 i (Zp p.ts (fu p.ts) i).pos).pos (flt (ZI ((Zp p.ts (fu p.ts) i).val z0) 12 i (Zp p.ts (fu p.ts) i).pos)) (fltV ((Zp p.ts (fu p.ts) i).pos) 40) (ZA ((Zp p.ts (fu p.ts) i).val z0) i (Zp p.ts (fu p.ts) i).pos).isOk ((ZA ((Zp p.ts (fu p.ts) i).val z0) i (Zp p.ts (fu p.ts) i).pos).val ([],[])).1 (Tm.cellsL ((ZA ((Zp p.ts (fu p.ts) i).val z0) i (Zp p.ts (fu p.ts) i).pos).val ([],[])).2) (ZA ((Zp p.ts (fu p.ts) i).val z0) i (Zp p.ts (fu p.ts) i).pos).pos (flt (ZA ((Zp p.ts (fu p.ts) i).val z0) i (Zp p.ts (fu p.ts) i).pos)) p.r1 p.r2 p.r3) ?_)
 unfold Zkc Z6
 simp only[SS]
 refine⟨Z3p p i,fun _=> ?_,fun h=> ?_⟩
 ·refine psX z0 (Z9E p i).1 (fun t j h1=> ?_) fun a e h1=> ?_
  ·have hs:=Z9M p h1
   have hf:=qFit p t hs.1 hs.2 12 i j
   have ha:=Z9I p t hs.1 hs.2 i j
   simp only[h1,PR.bind,PR.pos,PR.val]
   refine⟨Z1J p j l ext hl,fun h2=> ?_,fun h2=> ?_⟩
   ·simp only[h2,if_true]
    refine psX z0 hf (fun u m h3=> ?_) fun a e h3=> ?_
    ·simp only[h3,PR.pos,PR.val]; exact⟨rfl,rfl⟩
    ·simp only[h3]; exact rfl
   ·simp only[h2,Bool.false_eq_true,if_false]
    have wr:((Zb p.ts i).1≠1\/kT t≠2/\kT t≠4)->((ZI t 12 i j).isOk=true->(CQ 90 [.ptr 0 0,tmE t,.int .i64 12,.int .i64 i] (p.o j) (tmE ((ZI t 12 i j).val z0)) (p.o (ZI t 12 i j).pos))/\(CQ 54 [.ptr 0 0,.int .i64 40] (p.o (ZI t 12 i j).pos) (.pan (fltV j 40)) [])/\RW p.o eiE (if (Zb p.ts i).1≠1\/kT t≠2/\kT t≠4 then (ZI t 12 i j).bind fun _ j=> .bad j 40 else (ZA t i j).bind fun a j=> .ok (a,t,true) j) (.pan (fltV j 40)) [])/\((ZI t 12 i j).isOk=false->(CQ 90 [.ptr 0 0,tmE t,.int .i64 12,.int .i64 i] (p.o j) (.pan (flt (ZI t 12 i j))) [])/\RW p.o eiE (if (Zb p.ts i).1≠1\/kT t≠2/\kT t≠4 then (ZI t 12 i j).bind fun _ j=> .bad j 40 else (ZA t i j).bind fun a j=> .ok (a,t,true) j) (.pan (flt (ZI t 12 i j))) []):=fun hc=>by
     rw[if_pos hc]
     refine psX z0 hf (fun u m h3=> ?_) fun a e h3=> ?_
     ·obtain⟨rfl,rfl⟩:=Zal h3
      rw[h3]
      exact⟨QQ p m 40,rfl⟩
     ·rw[h3]; exact rfl
    have at': ¬ ((Zb p.ts i).1≠1\/kT t≠2/\kT t≠4)->((ZA t i j).isOk=true->(CQ 147 [.ptr 0 0,tmE t,.int .i64 i] (p.o j) (amE ((ZA t i j).val ([],[]))) (p.o (ZA t i j).pos))/\RW p.o eiE (if (Zb p.ts i).1≠1\/kT t≠2/\kT t≠4 then (ZI t 12 i j).bind fun _ j=> .bad j 40 else (ZA t i j).bind fun a j=> .ok (a,t,true) j) (.tuple [amE ((ZA t i j).val ([],[])),tmE t,.bool true]) (p.o (ZA t i j).pos))/\((ZA t i j).isOk=false->(CQ 147 [.ptr 0 0,tmE t,.int .i64 i] (p.o j) (.pan (flt (ZA t i j))) [])/\RW p.o eiE (if (Zb p.ts i).1≠1\/kT t≠2/\kT t≠4 then (ZI t 12 i j).bind fun _ j=> .bad j 40 else (ZA t i j).bind fun a j=> .ok (a,t,true) j) (.pan (flt (ZA t i j))) []):=fun hc=>by
     rw[if_neg hc]
     refine psX ([],[]) ha (fun u m h3=> ?_) fun a e h3=> ?_
     ·rw[h3]; exact⟨rfl,rfl⟩
     ·rw[h3]; exact rfl
    refine⟨fun h4=>wr (.inl h4),fun h4=>⟨fun h5=>⟨fun h6=>wr (.inr ⟨by omega,by omega⟩),fun h6=>at' ?_⟩,fun h5=>at' ?_⟩⟩
    ·rintro (h | h)
     ·exact h h4
     ·exact h.2 (by omega)
    ·rintro (h | h)
     ·exact h h4
     ·exact h.1 (by omega)
  ·simp only[h1,PR.bind]; exact rfl
 ·exact absurd h (by simp[ZV,numD,Z0i,Z58,allI,lk])
theorem tk1 (ts:List Tk) (t:LU) (i:Nat):(tkP ts t i).1=Z1 ts i [t]:=by
 unfold tkP
 cases h:Z1 ts i [t] <;> rfl
theorem tk2 (ts:List Tk) (t:LU) (i:Nat):(tkP ts t i).2=if Z1 ts i [t]=true then i+1 else i:=by
 unfold tkP
 cases h:Z1 ts i [t] <;> rfl
theorem qWh1 (p:PS) (i:Nat):CallL Tryz.prog (.func (.func 138) [] [.ptr 0 0]) [] (p.oq i) (RS p.oq ltE (Z1S p.ts i)):=by
 refine Z0L (CallL.tree Z7 Zjg (ZF Z3 fun _=>(Z4 (Zi _ _) (Z2 _ _ _ _))) (Zh9 p.ts i p.so  (Z1 p.ts (i) [Lx.ZD]) ((if Z1 p.ts (i) [Lx.ZD]=true then i+1 else i:Nat):Int) (Z1S p.ts i).isOk (((Z1S p.ts i).val zL).k:Nat) ((Z1S p.ts i).val zL).no ((Z1S p.ts i).val zL).p (Tm.cellsL ((Z1S p.ts i).val zL).a) (((Z1S p.ts i).val zL).op:Nat) (kT ((Z1S p.ts i).val zL).l:Nat) (nT ((Z1S p.ts i).val zL).l) (nmT ((Z1S p.ts i).val zL).l) (Tm.cellsL (Ps.arT ((Z1S p.ts i).val zL).l)) (kT ((Z1S p.ts i).val zL).r:Nat) (nT ((Z1S p.ts i).val zL).r) (nmT ((Z1S p.ts i).val zL).r) (Tm.cellsL (Ps.arT ((Z1S p.ts i).val zL).r)) (Z1S p.ts i).pos (flt (Z1S p.ts i)) p.r1 p.r2 p.r3) ?_)
 have hl:=Zit p (Z1 p.ts i [Lx.ZD]) (if Z1 p.ts i [Lx.ZD]=true then i+1 else i) (Zg3 p _ _ _ (by decide))
 have e:Z1S p.ts i=Zn p.ts (Z1 p.ts i [Lx.ZD]) (if Z1 p.ts i [Lx.ZD]=true then i+1 else i):=by unfold Z1S; rw[tk1,tk2]
 rw[<- e] at hl
 simp only[SS]
 refine⟨Q6 p i [Lx.ZD] [] (by simp),psX zL hl (fun t j h1=> ?_) fun a e h1=> ?_⟩
 ·simp only[h1,PR.pos,PR.val]; exact⟨rfl,rfl⟩
 ·simp only[h1]; exact rfl
theorem Zik {α:Type} {p:PS} {enc enc':α->D} {x:PR α} {d:D} {ys:List D} {ob:Obs} (he: ∀ a,enc a=enc' a) (h:CallL Tryz.prog d ys ob (RS p.oq enc x)):CallL Tryz.prog d ys ob (Z5l p enc' x):=by
 cases x with
 | ok a j=>exact h.mono fun r o h=>⟨h.1.trans (he a),h.2⟩
 | bad a e=>exact h
theorem Z9K {α:Type} {p:PS} {enc:α->D} {x:PR α} {d:D} {ys:List D} {ob:Obs} (h:CallL Tryz.prog d ys ob (Zbl p enc x)):CallL Tryz.prog d ys ob (RS p.ob enc x):=by
 cases x <;> exact h
theorem Mth.vec {f:FuncId} {os:Obs} {ob:Obs} {sz k:Nat} {e:TypeId} {es:LD} (hk:lk os k=none) (h:Mth f ob fun r o=>r= .vec k/\o=os++[(k,.arr true sz e es)]):Mth f ob fun r o=>r= .slice es []/\o=os:=⟨CallL.vecR hk h.1,CallL.vecR hk h.2⟩
theorem Z9D (p:PS) (i:Nat):Mth 100 (p.o i) (RS p.o (fun l:List Lt=> .slice (ltL l) []) (Qe p.ts i)):=by
 unfold Qe
 have ht:=Q6 p i [[58]] [] (by simp)
 cases hs:Z1 p.ts i [[58]] with
 | false =>
  rw[if_neg (by decide)]
  rw[hs] at ht
  refine Mth.vec (os:=p.o i) (sz:=13) (e:=64) (k:=10) (es:=[]) (by rfl) (Mth.tree ZgC (ZF Z3 fun _=>(Z4 (Zi _ _) (Z2 _ _ _ _))) (Z7D p.ts i p.so  (Z1 p.ts (i) [[58]]) ((if Z1 p.ts (i) [[58]]=true then i+1 else i:Nat):Int) (PR.ok ([]:List Lt) 0).isOk (ltL ((PR.ok ([]:List Lt) 0).val [])) (PR.ok ([]:List Lt) 0).pos (flt (PR.ok ([]:List Lt) 0)) p.r1 p.r2 p.r3) ?_)
  simp only[SS,hs,Bool.false_eq_true,if_false]
  refine⟨ht, ?_⟩
  first | exact rfl | exact⟨rfl,nofun⟩ | exact⟨rfl,rfl⟩
 | true =>
  rw[if_pos rfl]
  rw[hs] at ht
  have hl:=Z9K (Ziu p 138 64 [44] (Z1S p.ts) (i+1) (by decide) (fun k _=>Zik Za1 (qWh1 p k)) fun k a j _ hx=>w_le (Ps.ZhK (Sm.self p.ts) k) hx)
  refine Mth.rs (Mth.tree ZgC (ZF Z3 fun _=>(Z4 (Zi _ _) (Z2 _ _ _ _))) (Z7D p.ts i p.so  (Z1 p.ts (i) [[58]]) ((if Z1 p.ts (i) [[58]]=true then i+1 else i:Nat):Int) (Qi p.ts 64 [44] (Z1S p.ts) (i+1)).isOk (ltL ((Qi p.ts 64 [44] (Z1S p.ts) (i+1)).val [])) (Qi p.ts 64 [44] (Z1S p.ts) (i+1)).pos (flt (Qi p.ts 64 [44] (Z1S p.ts) (i+1))) p.r1 p.r2 p.r3) ?_)
  simp only[SS,hs,if_true]
  refine⟨ht,nofun,psX [] hl (fun t j h1=> ?_) fun a e h1=> ?_⟩
  ·simp only[h1,PR.pos,PR.val]; exact⟨rfl,rfl⟩
  ·simp only[h1]; exact rfl
end Go.Proofs.YtecgehidegnmnaaGreatDoor
/- The parser: trees of rules. -/
namespace Go.Proofs.YtecgehidegnmnaaGreatDoor
open Go.Sx
open Go.Sx.Lx (Tk Zq)
noncomputable def PBrE (ts:List Tk) (i:Int) (so:Bool) (g:Nat) (b9:Bool) (j9:Int) (v9:Value) (b12:Bool) (l12:LD) (j12:Int) (v12:Value) (b16:Bool) (j16:Int) (v16:Value) (r1 r2 r3:LD):Tr:=brT b9 (Ow (CQ 68 [dP 0 0,dS [123]] (psO ts i so r1 r2 r3) (D.tuple []) (psO ts j9 so r1 r2 r3)) (brT b12 (Ow (CQ 192 [dP 0 0,dI 64,dS [59],dF g [] [dP 1 0]] (psO1 ts j9 so r1 r2 r3) (dL l12 []) (psO1 ts j12 so r1 r2 r3)) (brT b16 (Ow (CQ 68 [dP 0 0,dS [125]] (psO ts j12 so r1 r2 r3) (D.tuple []) (psO ts j16 so r1 r2 r3)) (Rt (dL l12 []) (psO1 ts j16 so r1 r2 r3))) (Ow (CQ 68 [dP 0 0,dS [125]] (psO ts j12 so r1 r2 r3) (D.pan v16) []) (Rt (D.pan v16) [(1,oC [dP 0 0])])))) (Ow (CQ 192 [dP 0 0,dI 64,dS [59],dF g [] [dP 1 0]] (psO1 ts j9 so r1 r2 r3) (D.pan v12) []) (Rt (D.pan v12) [])))) (Ow (CQ 68 [dP 0 0,dS [123]] (psO ts i so r1 r2 r3) (D.pan v9) []) (Rt (D.pan v9) [(1,oC [dP 0 0])]))
theorem Zhx (ts:List Tk) (i:Int) (so:Bool) (g:Nat) (b9:Bool) (j9:Int) (v9:Value) (b12:Bool) (l12:LD) (j12:Int) (v12:Value) (b16:Bool) (j16:Int) (v16:Value) (r1 r2 r3:LD):goT Tryz.prog { F:=fun x=>libT,C:=fun m=>if m=9 then psB b9 (D.tuple []) (psO ts j9 so r1 r2 r3) v9 else if m=12 then psB b12 (dL l12 []) (psO1 ts j12 so r1 r2 r3) v12 else psB b16 (D.tuple []) (psO ts j16 so r1 r2 r3) v16,E:=noE } 10 (finF false 10 Zfu) 2000 [Fr.sc ZeH] { tm:=Zv 0 ([]++[dP 0 0,dF g [] [dP 1 0]]++[]),ob:=psO1 ts i so r1 r2 r3 }=PBrE ts i so g b9 j9 v9 b12 l12 j12 v12 b16 j16 v16 r1 r2 r3:=by kernel_rfl
noncomputable def PBrH (ts:List Tk) (i:Int) (so:Bool) (g:Nat) (b9:Bool) (j9:Int) (v9:Value) (b12:Bool) (l12:LD) (j12:Int) (v12:Value) (b16:Bool) (j16:Int) (v16:Value) (r1 r2 r3:LD):Tr:=brT b9 (Ow (CQ 68 [dP 0 0,dS [123]] (psO ts i so r1 r2 r3) (D.tuple []) (psO ts j9 so r1 r2 r3)) (brT b12 (Ow (CQ 172 [dP 0 0,dI 64,dS [59],dF g [] [dP 1 0]] (psO1 ts j9 so r1 r2 r3) (dL l12 []) (psO1 ts j12 so r1 r2 r3)) (brT b16 (Ow (CQ 68 [dP 0 0,dS [125]] (psO ts j12 so r1 r2 r3) (D.tuple []) (psO ts j16 so r1 r2 r3)) (Rt (dL l12 []) (psO1 ts j16 so r1 r2 r3))) (Ow (CQ 68 [dP 0 0,dS [125]] (psO ts j12 so r1 r2 r3) (D.pan v16) []) (Rt (D.pan v16) [(1,oC [dP 0 0])])))) (Ow (CQ 172 [dP 0 0,dI 64,dS [59],dF g [] [dP 1 0]] (psO1 ts j9 so r1 r2 r3) (D.pan v12) []) (Rt (D.pan v12) [])))) (Ow (CQ 68 [dP 0 0,dS [123]] (psO ts i so r1 r2 r3) (D.pan v9) []) (Rt (D.pan v9) [(1,oC [dP 0 0])]))
theorem Zhw (ts:List Tk) (i:Int) (so:Bool) (g:Nat) (b9:Bool) (j9:Int) (v9:Value) (b12:Bool) (l12:LD) (j12:Int) (v12:Value) (b16:Bool) (j16:Int) (v16:Value) (r1 r2 r3:LD):goT Tryz.prog { F:=fun x=>libT,C:=fun m=>if m=9 then psB b9 (D.tuple []) (psO ts j9 so r1 r2 r3) v9 else if m=12 then psB b12 (dL l12 []) (psO1 ts j12 so r1 r2 r3) v12 else psB b16 (D.tuple []) (psO ts j16 so r1 r2 r3) v16,E:=noE } 10 (finF false 10 ZfG) 2000 [Fr.sc ZeT] { tm:=Zv 0 ([]++[dP 0 0,dF g [] [dP 1 0]]++[]),ob:=psO1 ts i so r1 r2 r3 }=PBrH ts i so g b9 j9 v9 b12 l12 j12 v12 b16 j16 v16 r1 r2 r3:=by kernel_rfl
noncomputable def PAg1 (ts:List Tk) (i:Int) (so b4:Bool) (l4:LD) (j4:Int) (v4:Value) (b7:Bool) (l7:LD) (j7:Int) (v7:Value) (r1 r2 r3:LD):Tr:=brT b4 (Ow (CQ 136 [dP 0 0] (psO ts i so r1 r2 r3) (dL l4 []) (psO ts j4 so r1 r2 r3)) (brT b7 (Ow (CQ 100 [dP 0 0] (psO ts j4 so r1 r2 r3) (dL l7 []) (psO ts j7 so r1 r2 r3)) (Rt (dA [dL l4 [],dL l7 []]) [(0,oC [dP 1 0]),(1,oC [dL (List.map Zq ts) [],dI j7,dV 2,dV 3,dV 4,dB so]),(2,oR true 20 42 r1),(3,oR true 5 53 r2),(4,oR true 2 138 r3)])) (Ow (CQ 100 [dP 0 0] (psO ts j4 so r1 r2 r3) (D.pan v7) []) (Rt (D.pan v7) [(0,oC [dP 1 0])])))) (Ow (CQ 136 [dP 0 0] (psO ts i so r1 r2 r3) (D.pan v4) []) (Rt (D.pan v4) [(0,oC [dP 1 0])]))
theorem ZhB (ts:List Tk) (i:Int) (so b4:Bool) (l4:LD) (j4:Int) (v4:Value) (b7:Bool) (l7:LD) (j7:Int) (v7:Value) (r1 r2 r3:LD):goT Tryz.prog { F:=fun x=>libT,C:=fun m=>if m=4 then psB b4 (dL l4 []) (psO ts j4 so r1 r2 r3) v4 else psB b7 (dL l7 []) (psO ts j7 so r1 r2 r3) v7,E:=noE } 10 (finF false 10 Zft) 2000 [Fr.sc ZeG] { tm:=Zv 0 ([]++[]++[dP 0 0]),ob:=psQ0 ts i so r1 r2 r3 }=PAg1 ts i so b4 l4 j4 v4 b7 l7 j7 v7 r1 r2 r3:=by kernel_rfl
noncomputable def PAgg (ts:List Tk) (i:Int) (so no c12:Bool) (j12:Int) (b17:Bool) (j17:Int) (v17:Value) (b20:Bool) (l20:LD) (j20:Int) (v20:Value) (c26:Bool) (v30:Value) (b32:Bool) (n32 j32:Int) (v32:Value) (b35:Bool) (k35 n35:Int) (s35:LU) (l35:LD) (j35:Int) (v35:Value) (r1 r2 r3:LD):Tr:=Ow (CQ 66 [dP 0 0,dL [[dS [35,115,117,109]]] []] (psO ts i so r1 r2 r3) (dB c12) (psO ts j12 so r1 r2 r3)) (brT c12 (brT b20 (Ow (CQ 173 [dP 0 0,dF 174 [] [dP 1 0]] (psO1 ts j12 so r1 r2 r3) (dL l20 []) (psO1 ts j20 so r1 r2 r3)) (Ow (CQ 63 [dP 0 0,dL [[dS [33,61]]] []] (psO ts j20 so r1 r2 r3) (dB c26) (psO ts j20 so r1 r2 r3)) (brT c26 (Ow (CQ 54 [dP 0 0,dI 40] (psO ts j20 so r1 r2 r3) (D.pan v30) []) (Rt (D.pan v30) [])) (brT b32 (Ow (CQ 168 [dP 0 0] (psO ts j20 so r1 r2 r3) (dU n32) (psO ts j32 so r1 r2 r3)) (brT b35 (Ow (CQ 51 [dP 0 0] (psO ts j32 so r1 r2 r3) (dA (tC k35 n35 s35 l35)) (psO ts j35 so r1 r2 r3)) (Rt (dA [dU 3,dU 0,dB false,dS [],dL [] [],dU 0,dU 0,dI 0,dS [],dL [] [],dU 0,dI 0,dS [],dL [] [],dL [] [],dB no,dU 2,dL l20 [],dU n32,dU k35,dI n35,dS s35,dL l35 []]) (psO ts j35 so r1 r2 r3))) (Ow (CQ 51 [dP 0 0] (psO ts j32 so r1 r2 r3) (D.pan v35) []) (Rt (D.pan v35) [])))) (Ow (CQ 168 [dP 0 0] (psO ts j20 so r1 r2 r3) (D.pan v32) []) (Rt (D.pan v32) [])))))) (Ow (CQ 173 [dP 0 0,dF 174 [] [dP 1 0]] (psO1 ts j12 so r1 r2 r3) (D.pan v20) []) (Rt (D.pan v20) []))) (brT b17 (Ow (CQ 68 [dP 0 0,dS [35,99,111,117,110,116]] (psO ts j12 so r1 r2 r3) (D.tuple []) (psO ts j17 so r1 r2 r3)) (brT b20 (Ow (CQ 173 [dP 0 0,dF 174 [] [dP 1 0]] (psO1 ts j17 so r1 r2 r3) (dL l20 []) (psO1 ts j20 so r1 r2 r3)) (Ow (CQ 63 [dP 0 0,dL [[dS [33,61]]] []] (psO ts j20 so r1 r2 r3) (dB c26) (psO ts j20 so r1 r2 r3)) (brT c26 (Ow (CQ 54 [dP 0 0,dI 40] (psO ts j20 so r1 r2 r3) (D.pan v30) []) (Rt (D.pan v30) [])) (brT b32 (Ow (CQ 168 [dP 0 0] (psO ts j20 so r1 r2 r3) (dU n32) (psO ts j32 so r1 r2 r3)) (brT b35 (Ow (CQ 51 [dP 0 0] (psO ts j32 so r1 r2 r3) (dA (tC k35 n35 s35 l35)) (psO ts j35 so r1 r2 r3)) (Rt (dA [dU 3,dU 0,dB false,dS [],dL [] [],dU 0,dU 0,dI 0,dS [],dL [] [],dU 0,dI 0,dS [],dL [] [],dL [] [],dB no,dU 1,dL l20 [],dU n32,dU k35,dI n35,dS s35,dL l35 []]) (psO ts j35 so r1 r2 r3))) (Ow (CQ 51 [dP 0 0] (psO ts j32 so r1 r2 r3) (D.pan v35) []) (Rt (D.pan v35) [])))) (Ow (CQ 168 [dP 0 0] (psO ts j20 so r1 r2 r3) (D.pan v32) []) (Rt (D.pan v32) [])))))) (Ow (CQ 173 [dP 0 0,dF 174 [] [dP 1 0]] (psO1 ts j17 so r1 r2 r3) (D.pan v20) []) (Rt (D.pan v20) [])))) (Ow (CQ 68 [dP 0 0,dS [35,99,111,117,110,116]] (psO ts j12 so r1 r2 r3) (D.pan v17) []) (Rt (D.pan v17) []))))
theorem ZhA (ts:List Tk) (i:Int) (so no c12:Bool) (j12:Int) (b17:Bool) (j17:Int) (v17:Value) (b20:Bool) (l20:LD) (j20:Int) (v20:Value) (c26:Bool) (v30:Value) (b32:Bool) (n32 j32:Int) (v32:Value) (b35:Bool) (k35 n35:Int) (s35:LU) (l35:LD) (j35:Int) (v35:Value) (r1 r2 r3:LD):goT Tryz.prog { F:=fun x=>libT,C:=fun m=>if m=12 then psQ (dB c12) (psO ts j12 so r1 r2 r3) else if m=17 then psB b17 (D.tuple []) (psO ts j17 so r1 r2 r3) v17 else if m=20 then psB b20 (dL l20 []) (psO1 ts j20 so r1 r2 r3) v20 else if m=26 then psQ (dB c26) (psO ts j20 so r1 r2 r3) else if m=30 then psB false D.nils [] v30 else if m=32 then psB b32 (dU n32) (psO ts j32 so r1 r2 r3) v32 else psB b35 (dA (tC k35 n35 s35 l35)) (psO ts j35 so r1 r2 r3) v35,E:=noE } 10 (finF false 10 ZfC) 2000 [Fr.sc ZeP] { tm:=Zv 0 ([]++[dP 0 0,dB no]++[]),ob:=psO ts i so r1 r2 r3 }=PAgg ts i so no c12 j12 b17 j17 v17 b20 l20 j20 v20 c26 v30 b32 n32 j32 v32 b35 k35 n35 s35 l35 j35 v35 r1 r2 r3:=by kernel_rfl
noncomputable def Zkb (ts:List Tk) (i:Int) (so c9:Bool) (j9:Int) (c14 b17:Bool) (bk17 lk17:Int) (lno17:Bool) (lp17:LU) (la17:LD) (lop17 k17a n17a:Int) (s17a:LU) (l17a:LD) (k17b n17b:Int) (s17b:LU) (l17b bc17:LD) (bno17:Bool) (bf17:Int) (be17:LD) (bop17 k17c n17c:Int) (s17c:LU) (l17c:LD) (j17:Int) (v17:Value) (b20:Bool) (lk20:Int) (lno20:Bool) (lp20:LU) (la20:LD) (lop20 k20a n20a:Int) (s20a:LU) (l20a:LD) (k20b n20b:Int) (s20b:LU) (l20b:LD) (j20:Int) (v20:Value) (b23:Bool) (l23:LD) (j23:Int) (v23:Value) (r1 r2 r3:LD):Tr:=Ow (CQ 66 [dP 0 0,dL [[dS [110,111,116]]] []] (psO ts i so r1 r2 r3) (dB c9) (psO ts j9 so r1 r2 r3)) (Ow (CQ 63 [dP 0 0,dL [[dS [35,99,111,117,110,116]],[dS [35,115,117,109]]] []] (psO ts j9 so r1 r2 r3) (dB c14) (psO ts j9 so r1 r2 r3)) (brT c14 (brT b17 (Ow (CQ 149 [dP 0 0,dB c9] (psO ts j9 so r1 r2 r3) (dA [dU bk17,dU lk17,dB lno17,dS lp17,dL la17 [],dU lop17,dU k17a,dI n17a,dS s17a,dL l17a [],dU k17b,dI n17b,dS s17b,dL l17b [],dL bc17 [],dB bno17,dU bf17,dL be17 [],dU bop17,dU k17c,dI n17c,dS s17c,dL l17c []]) (psO ts j17 so r1 r2 r3)) (Rt (dA [dU bk17,dU lk17,dB lno17,dS lp17,dL la17 [],dU lop17,dU k17a,dI n17a,dS s17a,dL l17a [],dU k17b,dI n17b,dS s17b,dL l17b [],dL bc17 [],dB bno17,dU bf17,dL be17 [],dU bop17,dU k17c,dI n17c,dS s17c,dL l17c []]) (psO ts j17 so r1 r2 r3))) (Ow (CQ 149 [dP 0 0,dB c9] (psO ts j9 so r1 r2 r3) (D.pan v17) []) (Rt (D.pan v17) []))) (brT b20 (Ow (CQ 139 [dP 0 0,dB c9] (psO ts j9 so r1 r2 r3) (dA [dU lk20,dB lno20,dS lp20,dL la20 [],dU lop20,dU k20a,dI n20a,dS s20a,dL l20a [],dU k20b,dI n20b,dS s20b,dL l20b []]) (psO ts j20 so r1 r2 r3)) (brT b23 (Ow (CQ 100 [dP 0 0] (psO ts j20 so r1 r2 r3) (dL l23 []) (psO ts j23 so r1 r2 r3)) (brT (decide ((0:Int)<(↑(List.length l23):Int))) (Rt (dA [dU 2,dU lk20,dB lno20,dS lp20,dL la20 [],dU lop20,dU k20a,dI n20a,dS s20a,dL l20a [],dU k20b,dI n20b,dS s20b,dL l20b [],dL l23 [],dB false,dU 0,dL [] [],dU 0,dU 0,dI 0,dS [],dL [] []]) (psO ts j23 so r1 r2 r3)) (Rt (dA [dU 1,dU lk20,dB lno20,dS lp20,dL la20 [],dU lop20,dU k20a,dI n20a,dS s20a,dL l20a [],dU k20b,dI n20b,dS s20b,dL l20b [],dL l23 [],dB false,dU 0,dL [] [],dU 0,dU 0,dI 0,dS [],dL [] []]) (psO ts j23 so r1 r2 r3)))) (Ow (CQ 100 [dP 0 0] (psO ts j20 so r1 r2 r3) (D.pan v23) []) (Rt (D.pan v23) [])))) (Ow (CQ 139 [dP 0 0,dB c9] (psO ts j9 so r1 r2 r3) (D.pan v20) []) (Rt (D.pan v20) [])))))
theorem Zde (ts:List Tk) (i:Int) (so c9:Bool) (j9:Int) (c14 b17:Bool) (bk17 lk17:Int) (lno17:Bool) (lp17:LU) (la17:LD) (lop17 k17a n17a:Int) (s17a:LU) (l17a:LD) (k17b n17b:Int) (s17b:LU) (l17b bc17:LD) (bno17:Bool) (bf17:Int) (be17:LD) (bop17 k17c n17c:Int) (s17c:LU) (l17c:LD) (j17:Int) (v17:Value) (b20:Bool) (lk20:Int) (lno20:Bool) (lp20:LU) (la20:LD) (lop20 k20a n20a:Int) (s20a:LU) (l20a:LD) (k20b n20b:Int) (s20b:LU) (l20b:LD) (j20:Int) (v20:Value) (b23:Bool) (l23:LD) (j23:Int) (v23:Value) (r1 r2 r3:LD):goT Tryz.prog { F:=fun x=>libT,C:=fun m=>if m=9 then psQ (dB c9) (psO ts j9 so r1 r2 r3) else if m=14 then psQ (dB c14) (psO ts j9 so r1 r2 r3) else if m=17 then psB b17 (dA [dU bk17,dU lk17,dB lno17,dS lp17,dL la17 [],dU lop17,dU k17a,dI n17a,dS s17a,dL l17a [],dU k17b,dI n17b,dS s17b,dL l17b [],dL bc17 [],dB bno17,dU bf17,dL be17 [],dU bop17,dU k17c,dI n17c,dS s17c,dL l17c []]) (psO ts j17 so r1 r2 r3) v17 else if m=20 then psB b20 (dA [dU lk20,dB lno20,dS lp20,dL la20 [],dU lop20,dU k20a,dI n20a,dS s20a,dL l20a [],dU k20b,dI n20b,dS s20b,dL l20b []]) (psO ts j20 so r1 r2 r3) v20 else psB b23 (dL l23 []) (psO ts j23 so r1 r2 r3) v23,E:=noE } 10 (finF false 10 ZfQ) 2000 [Fr.sc Zf3] { tm:=Zv 0 ([]++[dP 0 0]++[]),ob:=psO ts i so r1 r2 r3 }=Zkb ts i so c9 j9 c14 b17 bk17 lk17 lno17 lp17 la17 lop17 k17a n17a s17a l17a k17b n17b s17b l17b bc17 bno17 bf17 be17 bop17 k17c n17c s17c l17c j17 v17 b20 lk20 lno20 lp20 la20 lop20 k20a n20a s20a l20a k20b n20b s20b l20b j20 v20 b23 l23 j23 v23 r1 r2 r3:=by kernel_rfl
noncomputable def PCh1 (ts:List Tk) (i:Int) (so b4:Bool) (s4:LU) (l4:LD) (j4:Int) (v4:Value) (b7:Bool) (l7:LD) (j7:Int) (v7:Value) (r1 r2 r3:LD):Tr:=brT b4 (Ow (CQ 111 [dP 0 0] (psO ts i so r1 r2 r3) (dA [dS s4,dL l4 []]) (psO ts j4 so r1 r2 r3)) (brT b7 (Ow (CQ 100 [dP 0 0] (psO ts j4 so r1 r2 r3) (dL l7 []) (psO ts j7 so r1 r2 r3)) (Rt (dA [dS s4,dL l4 [],dL l7 []]) [(0,oC [dP 1 0]),(1,oC [dL (List.map Zq ts) [],dI j7,dV 2,dV 3,dV 4,dB so]),(2,oR true 20 42 r1),(3,oR true 5 53 r2),(4,oR true 2 138 r3)])) (Ow (CQ 100 [dP 0 0] (psO ts j4 so r1 r2 r3) (D.pan v7) []) (Rt (D.pan v7) [])))) (Ow (CQ 111 [dP 0 0] (psO ts i so r1 r2 r3) (D.pan v4) []) (Rt (D.pan v4) [(0,oC [dP 1 0])]))
theorem Zhv (ts:List Tk) (i:Int) (so b4:Bool) (s4:LU) (l4:LD) (j4:Int) (v4:Value) (b7:Bool) (l7:LD) (j7:Int) (v7:Value) (r1 r2 r3:LD):goT Tryz.prog { F:=fun x=>libT,C:=fun m=>if m=4 then psB b4 (dA [dS s4,dL l4 []]) (psO ts j4 so r1 r2 r3) v4 else psB b7 (dL l7 []) (psO ts j7 so r1 r2 r3) v7,E:=noE } 10 (finF false 10 ZfF) 2000 [Fr.sc ZeS] { tm:=Zv 0 ([]++[]++[dP 0 0]),ob:=psQ0 ts i so r1 r2 r3 }=PCh1 ts i so b4 s4 l4 j4 v4 b7 l7 j7 v7 r1 r2 r3:=by kernel_rfl
noncomputable def PCho (ts:List Tk) (i:Int) (so:Bool) (k n:Int) (s:LU) (l:LD) (b10:Bool) (l10:LD) (j10:Int) (v10:Value) (c16 b19:Bool) (k19 n19:Int) (s19:LU) (l19:LD) (j19:Int) (v19:Value) (r1 r2 r3:LD):Tr:=brT b10 (Ow (CQ 145 [dP 0 0,dF 146 [] [dP 1 0]] (psO1 ts i so r1 r2 r3) (dL l10 []) (psO1 ts j10 so r1 r2 r3)) (Ow (CQ 63 [dP 0 0,dL [[dS [58,45]],[dS [46]]] []] (psO ts j10 so r1 r2 r3) (dB c16) (psO ts j10 so r1 r2 r3)) (brT (!c16) (brT b19 (Ow (CQ 51 [dP 0 0] (psO ts j10 so r1 r2 r3) (dA (tC k19 n19 s19 l19)) (psO ts j19 so r1 r2 r3)) (Rt (dA [dU 2,dL l10 [],dU k,dI n,dS s,dL l [],dU k19,dI n19,dS s19,dL l19 [],dL [] [],dU 0,dI 0,dS [],dL [] [],dU 0,dI 0,dS [],dL [] [],dL [] []]) (psO ts j19 so r1 r2 r3))) (Ow (CQ 51 [dP 0 0] (psO ts j10 so r1 r2 r3) (D.pan v19) []) (Rt (D.pan v19) []))) (Rt (dA [dU 2,dL l10 [],dU k,dI n,dS s,dL l [],dU 0,dI 0,dS [],dL [] [],dL [] [],dU 0,dI 0,dS [],dL [] [],dU 0,dI 0,dS [],dL [] [],dL [] []]) (psO ts j10 so r1 r2 r3))))) (Ow (CQ 145 [dP 0 0,dF 146 [] [dP 1 0]] (psO1 ts i so r1 r2 r3) (D.pan v10) []) (Rt (D.pan v10) []))
theorem Zhs (ts:List Tk) (i:Int) (so:Bool) (k n:Int) (s:LU) (l:LD) (b10:Bool) (l10:LD) (j10:Int) (v10:Value) (c16 b19:Bool) (k19 n19:Int) (s19:LU) (l19:LD) (j19:Int) (v19:Value) (r1 r2 r3:LD):goT Tryz.prog { F:=fun x=>libT,C:=fun m=>if m=10 then psB b10 (dL l10 []) (psO1 ts j10 so r1 r2 r3) v10 else if m=16 then psQ (dB c16) (psO ts j10 so r1 r2 r3) else psB b19 (dA (tC k19 n19 s19 l19)) (psO ts j19 so r1 r2 r3) v19,E:=noE } 10 (finF false 10 ZfT) 2000 [Fr.sc Zf6] { tm:=Zv 0 ([]++[dP 0 0,dA (tC k n s l)]++[]),ob:=psO ts i so r1 r2 r3 }=PCho ts i so k n s l b10 l10 j10 v10 c16 b19 k19 n19 s19 l19 j19 v19 r1 r2 r3:=by kernel_rfl
noncomputable def Zkd (ts:List Tk) (i:Int) (so b5:Bool) (k5 n5:Int) (s5:LU) (l5:LD) (j5:Int) (v5:Value) (c12:Bool) (j12:Int) (b14:Bool) (k14 n14:Int) (s14:LU) (l14:LD) (j14:Int) (v14:Value) (c20:Bool) (j20:Int) (b22:Bool) (l22:LD) (j22:Int) (v22:Value) (r1 r2 r3:LD):Tr:=brT b5 (Ow (CQ 51 [dP 0 0] (psO ts i so r1 r2 r3) (dA (tC k5 n5 s5 l5)) (psO ts j5 so r1 r2 r3)) (Ow (CQ 66 [dP 0 0,dL [[dS [64]]] []] (psO ts j5 so r1 r2 r3) (dB c12) (psO ts j12 so r1 r2 r3)) (brT c12 (brT b14 (Ow (CQ 51 [dP 0 0] (psO ts j12 so r1 r2 r3) (dA (tC k14 n14 s14 l14)) (psO ts j14 so r1 r2 r3)) (Ow (CQ 66 [dP 0 0,dL [[dS [44]]] []] (psO ts j14 so r1 r2 r3) (dB c20) (psO ts j20 so r1 r2 r3)) (brT c20 (brT b22 (Ow (CQ 136 [dP 0 0] (psO ts j20 so r1 r2 r3) (dL l22 []) (psO ts j22 so r1 r2 r3)) (Rt (dA [dU 3,dL [] [],dU 0,dI 0,dS [],dL [] [],dU 0,dI 0,dS [],dL [] [],dL [] [],dU k5,dI n5,dS s5,dL l5 [],dU k14,dI n14,dS s14,dL l14 [],dL l22 []]) (psO ts j22 so r1 r2 r3))) (Ow (CQ 136 [dP 0 0] (psO ts j20 so r1 r2 r3) (D.pan v22) []) (Rt (D.pan v22) []))) (Rt (dA [dU 3,dL [] [],dU 0,dI 0,dS [],dL [] [],dU 0,dI 0,dS [],dL [] [],dL [] [],dU k5,dI n5,dS s5,dL l5 [],dU k14,dI n14,dS s14,dL l14 [],dL [] []]) (psO ts j20 so r1 r2 r3))))) (Ow (CQ 51 [dP 0 0] (psO ts j12 so r1 r2 r3) (D.pan v14) []) (Rt (D.pan v14) []))) (Ow (CQ 66 [dP 0 0,dL [[dS [44]]] []] (psO ts j12 so r1 r2 r3) (dB c20) (psO ts j20 so r1 r2 r3)) (brT c20 (brT b22 (Ow (CQ 136 [dP 0 0] (psO ts j20 so r1 r2 r3) (dL l22 []) (psO ts j22 so r1 r2 r3)) (Rt (dA [dU 3,dL [] [],dU 0,dI 0,dS [],dL [] [],dU 0,dI 0,dS [],dL [] [],dL [] [],dU k5,dI n5,dS s5,dL l5 [],dU 1,dI 0,dS [],dL [] [],dL l22 []]) (psO ts j22 so r1 r2 r3))) (Ow (CQ 136 [dP 0 0] (psO ts j20 so r1 r2 r3) (D.pan v22) []) (Rt (D.pan v22) []))) (Rt (dA [dU 3,dL [] [],dU 0,dI 0,dS [],dL [] [],dU 0,dI 0,dS [],dL [] [],dL [] [],dU k5,dI n5,dS s5,dL l5 [],dU 1,dI 0,dS [],dL [] [],dL [] []]) (psO ts j20 so r1 r2 r3))))))) (Ow (CQ 51 [dP 0 0] (psO ts i so r1 r2 r3) (D.pan v5) []) (Rt (D.pan v5) []))
theorem Zdg (ts:List Tk) (i:Int) (so b5:Bool) (k5 n5:Int) (s5:LU) (l5:LD) (j5:Int) (v5:Value) (c12:Bool) (j12:Int) (b14:Bool) (k14 n14:Int) (s14:LU) (l14:LD) (j14:Int) (v14:Value) (c20:Bool) (j20:Int) (b22:Bool) (l22:LD) (j22:Int) (v22:Value) (r1 r2 r3:LD):goT Tryz.prog { F:=fun x=>libT,C:=fun m=>if m=5 then psB b5 (dA (tC k5 n5 s5 l5)) (psO ts j5 so r1 r2 r3) v5 else if m=12 then psQ (dB c12) (psO ts j12 so r1 r2 r3) else if m=14 then psB b14 (dA (tC k14 n14 s14 l14)) (psO ts j14 so r1 r2 r3) v14 else if m=20 then psQ (dB c20) (psO ts j20 so r1 r2 r3) else psB b22 (dL l22 []) (psO ts j22 so r1 r2 r3) v22,E:=noE } 10 (finF false 10 rs99) 2000 [Fr.sc sc99] { tm:=Zv 0 ([]++[dP 0 0]++[]),ob:=psO ts i so r1 r2 r3 }=Zkd ts i so b5 k5 n5 s5 l5 j5 v5 c12 j12 b14 k14 n14 s14 l14 j14 v14 c20 j20 b22 l22 j22 v22 r1 r2 r3:=by kernel_rfl
noncomputable def ZjX (ts:List Tk) (i:Int) (so b8:Bool) (j8:Int) (v8:Value) (c13 b16:Bool) (l16:LD) (j16:Int) (v16:Value) (b20:Bool) (j20:Int) (v20:Value) (b24:Bool) (j24:Int) (v24:Value) (b26:Bool) (rk26:Int) (rh26:LD) (k26a n26a:Int) (s26a:LU) (l26a:LD) (k26b n26b:Int) (s26b:LU) (l26b rb26:LD) (k26c n26c:Int) (s26c:LU) (l26c:LD) (k26d n26d:Int) (s26d:LU) (l26d rt26:LD) (j26:Int) (v26:Value) (b30:Bool) (j30:Int) (v30:Value) (r1 r2 r3:LD):Tr:=brT b8 (Ow (CQ 68 [dP 0 0,dS [58,126]] (psO ts i so r1 r2 r3) (D.tuple []) (psO ts j8 so r1 r2 r3)) (Ow (CQ 63 [dP 0 0,dL [[dS [46]]] []] (psO ts j8 so r1 r2 r3) (dB c13) (psO ts j8 so r1 r2 r3)) (brT (!c13) (brT b16 (Ow (CQ 67 [dP 0 0] (psO ts j8 so r1 r2 r3) (dL l16 []) (psO ts j16 so r1 r2 r3)) (brT b20 (Ow (CQ 68 [dP 0 0,dS [46]] (psO ts j16 so r1 r2 r3) (D.tuple []) (psO ts j20 so r1 r2 r3)) (brT b24 (Ow (CQ 68 [dP 0 0,dS [91]] (psO ts j20 so r1 r2 r3) (D.tuple []) (psO ts j24 so r1 r2 r3)) (brT b26 (Ow (CQ 99 [dP 0 0] (psO ts j24 so r1 r2 r3) (dA [dU rk26,dL rh26 [],dU k26a,dI n26a,dS s26a,dL l26a [],dU k26b,dI n26b,dS s26b,dL l26b [],dL rb26 [],dU k26c,dI n26c,dS s26c,dL l26c [],dU k26d,dI n26d,dS s26d,dL l26d [],dL rt26 []]) (psO ts j26 so r1 r2 r3)) (brT b30 (Ow (CQ 68 [dP 0 0,dS [93]] (psO ts j26 so r1 r2 r3) (D.tuple []) (psO ts j30 so r1 r2 r3)) (Rt (dA [dU rk26,dL rh26 [],dU k26a,dI n26a,dS s26a,dL l26a [],dU k26b,dI n26b,dS s26b,dL l26b [],dL l16 [],dU k26c,dI n26c,dS s26c,dL l26c [],dU k26d,dI n26d,dS s26d,dL l26d [],dL rt26 []]) (psO ts j30 so r1 r2 r3))) (Ow (CQ 68 [dP 0 0,dS [93]] (psO ts j26 so r1 r2 r3) (D.pan v30) []) (Rt (D.pan v30) [])))) (Ow (CQ 99 [dP 0 0] (psO ts j24 so r1 r2 r3) (D.pan v26) []) (Rt (D.pan v26) [])))) (Ow (CQ 68 [dP 0 0,dS [91]] (psO ts j20 so r1 r2 r3) (D.pan v24) []) (Rt (D.pan v24) [])))) (Ow (CQ 68 [dP 0 0,dS [46]] (psO ts j16 so r1 r2 r3) (D.pan v20) []) (Rt (D.pan v20) [])))) (Ow (CQ 67 [dP 0 0] (psO ts j8 so r1 r2 r3) (D.pan v16) []) (Rt (D.pan v16) []))) (brT b20 (Ow (CQ 68 [dP 0 0,dS [46]] (psO ts j8 so r1 r2 r3) (D.tuple []) (psO ts j20 so r1 r2 r3)) (brT b24 (Ow (CQ 68 [dP 0 0,dS [91]] (psO ts j20 so r1 r2 r3) (D.tuple []) (psO ts j24 so r1 r2 r3)) (brT b26 (Ow (CQ 99 [dP 0 0] (psO ts j24 so r1 r2 r3) (dA [dU rk26,dL rh26 [],dU k26a,dI n26a,dS s26a,dL l26a [],dU k26b,dI n26b,dS s26b,dL l26b [],dL rb26 [],dU k26c,dI n26c,dS s26c,dL l26c [],dU k26d,dI n26d,dS s26d,dL l26d [],dL rt26 []]) (psO ts j26 so r1 r2 r3)) (brT b30 (Ow (CQ 68 [dP 0 0,dS [93]] (psO ts j26 so r1 r2 r3) (D.tuple []) (psO ts j30 so r1 r2 r3)) (Rt (dA [dU rk26,dL rh26 [],dU k26a,dI n26a,dS s26a,dL l26a [],dU k26b,dI n26b,dS s26b,dL l26b [],dL [] [],dU k26c,dI n26c,dS s26c,dL l26c [],dU k26d,dI n26d,dS s26d,dL l26d [],dL rt26 []]) (psO ts j30 so r1 r2 r3))) (Ow (CQ 68 [dP 0 0,dS [93]] (psO ts j26 so r1 r2 r3) (D.pan v30) []) (Rt (D.pan v30) [])))) (Ow (CQ 99 [dP 0 0] (psO ts j24 so r1 r2 r3) (D.pan v26) []) (Rt (D.pan v26) [])))) (Ow (CQ 68 [dP 0 0,dS [91]] (psO ts j20 so r1 r2 r3) (D.pan v24) []) (Rt (D.pan v24) [])))) (Ow (CQ 68 [dP 0 0,dS [46]] (psO ts j8 so r1 r2 r3) (D.pan v20) []) (Rt (D.pan v20) [])))))) (Ow (CQ 68 [dP 0 0,dS [58,126]] (psO ts i so r1 r2 r3) (D.pan v8) []) (Rt (D.pan v8) []))
theorem ZcV (ts:List Tk) (i:Int) (so b8:Bool) (j8:Int) (v8:Value) (c13 b16:Bool) (l16:LD) (j16:Int) (v16:Value) (b20:Bool) (j20:Int) (v20:Value) (b24:Bool) (j24:Int) (v24:Value) (b26:Bool) (rk26:Int) (rh26:LD) (k26a n26a:Int) (s26a:LU) (l26a:LD) (k26b n26b:Int) (s26b:LU) (l26b rb26:LD) (k26c n26c:Int) (s26c:LU) (l26c:LD) (k26d n26d:Int) (s26d:LU) (l26d rt26:LD) (j26:Int) (v26:Value) (b30:Bool) (j30:Int) (v30:Value) (r1 r2 r3:LD):goT Tryz.prog { F:=fun x=>libT,C:=fun m=>if m=8 then psB b8 (D.tuple []) (psO ts j8 so r1 r2 r3) v8 else if m=13 then psQ (dB c13) (psO ts j8 so r1 r2 r3) else if m=16 then psB b16 (dL l16 []) (psO ts j16 so r1 r2 r3) v16 else if m=20 then psB b20 (D.tuple []) (psO ts j20 so r1 r2 r3) v20 else if m=24 then psB b24 (D.tuple []) (psO ts j24 so r1 r2 r3) v24 else if m=26 then psB b26 (dA [dU rk26,dL rh26 [],dU k26a,dI n26a,dS s26a,dL l26a [],dU k26b,dI n26b,dS s26b,dL l26b [],dL rb26 [],dU k26c,dI n26c,dS s26c,dL l26c [],dU k26d,dI n26d,dS s26d,dL l26d [],dL rt26 []]) (psO ts j26 so r1 r2 r3) v26 else psB b30 (D.tuple []) (psO ts j30 so r1 r2 r3) v30,E:=noE } 10 (finF false 10 rs64) 2000 [Fr.sc sc64] { tm:=Zv 0 ([]++[dP 0 0]++[]),ob:=psO ts i so r1 r2 r3 }=ZjX ts i so b8 j8 v8 c13 b16 l16 j16 v16 b20 j20 v20 b24 j24 v24 b26 rk26 rh26 k26a n26a s26a l26a k26b n26b s26b l26b rb26 k26c n26c s26c l26c k26d n26d s26d l26d rt26 j26 v26 b30 j30 v30 r1 r2 r3:=by kernel_rfl
noncomputable def ZjZ (ts:List Tk) (i:Int) (so c8 b10:Bool) (rk10:Int) (rh10:LD) (k10a n10a:Int) (s10a:LU) (l10a:LD) (k10b n10b:Int) (s10b:LU) (l10b rb10:LD) (k10c n10c:Int) (s10c:LU) (l10c:LD) (k10d n10d:Int) (s10d:LU) (l10d rt10:LD) (j10:Int) (v10:Value) (b12:Bool) (rk12:Int) (rh12:LD) (k12a n12a:Int) (s12a:LU) (l12a:LD) (k12b n12b:Int) (s12b:LU) (l12b rb12:LD) (k12c n12c:Int) (s12c:LU) (l12c:LD) (k12d n12d:Int) (s12d:LU) (l12d rt12:LD) (j12:Int) (v12:Value) (c17:Bool) (j17:Int) (b19:Bool) (l19:LD) (j19:Int) (v19:Value) (b24:Bool) (j24:Int) (v24:Value) (r1 r2 r3:LD):Tr:=Ow (CQ 63 [dP 0 0,dL [[dS [58,126]]] []] (psO ts i so r1 r2 r3) (dB c8) (psO ts i so r1 r2 r3)) (brT c8 (brT b10 (Ow (CQ 64 [dP 0 0] (psO ts i so r1 r2 r3) (dA [dU rk10,dL rh10 [],dU k10a,dI n10a,dS s10a,dL l10a [],dU k10b,dI n10b,dS s10b,dL l10b [],dL rb10 [],dU k10c,dI n10c,dS s10c,dL l10c [],dU k10d,dI n10d,dS s10d,dL l10d [],dL rt10 []]) (psO ts j10 so r1 r2 r3)) (Rt (dA [dU rk10,dL rh10 [],dU k10a,dI n10a,dS s10a,dL l10a [],dU k10b,dI n10b,dS s10b,dL l10b [],dL rb10 [],dU k10c,dI n10c,dS s10c,dL l10c [],dU k10d,dI n10d,dS s10d,dL l10d [],dL rt10 []]) (psO ts j10 so r1 r2 r3))) (Ow (CQ 64 [dP 0 0] (psO ts i so r1 r2 r3) (D.pan v10) []) (Rt (D.pan v10) []))) (brT b12 (Ow (CQ 65 [dP 0 0] (psO ts i so r1 r2 r3) (dA [dU rk12,dL rh12 [],dU k12a,dI n12a,dS s12a,dL l12a [],dU k12b,dI n12b,dS s12b,dL l12b [],dL rb12 [],dU k12c,dI n12c,dS s12c,dL l12c [],dU k12d,dI n12d,dS s12d,dL l12d [],dL rt12 []]) (psO ts j12 so r1 r2 r3)) (Ow (CQ 66 [dP 0 0,dL [[dS [58,45]]] []] (psO ts j12 so r1 r2 r3) (dB c17) (psO ts j17 so r1 r2 r3)) (brT c17 (brT b19 (Ow (CQ 67 [dP 0 0] (psO ts j17 so r1 r2 r3) (dL l19 []) (psO ts j19 so r1 r2 r3)) (brT b24 (Ow (CQ 68 [dP 0 0,dS [46]] (psO ts j19 so r1 r2 r3) (D.tuple []) (psO ts j24 so r1 r2 r3)) (Rt (dA [dU rk12,dL rh12 [],dU k12a,dI n12a,dS s12a,dL l12a [],dU k12b,dI n12b,dS s12b,dL l12b [],dL l19 [],dU k12c,dI n12c,dS s12c,dL l12c [],dU k12d,dI n12d,dS s12d,dL l12d [],dL rt12 []]) (psO ts j24 so r1 r2 r3))) (Ow (CQ 68 [dP 0 0,dS [46]] (psO ts j19 so r1 r2 r3) (D.pan v24) []) (Rt (D.pan v24) [])))) (Ow (CQ 67 [dP 0 0] (psO ts j17 so r1 r2 r3) (D.pan v19) []) (Rt (D.pan v19) []))) (brT b24 (Ow (CQ 68 [dP 0 0,dS [46]] (psO ts j17 so r1 r2 r3) (D.tuple []) (psO ts j24 so r1 r2 r3)) (Rt (dA [dU rk12,dL rh12 [],dU k12a,dI n12a,dS s12a,dL l12a [],dU k12b,dI n12b,dS s12b,dL l12b [],dL rb12 [],dU k12c,dI n12c,dS s12c,dL l12c [],dU k12d,dI n12d,dS s12d,dL l12d [],dL rt12 []]) (psO ts j24 so r1 r2 r3))) (Ow (CQ 68 [dP 0 0,dS [46]] (psO ts j17 so r1 r2 r3) (D.pan v24) []) (Rt (D.pan v24) [])))))) (Ow (CQ 65 [dP 0 0] (psO ts i so r1 r2 r3) (D.pan v12) []) (Rt (D.pan v12) []))))
theorem Zd5 (ts:List Tk) (i:Int) (so c8 b10:Bool) (rk10:Int) (rh10:LD) (k10a n10a:Int) (s10a:LU) (l10a:LD) (k10b n10b:Int) (s10b:LU) (l10b rb10:LD) (k10c n10c:Int) (s10c:LU) (l10c:LD) (k10d n10d:Int) (s10d:LU) (l10d rt10:LD) (j10:Int) (v10:Value) (b12:Bool) (rk12:Int) (rh12:LD) (k12a n12a:Int) (s12a:LU) (l12a:LD) (k12b n12b:Int) (s12b:LU) (l12b rb12:LD) (k12c n12c:Int) (s12c:LU) (l12c:LD) (k12d n12d:Int) (s12d:LU) (l12d rt12:LD) (j12:Int) (v12:Value) (c17:Bool) (j17:Int) (b19:Bool) (l19:LD) (j19:Int) (v19:Value) (b24:Bool) (j24:Int) (v24:Value) (r1 r2 r3:LD):goT Tryz.prog { F:=fun x=>libT,C:=fun m=>if m=8 then psQ (dB c8) (psO ts i so r1 r2 r3) else if m=10 then psB b10 (dA [dU rk10,dL rh10 [],dU k10a,dI n10a,dS s10a,dL l10a [],dU k10b,dI n10b,dS s10b,dL l10b [],dL rb10 [],dU k10c,dI n10c,dS s10c,dL l10c [],dU k10d,dI n10d,dS s10d,dL l10d [],dL rt10 []]) (psO ts j10 so r1 r2 r3) v10 else if m=12 then psB b12 (dA [dU rk12,dL rh12 [],dU k12a,dI n12a,dS s12a,dL l12a [],dU k12b,dI n12b,dS s12b,dL l12b [],dL rb12 [],dU k12c,dI n12c,dS s12c,dL l12c [],dU k12d,dI n12d,dS s12d,dL l12d [],dL rt12 []]) (psO ts j12 so r1 r2 r3) v12 else if m=17 then psQ (dB c17) (psO ts j17 so r1 r2 r3) else if m=19 then psB b19 (dL l19 []) (psO ts j19 so r1 r2 r3) v19 else psB b24 (D.tuple []) (psO ts j24 so r1 r2 r3) v24,E:=noE } 10 (finF false 10 rs33) 2000 [Fr.sc sc33] { tm:=Zv 0 ([]++[dP 0 0]++[]),ob:=psO ts i so r1 r2 r3 }=ZjZ ts i so c8 b10 rk10 rh10 k10a n10a s10a l10a k10b n10b s10b l10b rb10 k10c n10c s10c l10c k10d n10d s10d l10d rt10 j10 v10 b12 rk12 rh12 k12a n12a s12a l12a k12b n12b s12b l12b rb12 k12c n12c s12c l12c k12d n12d s12d l12d rt12 j12 v12 c17 j17 b19 l19 j19 v19 b24 j24 v24 r1 r2 r3:=by kernel_rfl
end Go.Proofs.YtecgehidegnmnaaGreatDoor
