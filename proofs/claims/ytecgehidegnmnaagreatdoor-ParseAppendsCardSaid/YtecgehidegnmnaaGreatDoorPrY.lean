/- Own work: a layer over the kit: plain data,a walk over it,its soundness. -/
import Derived.Test.YtecgehidegnmnaaGreatDoorPrX
import Derived.Test.YtecgehidegnmnaaGreatDoorShape
import Derived.Test.YtecgehidegnmnaaGreatDoorSx11
import Derived.Test.YtecgehidegnmnaaGreatDoorPrS
set_option linter.unusedSectionVars false
set_option linter.unusedVariables false
set_option linter.unusedSimpArgs false
set_option linter.deprecated false
set_option maxRecDepth 100000
/- The parser: a statement. -/
open Go.Sx.Ps (Zh Zb Q0 PR zR Z0P ZZ Zd Zy)
namespace Go.Proofs.YtecgehidegnmnaaGreatDoor
open Go.Sx
open Go.Sx.Lx (Tk Zq)
open Go.Sx.Ps (kT nmT W Sm Ac)
theorem Zir (p:PS) (a:Ac) (i:Nat):CF 30 [.ptr 0 0] ((p.acc a).o i) (RSa p (Zh p.ts a i)):=by
 have hh:=Z3p (p.acc a) i
 by_cases hc:(Zb p.ts i).2.1=Ps.Q8\/(Zb p.ts i).2.1=Ps.QV\/(Zb p.ts i).2.1=Ps.Z2S
 ·refine Z2e (x:=10) (y:=11) (z:=12) (by decide) (by decide) (by decide) (by decide) (by decide) (by decide) ?_
  rcases hc with hc | hc | hc
  ·have hq:=Ziz p a i
   have es:Zh p.ts a i=Q0 p.ts a i:=by
    unfold Zh
    rw[if_pos hc]
   rw[es]
   cases hx:Q0 p.ts a i with
   | ok b j =>
    rw[hx] at hq
    refine CallL.tree Z7 fp30 (ZF Z3 fun _=>(Z4 (Zi _ _) (Z4 (Z2 _ _ _ _) (Z4 (Z2 _ _ _ _) (Z2 _ _ _ _))))) (Z1y p.ts i a.so b.so (ruL b.r) (coL b.c) (shL b.s) (Zb p.ts (i)).1 (Zb p.ts (i)).2.2 (Zb p.ts (i)).2.1 (PR.ok () j).isOk  (PR.ok () j).pos (flt (PR.ok () j)) (PR.ok () 0).isOk  (PR.ok () 0).pos (flt (PR.ok () 0)) (PR.ok zR 0).isOk (((PR.ok zR 0).val zR).k:Nat) (heL ((PR.ok zR 0).val zR).h) (kT ((PR.ok zR 0).val zR).lo:Nat) (nT ((PR.ok zR 0).val zR).lo) (nmT ((PR.ok zR 0).val zR).lo) (Tm.cellsL (Ps.arT ((PR.ok zR 0).val zR).lo)) (kT ((PR.ok zR 0).val zR).up:Nat) (nT ((PR.ok zR 0).val zR).up) (nmT ((PR.ok zR 0).val zR).up) (Tm.cellsL (Ps.arT ((PR.ok zR 0).val zR).up)) (boL ((PR.ok zR 0).val zR).b) (kT ((PR.ok zR 0).val zR).w:Nat) (nT ((PR.ok zR 0).val zR).w) (nmT ((PR.ok zR 0).val zR).w) (Tm.cellsL (Ps.arT ((PR.ok zR 0).val zR).w)) (kT ((PR.ok zR 0).val zR).lv:Nat) (nT ((PR.ok zR 0).val zR).lv) (nmT ((PR.ok zR 0).val zR).lv) (Tm.cellsL (Ps.arT ((PR.ok zR 0).val zR).lv)) (Tm.cellsL ((PR.ok zR 0).val zR).t) (PR.ok zR 0).pos (flt (PR.ok zR 0)) (ruL a.r) (coL a.c) (shL a.s)) ?_
    unfold PSta
    simp only[SS]
    exact⟨hh,fun _=>⟨fun _=>⟨hq,rfl,rfl⟩,nofun⟩,fun h=>absurd hc h⟩
   | bad b e =>
    rw[hx] at hq
    refine CallL.tree Z7 fp30 (ZF Z3 fun _=>(Z4 (Zi _ _) (Z4 (Z2 _ _ _ _) (Z4 (Z2 _ _ _ _) (Z2 _ _ _ _))))) (Z1y p.ts i a.so false [] [] [] (Zb p.ts (i)).1 (Zb p.ts (i)).2.2 (Zb p.ts (i)).2.1 ((PR.bad b e:PR Unit)).isOk  ((PR.bad b e:PR Unit)).pos (flt ((PR.bad b e:PR Unit))) (PR.ok () 0).isOk  (PR.ok () 0).pos (flt (PR.ok () 0)) (PR.ok zR 0).isOk (((PR.ok zR 0).val zR).k:Nat) (heL ((PR.ok zR 0).val zR).h) (kT ((PR.ok zR 0).val zR).lo:Nat) (nT ((PR.ok zR 0).val zR).lo) (nmT ((PR.ok zR 0).val zR).lo) (Tm.cellsL (Ps.arT ((PR.ok zR 0).val zR).lo)) (kT ((PR.ok zR 0).val zR).up:Nat) (nT ((PR.ok zR 0).val zR).up) (nmT ((PR.ok zR 0).val zR).up) (Tm.cellsL (Ps.arT ((PR.ok zR 0).val zR).up)) (boL ((PR.ok zR 0).val zR).b) (kT ((PR.ok zR 0).val zR).w:Nat) (nT ((PR.ok zR 0).val zR).w) (nmT ((PR.ok zR 0).val zR).w) (Tm.cellsL (Ps.arT ((PR.ok zR 0).val zR).w)) (kT ((PR.ok zR 0).val zR).lv:Nat) (nT ((PR.ok zR 0).val zR).lv) (nmT ((PR.ok zR 0).val zR).lv) (Tm.cellsL (Ps.arT ((PR.ok zR 0).val zR).lv)) (Tm.cellsL ((PR.ok zR 0).val zR).t) (PR.ok zR 0).pos (flt (PR.ok zR 0)) (ruL a.r) (coL a.c) (shL a.s)) ?_
    unfold PSta
    simp only[SS]
    exact⟨hh,fun _=>⟨nofun,fun _=>⟨hq,rfl⟩⟩,fun h=>absurd hc h⟩
  ·have hq:=ZkL p a i
   have es:Zh p.ts a i=Z0P p.ts a i:=by
    unfold Zh
    rw[if_neg (by rw[hc]; decide),if_pos hc]
   rw[es]
   cases hx:Z0P p.ts a i with
   | ok b j =>
    rw[hx] at hq
    refine CallL.tree Z7 fp30 (ZF Z3 fun _=>(Z4 (Zi _ _) (Z4 (Z2 _ _ _ _) (Z4 (Z2 _ _ _ _) (Z2 _ _ _ _))))) (Z1y p.ts i a.so b.so (ruL b.r) (coL b.c) (shL b.s) (Zb p.ts (i)).1 (Zb p.ts (i)).2.2 (Zb p.ts (i)).2.1 (PR.ok () j).isOk  (PR.ok () j).pos (flt (PR.ok () j)) (PR.ok () 0).isOk  (PR.ok () 0).pos (flt (PR.ok () 0)) (PR.ok zR 0).isOk (((PR.ok zR 0).val zR).k:Nat) (heL ((PR.ok zR 0).val zR).h) (kT ((PR.ok zR 0).val zR).lo:Nat) (nT ((PR.ok zR 0).val zR).lo) (nmT ((PR.ok zR 0).val zR).lo) (Tm.cellsL (Ps.arT ((PR.ok zR 0).val zR).lo)) (kT ((PR.ok zR 0).val zR).up:Nat) (nT ((PR.ok zR 0).val zR).up) (nmT ((PR.ok zR 0).val zR).up) (Tm.cellsL (Ps.arT ((PR.ok zR 0).val zR).up)) (boL ((PR.ok zR 0).val zR).b) (kT ((PR.ok zR 0).val zR).w:Nat) (nT ((PR.ok zR 0).val zR).w) (nmT ((PR.ok zR 0).val zR).w) (Tm.cellsL (Ps.arT ((PR.ok zR 0).val zR).w)) (kT ((PR.ok zR 0).val zR).lv:Nat) (nT ((PR.ok zR 0).val zR).lv) (nmT ((PR.ok zR 0).val zR).lv) (Tm.cellsL (Ps.arT ((PR.ok zR 0).val zR).lv)) (Tm.cellsL ((PR.ok zR 0).val zR).t) (PR.ok zR 0).pos (flt (PR.ok zR 0)) (ruL a.r) (coL a.c) (shL a.s)) ?_
    unfold PSta
    simp only[SS]
    exact⟨hh,fun h=>absurd (h.symm.trans hc) (by decide),fun _=>⟨fun _=>⟨fun _=>⟨hq,rfl,rfl⟩,nofun⟩,fun h=>absurd hc h⟩⟩
   | bad b e =>
    rw[hx] at hq
    refine CallL.tree Z7 fp30 (ZF Z3 fun _=>(Z4 (Zi _ _) (Z4 (Z2 _ _ _ _) (Z4 (Z2 _ _ _ _) (Z2 _ _ _ _))))) (Z1y p.ts i a.so false [] [] [] (Zb p.ts (i)).1 (Zb p.ts (i)).2.2 (Zb p.ts (i)).2.1 ((PR.bad b e:PR Unit)).isOk  ((PR.bad b e:PR Unit)).pos (flt ((PR.bad b e:PR Unit))) (PR.ok () 0).isOk  (PR.ok () 0).pos (flt (PR.ok () 0)) (PR.ok zR 0).isOk (((PR.ok zR 0).val zR).k:Nat) (heL ((PR.ok zR 0).val zR).h) (kT ((PR.ok zR 0).val zR).lo:Nat) (nT ((PR.ok zR 0).val zR).lo) (nmT ((PR.ok zR 0).val zR).lo) (Tm.cellsL (Ps.arT ((PR.ok zR 0).val zR).lo)) (kT ((PR.ok zR 0).val zR).up:Nat) (nT ((PR.ok zR 0).val zR).up) (nmT ((PR.ok zR 0).val zR).up) (Tm.cellsL (Ps.arT ((PR.ok zR 0).val zR).up)) (boL ((PR.ok zR 0).val zR).b) (kT ((PR.ok zR 0).val zR).w:Nat) (nT ((PR.ok zR 0).val zR).w) (nmT ((PR.ok zR 0).val zR).w) (Tm.cellsL (Ps.arT ((PR.ok zR 0).val zR).w)) (kT ((PR.ok zR 0).val zR).lv:Nat) (nT ((PR.ok zR 0).val zR).lv) (nmT ((PR.ok zR 0).val zR).lv) (Tm.cellsL (Ps.arT ((PR.ok zR 0).val zR).lv)) (Tm.cellsL ((PR.ok zR 0).val zR).t) (PR.ok zR 0).pos (flt (PR.ok zR 0)) (ruL a.r) (coL a.c) (shL a.s)) ?_
    unfold PSta
    simp only[SS]
    exact⟨hh,fun h=>absurd (h.symm.trans hc) (by decide),fun _=>⟨fun _=>⟨nofun,fun _=>⟨hq,rfl⟩⟩,fun h=>absurd hc h⟩⟩
  ·have hq:=ZkN p a i
   have es:Zh p.ts a i=ZZ p.ts a i:=by
    unfold Zh
    rw[if_neg (by rw[hc]; decide),if_neg (by rw[hc]; decide),if_pos hc]
   rw[es]
   cases hx:ZZ p.ts a i with
   | ok b j =>
    rw[hx] at hq
    refine CallL.tree Z7 fp30 (ZF Z3 fun _=>(Z4 (Zi _ _) (Z4 (Z2 _ _ _ _) (Z4 (Z2 _ _ _ _) (Z2 _ _ _ _))))) (Z1y p.ts i a.so b.so (ruL b.r) (coL b.c) (shL b.s) (Zb p.ts (i)).1 (Zb p.ts (i)).2.2 (Zb p.ts (i)).2.1 (PR.ok () j).isOk  (PR.ok () j).pos (flt (PR.ok () j)) (PR.ok () 0).isOk  (PR.ok () 0).pos (flt (PR.ok () 0)) (PR.ok zR 0).isOk (((PR.ok zR 0).val zR).k:Nat) (heL ((PR.ok zR 0).val zR).h) (kT ((PR.ok zR 0).val zR).lo:Nat) (nT ((PR.ok zR 0).val zR).lo) (nmT ((PR.ok zR 0).val zR).lo) (Tm.cellsL (Ps.arT ((PR.ok zR 0).val zR).lo)) (kT ((PR.ok zR 0).val zR).up:Nat) (nT ((PR.ok zR 0).val zR).up) (nmT ((PR.ok zR 0).val zR).up) (Tm.cellsL (Ps.arT ((PR.ok zR 0).val zR).up)) (boL ((PR.ok zR 0).val zR).b) (kT ((PR.ok zR 0).val zR).w:Nat) (nT ((PR.ok zR 0).val zR).w) (nmT ((PR.ok zR 0).val zR).w) (Tm.cellsL (Ps.arT ((PR.ok zR 0).val zR).w)) (kT ((PR.ok zR 0).val zR).lv:Nat) (nT ((PR.ok zR 0).val zR).lv) (nmT ((PR.ok zR 0).val zR).lv) (Tm.cellsL (Ps.arT ((PR.ok zR 0).val zR).lv)) (Tm.cellsL ((PR.ok zR 0).val zR).t) (PR.ok zR 0).pos (flt (PR.ok zR 0)) (ruL a.r) (coL a.c) (shL a.s)) ?_
    unfold PSta
    simp only[SS]
    exact⟨hh,fun h=>absurd (h.symm.trans hc) (by decide),fun _=>⟨fun h=>absurd (h.symm.trans hc) (by decide),fun _=>⟨fun _=>⟨fun _=>⟨hq,rfl,rfl⟩,nofun⟩,fun h=>absurd hc h⟩⟩⟩
   | bad b e =>
    rw[hx] at hq
    refine CallL.tree Z7 fp30 (ZF Z3 fun _=>(Z4 (Zi _ _) (Z4 (Z2 _ _ _ _) (Z4 (Z2 _ _ _ _) (Z2 _ _ _ _))))) (Z1y p.ts i a.so false [] [] [] (Zb p.ts (i)).1 (Zb p.ts (i)).2.2 (Zb p.ts (i)).2.1 ((PR.bad b e:PR Unit)).isOk  ((PR.bad b e:PR Unit)).pos (flt ((PR.bad b e:PR Unit))) (PR.ok () 0).isOk  (PR.ok () 0).pos (flt (PR.ok () 0)) (PR.ok zR 0).isOk (((PR.ok zR 0).val zR).k:Nat) (heL ((PR.ok zR 0).val zR).h) (kT ((PR.ok zR 0).val zR).lo:Nat) (nT ((PR.ok zR 0).val zR).lo) (nmT ((PR.ok zR 0).val zR).lo) (Tm.cellsL (Ps.arT ((PR.ok zR 0).val zR).lo)) (kT ((PR.ok zR 0).val zR).up:Nat) (nT ((PR.ok zR 0).val zR).up) (nmT ((PR.ok zR 0).val zR).up) (Tm.cellsL (Ps.arT ((PR.ok zR 0).val zR).up)) (boL ((PR.ok zR 0).val zR).b) (kT ((PR.ok zR 0).val zR).w:Nat) (nT ((PR.ok zR 0).val zR).w) (nmT ((PR.ok zR 0).val zR).w) (Tm.cellsL (Ps.arT ((PR.ok zR 0).val zR).w)) (kT ((PR.ok zR 0).val zR).lv:Nat) (nT ((PR.ok zR 0).val zR).lv) (nmT ((PR.ok zR 0).val zR).lv) (Tm.cellsL (Ps.arT ((PR.ok zR 0).val zR).lv)) (Tm.cellsL ((PR.ok zR 0).val zR).t) (PR.ok zR 0).pos (flt (PR.ok zR 0)) (ruL a.r) (coL a.c) (shL a.s)) ?_
    unfold PSta
    simp only[SS]
    exact⟨hh,fun h=>absurd (h.symm.trans hc) (by decide),fun _=>⟨fun h=>absurd (h.symm.trans hc) (by decide),fun _=>⟨fun _=>⟨nofun,fun _=>⟨hq,rfl⟩⟩,fun h=>absurd hc h⟩⟩⟩
 ·refine Z2e (x:=10) (y:=2) (z:=3) (by decide) (by decide) (by decide) (by decide) (by decide) (by decide) ?_
  have hc':=not_or.1 hc
  have hc2:=not_or.1 hc'.2
  refine CallL.tree Z7 fp30 (ZF Z3 fun _=>(Z4 (Zi _ _) (Z4 (Z2 _ _ _ _) (Z4 (Z2 _ _ _ _) (Z2 _ _ _ _))))) (Z1y p.ts i a.so false [] [] [] (Zb p.ts (i)).1 (Zb p.ts (i)).2.2 (Zb p.ts (i)).2.1 (PR.ok () 0).isOk  (PR.ok () 0).pos (flt (PR.ok () 0)) (Zd a.r.length i).isOk  (Zd a.r.length i).pos (flt (Zd a.r.length i)) (Zy p.ts (Zd a.r.length i).pos).isOk (((Zy p.ts (Zd a.r.length i).pos).val zR).k:Nat) (heL ((Zy p.ts (Zd a.r.length i).pos).val zR).h) (kT ((Zy p.ts (Zd a.r.length i).pos).val zR).lo:Nat) (nT ((Zy p.ts (Zd a.r.length i).pos).val zR).lo) (nmT ((Zy p.ts (Zd a.r.length i).pos).val zR).lo) (Tm.cellsL (Ps.arT ((Zy p.ts (Zd a.r.length i).pos).val zR).lo)) (kT ((Zy p.ts (Zd a.r.length i).pos).val zR).up:Nat) (nT ((Zy p.ts (Zd a.r.length i).pos).val zR).up) (nmT ((Zy p.ts (Zd a.r.length i).pos).val zR).up) (Tm.cellsL (Ps.arT ((Zy p.ts (Zd a.r.length i).pos).val zR).up)) (boL ((Zy p.ts (Zd a.r.length i).pos).val zR).b) (kT ((Zy p.ts (Zd a.r.length i).pos).val zR).w:Nat) (nT ((Zy p.ts (Zd a.r.length i).pos).val zR).w) (nmT ((Zy p.ts (Zd a.r.length i).pos).val zR).w) (Tm.cellsL (Ps.arT ((Zy p.ts (Zd a.r.length i).pos).val zR).w)) (kT ((Zy p.ts (Zd a.r.length i).pos).val zR).lv:Nat) (nT ((Zy p.ts (Zd a.r.length i).pos).val zR).lv) (nmT ((Zy p.ts (Zd a.r.length i).pos).val zR).lv) (Tm.cellsL (Ps.arT ((Zy p.ts (Zd a.r.length i).pos).val zR).lv)) (Tm.cellsL ((Zy p.ts (Zd a.r.length i).pos).val zR).t) (Zy p.ts (Zd a.r.length i).pos).pos (flt (Zy p.ts (Zd a.r.length i).pos)) (ruL a.r) (coL a.c) (shL a.s)) ?_
  unfold PSta Zh
  rw[if_neg hc'.1,if_neg hc2.1,if_neg hc2.2]
  simp only[SS,Z0U]
  refine⟨hh,fun h=>absurd h hc'.1,fun _=>⟨fun h=>absurd h hc2.1,fun _=>⟨fun h=>absurd h hc2.2,fun _=> ?_⟩⟩⟩
  refine psX () (ZH (Z9G (p.acc a) i a.r.length)) (fun _ j h1=> ?_) fun b e h1=> ?_
  ·have hlt:=Ps.Z0x h1
   simp only[h1,PR.bind,PR.pos,PR.val]
   refine psX zR (qRu (p.acc a) j).1 (fun r k h2=> ?_) fun b e h2=> ?_
   ·change Zy p.ts _=_ at h2
    simp only[h2,PR.bind,PR.pos,PR.val]
    have e:ruL a.r++[Ru.cs r]=ruL (a.r++[r]):=by simp[ruL]
    have hcs:_=Ru.cs r:=D.agg.inj (Z9n r)
    rw[hcs,e]
    exact⟨⟨by simp[Zr,Ru.cs,Qb],by omega⟩,rfl,rfl⟩
   ·change Zy p.ts _=_ at h2
    simp only[h2,PR.bind]; exact rfl
  ·simp only[h1,PR.bind]; exact rfl
end Go.Proofs.YtecgehidegnmnaaGreatDoor
/- The parser: trees of run. -/
namespace Go.Proofs.YtecgehidegnmnaaGreatDoor
open Go.Sx
open Go.Sx.Lx (Tk Zq)
def dfrB:SC->SC
 | .seq (.spec (.dfr _ _)) b=>b
 | .seq _ b=>dfrB b
 | c=>c
def psP (b:Bool) (r:D) (o':Obs) (v:Value) (op:Obs):QT:=fun d ys ob=>some (.br b (.ok (CallL Tryz.prog d ys ob fun r0 ob0=>r0=r/\ob0=o') r o') (.ok (CallL Tryz.prog d ys ob fun r0 ob0=>r0= .pan v/\ob0=op) (.pan v) op))
theorem ZiD (b:Bool) (r:D) (o':Obs) (v:Value) (op:Obs):(psP b r o' v op).OK:=by
 intro d ys ob rt h
 cases h
 cases b
 ·exact fun hp=>hp
 ·exact fun hp=>hp
def clR:D:= .func (.func 53) [] [.ptr 3 0,.ptr 5 0,.ptr 6 0,.ptr 13 0]
def tDR (a' e':Int):FrameMode->Obs->Option (FrameMode × Obs):=fun u ob=>match u with
 | .returning=>some (.returning,ob)
 | .panicking [⟨v,false,false⟩]=>(match ob with
  | [x0,_,_,x3]=>some (.panicking [⟨v,true,false⟩],[x0,(1,.cells [.int .i64 a']),(2,.cells [.int .i64 e']),x3])
  | _=>none)
 | _=>none
theorem Zb7 (src:LU) (g:Nat) (l:LD) (a e:Int):let A:=(0,oC [D.nils,D.nils,D.nils,dB false]);let B:=[dL l [],dI a,dI e];let C:=AOp.load false 1;let E:=AOp.faddr 0;let F:=D.tuple B;let G:=xc (dI 0);goD (ctr (asmP F)) 1 rs28 sc28 { tm:=Zv 0 [dS src,dF g [] [dP 0 0]],ob:=[A] }=(Ow (FK 11 [dS src] F) (brT (!decide (e=(0:Int))) (Rt (D.tuple [dI a,dI e]) [A]) (Jm [Fr.sc (SC.seq (SC.spec (Sp.dfr [] (xt 18))) (SC.seq (SC.reg [so 19 C [xt 6],so 20 (AOp.build [dL [] [],dI 0] [(0,1)]) [xt 19],so 21 (AOp.build [D.nils,dI 0,D.nils,D.nils,D.nils,dB false] [(0,2)]) [xt 20],so 22 AOp.box [xt 21],so 7 AOp.mv [xt 22]]) (SC.seq (SC.spec (Sp.pan [so 23 AOp.mv [xt 1],so 24 AOp.mv [xt 7],SOp.cd (some 25) none (xt 23) [xt 24]])) (SC.seq (SC.seq (SC.drw [0,1,3,7,15,0,32,127] [so 26 AOp.mv [xt 7],so 27 AOp.nilck [xt 26],so 28 E [xt 27],so 29 (AOp.faddr 1) [xt 28],so 30 C [xt 29],so 31 C [xt 6],so 32 (AOp.len false) [xt 31],so 33 (AOp.bin BinOp.lss) [xt 30,xt 32]]) (SC.cond (xt 33) (SC.spec (Sp.pan [so 34 AOp.mv [xt 7],so 35 AOp.nilck [xt 34],so 36 E [xt 35],SOp.cd (some 37) none (xc (dF 54 [] [])) [xt 36,xc (dI 40)]])) SC.skip)) (SC.seq (SC.reg [SOp.st none (SK.c 1) (xt 4) G,SOp.st none (SK.c 1) (xt 5) G]) SC.ret)))))] { tm:=[(18,dF 53 [] [dP 3 0,dP 5 0,dP 6 0,dP 13 0]),(15,D.bool !decide (e=(0:Int))),(14,dI e),(6,dP 13 0),(13,dI e),(12,dI a),(11,dL l []),(8,D.tuple B),(10,D.tuple B),(9,dS src),(5,dP 6 0),(4,dP 5 0),(2,dP 3 0),(0,dS src),(1,dF g [] [dP 0 0])],ob:=[(6,oC [dI e]),(5,oC [dI a]),(13,oC [dL l []]),(3,oC [dS src]),A] })):Tr):=by intro A B C E F G;kernel_rfl
theorem Ze5 (src:LU) (g:Nat) (l:LD) (a e:Int):let A:=(0,oC [dU 0,D.nils,dU 0,dI 0,dS [],D.nils,dU 0,dI 0,dS [],D.nils,D.nils,dU 0,dI 0,dS [],D.nils,dU 0,dI 0,dS [],D.nils,D.nils]);let B:=[dL l [],dI a,dI e];let C:=AOp.load false 1;let E:=AOp.faddr 0;let F:=D.tuple B;let G:=xc (dI 0);goD (ctr (asmP F)) 1 rs28 sc28 { tm:=Zv 0 [dS src,dF g [] [dP 0 0]],ob:=[A] }=(Ow (FK 11 [dS src] F) (brT (!decide (e=(0:Int))) (Rt (D.tuple [dI a,dI e]) [A]) (Jm [Fr.sc (SC.seq (SC.spec (Sp.dfr [] (xt 18))) (SC.seq (SC.reg [so 19 C [xt 6],so 20 (AOp.build [dL [] [],dI 0] [(0,1)]) [xt 19],so 21 (AOp.build [D.nils,dI 0,D.nils,D.nils,D.nils,dB false] [(0,2)]) [xt 20],so 22 AOp.box [xt 21],so 7 AOp.mv [xt 22]]) (SC.seq (SC.spec (Sp.pan [so 23 AOp.mv [xt 1],so 24 AOp.mv [xt 7],SOp.cd (some 25) none (xt 23) [xt 24]])) (SC.seq (SC.seq (SC.drw [0,1,3,7,15,0,32,127] [so 26 AOp.mv [xt 7],so 27 AOp.nilck [xt 26],so 28 E [xt 27],so 29 (AOp.faddr 1) [xt 28],so 30 C [xt 29],so 31 C [xt 6],so 32 (AOp.len false) [xt 31],so 33 (AOp.bin BinOp.lss) [xt 30,xt 32]]) (SC.cond (xt 33) (SC.spec (Sp.pan [so 34 AOp.mv [xt 7],so 35 AOp.nilck [xt 34],so 36 E [xt 35],SOp.cd (some 37) none (xc (dF 54 [] [])) [xt 36,xc (dI 40)]])) SC.skip)) (SC.seq (SC.reg [SOp.st none (SK.c 1) (xt 4) G,SOp.st none (SK.c 1) (xt 5) G]) SC.ret)))))] { tm:=[(18,dF 53 [] [dP 3 0,dP 5 0,dP 6 0,dP 13 0]),(15,D.bool !decide (e=(0:Int))),(14,dI e),(6,dP 13 0),(13,dI e),(12,dI a),(11,dL l []),(8,D.tuple B),(10,D.tuple B),(9,dS src),(5,dP 6 0),(4,dP 5 0),(2,dP 3 0),(0,dS src),(1,dF g [] [dP 0 0])],ob:=[(6,oC [dI e]),(5,oC [dI a]),(13,oC [dL l []]),(3,oC [dS src]),A] })):Tr):=by intro A B C E F G;kernel_rfl
def rcvO:SC->List SOp
 | .seq (.spec (.rcv _ ops)) _=>ops
 | _=>[]
def rcvB:SC->SC
 | .seq (.spec (.rcv _ _)) b=>b
 | c=>c
def stR (u:FrameMode) (ob:Obs):St:=⟨(7,.raw (recM u).1)::Za 7 (Zv 0 [.ptr 0 0,.ptr 1 0,.ptr 2 0,.ptr 3 0]),ob⟩
def obR (src:LU) (a e:Int) (ts:List Tk):Obs:=[(0,.cells [.str src]),(1,.cells [.int .i64 a]),(2,.cells [.int .i64 e]),(3,.cells [.slice (ts.map Zq) []])]
theorem Zkq (src:LU) (a e:Int) (ts:List Tk):goRc Tryz.prog (ctr libT) 4 2000 (rcvO sc53) (rcvB sc53) (stR FrameMode.returning (obR src a e ts))=(Rt (D.tuple []) [(0,oC [dS src]),(1,oC [dI a]),(2,oC [dI e]),(3,oC [dL (List.map Zq ts) []])]:Tr):=by kernel_rfl
noncomputable def CdP (src:LU) (a e:Int) (ts:List Tk) (f:Nat) (fe k o:Int) (s:LU):Tr:=brT (decide ((↑f:Int)<(↑(List.length (List.map Zq ts)):Int))) (Ow ((0:Int)<=(↑f:Int)/\(List.map Zq ts)[Int.toNat (↑f:Int)]? = some [dU k,dS s,dI o]) (Rt (D.tuple []) [(0,oC [dS src]),(1,oC [dI o]),(2,oC [dI fe]),(3,oC [dL (List.map Zq ts) []])])) (Rt (D.tuple []) [(0,oC [dS src]),(1,oC [dI (↑(List.length src):Int)]),(2,oC [dI fe]),(3,oC [dL (List.map Zq ts) []])])
theorem Zec (src:LU) (a e:Int) (ts:List Tk) (f:Nat) (fe k o:Int) (s:LU):goRc Tryz.prog (ctr libT Z1j fun t x=>if t=24 then [dU k,dS s,dI o] else []) 4 2000 (rcvO sc53) (rcvB sc53) (stR (FrameMode.panicking [{ v:=fltV f fe,recovered:=false }]) (obR src a e ts))=CdP src a e ts f fe k o s:=by kernel_rfl
end Go.Proofs.YtecgehidegnmnaaGreatDoor
/- The parser: trees of what run calls. -/
namespace Go.Proofs.YtecgehidegnmnaaGreatDoor
open Go.Sx
open Go.Sx.Lx (Tk Zq)
def zsP:List D:=[.nils,.nils,.nils,.bool false]
def zsR:List D:=[.int .u8 0,.nils,.int .u8 0,.int .i64 0,.str [],.nils,.int .u8 0,.int .i64 0,.str [],.nils,.nils,.int .u8 0,.int .i64 0,.str [],.nils,.int .u8 0,.int .i64 0,.str [],.nils,.nils]
def psCz (zs:List D) (ts:List Tk) (i:Int):Obs:=[(0,.cells zs),(1,.cells [.slice (ts.map Zq) [],.int .i64 i,.nils,.nils,.nils,.bool false])]
theorem Zhf (ts:List Tk) (i:Int) (so b4:Bool) (rk4:Int) (rh4:LD) (k4a n4a:Int) (s4a:LU) (l4a:LD) (k4b n4b:Int) (s4b:LU) (l4b rb4:LD) (k4c n4c:Int) (s4c:LU) (l4c:LD) (k4d n4d:Int) (s4d:LU) (l4d rt4:LD) (j4:Int) (v4:Value) (r1 r2 r3:LD):let A:=[dU rk4,dL rh4 [],dU k4a,dI n4a,dS s4a,dL l4a [],dU k4b,dI n4b,dS s4b,dL l4b [],dL rb4 [],dU k4c,dI n4c,dS s4c,dL l4c [],dU k4d,dI n4d,dS s4d,dL l4d [],dL rt4 []];let B:=[(0,oC [dL (List.map Zq ts) [],dI i,D.nils,D.nils,D.nils,dB false])];let G:=psO ts j4 so r1 r2 r3;goT Tryz.prog { F:=fun x=>libT,C:=fun x=>psB b4 (dA A) G v4,E:=noE } 10 (finF false 10 rs32) 2000 [Fr.sc sc32] { tm:=Zv 0 ([]++[dP 1 0]++[dP 0 0]),ob:=psCz zsR ts i }=(brT b4 (Ow (CQ 33 [dP 0 0] B (dA A) G) (Rt (D.tuple []) [(0,oC A),(1,oC [dL (List.map Zq ts) [],dI j4,dV 10,dV 11,dV 12,dB so]),(10,oR true 20 42 r1),(11,oR true 5 53 r2),(12,oR true 2 138 r3)])) (Ow (CQ 33 [dP 0 0] B (D.pan v4) []) (Rt (D.pan v4) [(0,oC [dU 0,D.nils,dU 0,dI 0,dS [],D.nils,dU 0,dI 0,dS [],D.nils,D.nils,dU 0,dI 0,dS [],D.nils,dU 0,dI 0,dS [],D.nils,D.nils])])):Tr):=by intro A B G;kernel_rfl
theorem Zbm (ts:List Tk) (i:Int) (so b16:Bool) (j16:Int) (v16:Value) (r1 r2 r3:LD):goT Tryz.prog { F:=fun x=>libT,C:=fun x=>psB b16 (D.tuple []) (psO ts j16 so r1 r2 r3) v16,E:=noE } 10 (finF false 10 rs29) 2000 [Fr.sc sc29] { tm:=Zv 0 ([]++[dP 1 0]++[dP 0 0]),ob:=psCz zsP ts i }=(Jm (cut sc29 0) { tm:=[(0,dP 1 0),(1,dP 0 0)],ob:=[(0,oC [D.nils,D.nils,D.nils,dB false]),(1,oC [dL (List.map Zq ts) [],dI i,D.nils,D.nils,D.nils,dB false])] }:Tr):=by kernel_rfl
def Zgs (ts:List Tk) (i:Int):St:=⟨[(0,.ptr 1 0),(1,.ptr 0 0)],psCz zsP ts i⟩
theorem Z6s (ts:List Tk) (i:Int) (so so2:Bool) (q1 q2 q3:LD) (b16:Bool) (j16:Int) (v16:Value) (r1 r2 r3:LD):let A:=[dL (List.map Zq ts) [],dI i,D.nils,D.nils,D.nils,dB false];let B:=(0,oC [D.nils,D.nils,D.nils,dB false]);let G:=List.map Zq ts;let H:=D.tuple [];let I:=cut sc29 0;let J:=D.pan v16;goT Tryz.prog { F:=fun x=>libT,C:=fun x=>psB b16 H (psN3 ts j16 so2 q1 q2 q3) v16,E:=noE } 10 (finF false 10 rs29) 2000 I (Zgs ts i)=(brT (decide (i<(↑(List.length G):Int))) (brT b16 (Ow (CQ 30 [dP 0 0] [(0,oC A)] H [(0,oC [dL G [],dI j16,dV 11,dV 12,dV 13,dB so2]),(11,oR true 20 42 q1),(12,oR true 5 53 q2),(13,oR true 2 138 q3)]) (Jm I { tm:=[(0,dP 1 0),(1,dP 0 0)],ob:=[B,(1,oC [dL G [],dI j16,dV 10,dV 11,dV 12,dB so2]),(10,oR true 20 42 q1),(11,oR true 5 53 q2),(12,oR true 2 138 q3)] })) (Ow (CQ 30 [dP 0 0] [(0,oC A)] J []) (Rt J [B]))) (Rt H [(0,oC [dL [] [],dL [] [],dL [] [],dB false]),(1,oC A)]):Tr):=by intro A B G H I J;kernel_rfl
def ZiO (ts:List Tk) (i:Int) (so:Bool) (r1 r2 r3:LD):St:=⟨[(0,.ptr 1 0),(1,.ptr 0 0)],[(0,.cells zsP),(1,.cells [.slice (ts.map Zq) [],.int .i64 i,.vec 10,.vec 11,.vec 12,.bool so]),(10,.arr true 20 42 r1),(11,.arr true 5 53 r2),(12,.arr true 2 138 r3)]⟩
theorem Z6r (ts:List Tk) (i:Int) (so so2:Bool) (q1 q2 q3:LD) (b16:Bool) (j16:Int) (v16:Value) (r1 r2 r3:LD):let A:=List.map Zq ts;let B:=(0,oC [D.nils,D.nils,D.nils,dB false]);let G:=D.tuple [];let H:=psO ts i so r1 r2 r3;let I:=cut sc29 0;let J:=D.pan v16;goT Tryz.prog { F:=fun x=>libT,C:=fun x=>psB b16 G (psN3 ts j16 so2 q1 q2 q3) v16,E:=noE } 10 (finF false 10 rs29) 2000 I (ZiO ts i so r1 r2 r3)=(brT (decide (i<(↑(List.length A):Int))) (brT b16 (Ow (CQ 30 [dP 0 0] H G [(0,oC [dL A [],dI j16,dV 11,dV 12,dV 13,dB so2]),(11,oR true 20 42 q1),(12,oR true 5 53 q2),(13,oR true 2 138 q3)]) (Jm I { tm:=[(0,dP 1 0),(1,dP 0 0)],ob:=[B,(1,oC [dL A [],dI j16,dV 10,dV 11,dV 12,dB so2]),(10,oR true 20 42 q1),(11,oR true 5 53 q2),(12,oR true 2 138 q3)] })) (Ow (CQ 30 [dP 0 0] H J []) (Rt J [B]))) (Rt G [(0,oC [dL r1 [],dL r2 [],dL r3 [],dB so]),(1,oC [dL A [],dI i,dV 10,dV 11,dV 12,dB so]),(10,oR true 20 42 r1),(11,oR true 5 53 r2),(12,oR true 2 138 r3)]):Tr):=by intro A B G H I J;kernel_rfl
def psCr (cs:List D) (ts:List Tk) (i:Int) (so:Bool) (r1 r2 r3:LD):Obs:=[(0,.cells cs),(1,.cells [.slice (ts.map Zq) [],.int .i64 i,.vec 10,.vec 11,.vec 12,.bool so]),(10,.arr true 20 42 r1),(11,.arr true 5 53 r2),(12,.arr true 2 138 r3)]
def stRn (zs:List D) (src:LU) (g:Nat) (l:LD) (a e:Int):St:=⟨[(18,.func (.func 53) [] [.ptr 3 0,.ptr 5 0,.ptr 6 0,.ptr 13 0]),(15,.bool (!decide (e=0))),(14,.int .i64 e),(6,.ptr 13 0),(13,.int .i64 e),(12,.int .i64 a),(11,.slice l []),(8,.tuple [.slice l [],.int .i64 a,.int .i64 e]),(10,.tuple [.slice l [],.int .i64 a,.int .i64 e]),(9,.str src),(5,.ptr 6 0),(4,.ptr 5 0),(2,.ptr 3 0),(0,.str src),(1,.func (.func g) [] [.ptr 0 0])],[(6,.cells [.int .i64 e]),(5,.cells [.int .i64 a]),(13,.cells [.slice l []]),(3,.cells [.str src]),(0,.cells zs)]⟩
theorem Zb9 (src:LU) (g:Nat) (ts:List Tk) (a e a' e':Int) (l1 l2 l3:LD) (cb b25:Bool) (v25 v37:Value) (j:Int) (so:Bool) (r1 r2 r3:LD):let A:=List.map Zq ts;let B:=(0,oC [D.nils,D.nils,D.nils,dB false]);let G:=[dL l1 [],dL l2 [],dL l3 [],dB cb];let H:=dF 53 [] [dP 0 0,dP 1 0,dP 2 0,dP 3 0];let I:=(3,oC [dL A []]);let J:=(0,oC [dS src]);let K:=[B,(1,oC [dL A [],dI 0,D.nils,D.nils,D.nils,dB false])];let L:=[J,(1,oC [dI a']),(2,oC [dI e']),I];let M:=[J,(1,oC [dI a]),(2,oC [dI e]),I];let N:=[J,(1,oC [dI 0]),(2,oC [dI 0]),I];let O:=D.tuple [dI a',dI e'];let P:=dF g [] [dP 0 0];goT Tryz.prog { F:=fun x=>libT,C:=fun n=>if n=25 then psP b25 (D.tuple []) (psCr G ts j so r1 r2 r3) v25 [(0,oC zsP)] else psB false D.undef [] v37,E:=noE } 20 (Zan Tryz.prog (tDR a' e') 1 20 rs28 clR) 2000 [Fr.sc (dfrB sc28)] (stRn zsP src g A a e)=(brT b25 (Ow (CallL Tryz.prog P [dP 1 0] K fun r0 ob0=>r0=D.tuple []/\ob0=[(0,oC G),(1,oC [dL A [],dI j,dV 10,dV 11,dV 12,dB so]),(10,oR true 20 42 r1),(11,oR true 5 53 r2),(12,oR true 2 138 r3)]) (brT (decide (j<(↑(List.length A):Int))) (Ow (CQ 54 [dP 0 0,dI 40] (psO ts j so r1 r2 r3) (D.pan v37) []) (Ow (Sx.CallD Tryz.prog (FrameMode.panicking [{ v:=v37,recovered:=false }]) H M fun u0 ob0=>u0=FrameMode.panicking [{ v:=v37,recovered:=true }]/\ob0=L) (Rt O [(0,oC G)]))) (Ow (Sx.CallD Tryz.prog FrameMode.returning H N fun u0 ob0=>u0=FrameMode.returning/\ob0=N) (Rt (D.tuple [dI 0,dI 0]) [(0,oC G)])))) (Ow (CallL Tryz.prog P [dP 1 0] K fun r0 ob0=>r0=D.pan v25/\ob0=[B]) (Ow (Sx.CallD Tryz.prog (FrameMode.panicking [{ v:=v25,recovered:=false }]) H M fun u0 ob0=>u0=FrameMode.panicking [{ v:=v25,recovered:=true }]/\ob0=L) (Rt O [B]))):Tr):=by intro A B G H I J K L M N O P;kernel_rfl
theorem Zb8 (src:LU) (g:Nat) (ts:List Tk) (a e a' e' rkz:Int) (rhz:LD) (kza nza:Int) (sza:LU) (lza:LD) (kzb nzb:Int) (szb:LU) (lzb rbz:LD) (kzc nzc:Int) (szc:LU) (lzc:LD) (kzd nzd:Int) (szd:LU) (lzd rtz:LD) (b25:Bool) (v25 v37:Value) (j:Int) (so:Bool) (r1 r2 r3:LD):let A:=[dU rkz,dL rhz [],dU kza,dI nza,dS sza,dL lza [],dU kzb,dI nzb,dS szb,dL lzb [],dL rbz [],dU kzc,dI nzc,dS szc,dL lzc [],dU kzd,dI nzd,dS szd,dL lzd [],dL rtz []];let B:=(0,oC [dU 0,D.nils,dU 0,dI 0,dS [],D.nils,dU 0,dI 0,dS [],D.nils,D.nils,dU 0,dI 0,dS [],D.nils,dU 0,dI 0,dS [],D.nils,D.nils]);let G:=List.map Zq ts;let H:=dF 53 [] [dP 0 0,dP 1 0,dP 2 0,dP 3 0];let I:=(3,oC [dL G []]);let J:=(0,oC [dS src]);let K:=[B,(1,oC [dL G [],dI 0,D.nils,D.nils,D.nils,dB false])];let L:=[J,(1,oC [dI a']),(2,oC [dI e']),I];let M:=[J,(1,oC [dI a]),(2,oC [dI e]),I];let N:=[J,(1,oC [dI 0]),(2,oC [dI 0]),I];let O:=D.tuple [dI a',dI e'];let P:=dF g [] [dP 0 0];goT Tryz.prog { F:=fun x=>libT,C:=fun n=>if n=25 then psP b25 (D.tuple []) (psCr A ts j so r1 r2 r3) v25 [(0,oC zsR)] else psB false D.undef [] v37,E:=noE } 20 (Zan Tryz.prog (tDR a' e') 1 20 rs28 clR) 2000 [Fr.sc (dfrB sc28)] (stRn zsR src g G a e)=(brT b25 (Ow (CallL Tryz.prog P [dP 1 0] K fun r0 ob0=>r0=D.tuple []/\ob0=[(0,oC A),(1,oC [dL G [],dI j,dV 10,dV 11,dV 12,dB so]),(10,oR true 20 42 r1),(11,oR true 5 53 r2),(12,oR true 2 138 r3)]) (brT (decide (j<(↑(List.length G):Int))) (Ow (CQ 54 [dP 0 0,dI 40] (psO ts j so r1 r2 r3) (D.pan v37) []) (Ow (Sx.CallD Tryz.prog (FrameMode.panicking [{ v:=v37,recovered:=false }]) H M fun u0 ob0=>u0=FrameMode.panicking [{ v:=v37,recovered:=true }]/\ob0=L) (Rt O [(0,oC A)]))) (Ow (Sx.CallD Tryz.prog FrameMode.returning H N fun u0 ob0=>u0=FrameMode.returning/\ob0=N) (Rt (D.tuple [dI 0,dI 0]) [(0,oC A)])))) (Ow (CallL Tryz.prog P [dP 1 0] K fun r0 ob0=>r0=D.pan v25/\ob0=[B]) (Ow (Sx.CallD Tryz.prog (FrameMode.panicking [{ v:=v25,recovered:=false }]) H M fun u0 ob0=>u0=FrameMode.panicking [{ v:=v25,recovered:=true }]/\ob0=L) (Rt O [B]))):Tr):=by intro A B G H I J K L M N O P;kernel_rfl
theorem Zh4 (src:LU) (g:Nat) (ts:List Tk) (a e:Int):let A:=List.map Zq ts;let B:=[dL [] [],dL [] [],dL [] [],dB false];let G:=[(0,oC [dS src]),(1,oC [dI 0]),(2,oC [dI 0]),(3,oC [dL A []])];let H:=(1,oC [dL A [],dI 0,D.nils,D.nils,D.nils,dB false]);goT Tryz.prog { F:=fun x=>libT,C:=fun n=>if n=25 then psQ (D.tuple []) (psCz B ts (0:Int)) else Z1j,E:=noE } 20 (Zan Tryz.prog (tDR (0:Int) (0:Int)) 1 20 rs28 clR) 2000 [Fr.sc (dfrB sc28)] (stRn zsP src g A a e)=(Ow (CallL Tryz.prog (dF g [] [dP 0 0]) [dP 1 0] [(0,oC [D.nils,D.nils,D.nils,dB false]),H] fun r0 ob0=>r0=D.tuple []/\ob0=[(0,oC B),H]) (brT (decide ((0:Int)<(↑(List.length A):Int))) Tr.bad (Ow (Sx.CallD Tryz.prog FrameMode.returning (dF 53 [] [dP 0 0,dP 1 0,dP 2 0,dP 3 0]) G fun u0 ob0=>u0=FrameMode.returning/\ob0=G) (Rt (D.tuple [dI 0,dI 0]) [(0,oC B)]))):Tr):=by intro A B G H;kernel_rfl
end Go.Proofs.YtecgehidegnmnaaGreatDoor
