/- Own work: a layer over the kit: plain data,a walk over it,its soundness. -/
import Derived.Test.YtecgehidegnmnaaGreatDoorPrDH
import Derived.Test.YtecgehidegnmnaaGreatDoorShape
set_option linter.unusedSectionVars false
set_option linter.unusedVariables false
set_option linter.unusedSimpArgs false
set_option linter.deprecated false
set_option maxRecDepth 100000
/- The parser: costs,rules. -/
open Go.Sx.Ps (Zf Zo Z0q Z1 Z9 z0 PR Zs ZX ZO Qw Z0 zR ZM Zy Z0J Zg Z1P QK Z6)
namespace Go.Proofs.YtecgehidegnmnaaGreatDoor
open Go.Sx
open Go.Sx.Lx (Tk Zq)
open Go.Sx.Ps (kT nmT W Sm)
abbrev ruE (r:Ru):D:= .agg [.int .u8 r.k,.slice (heL r.h) [],.int .u8 (kT r.lo:Nat),.int .i64 (nT r.lo),.str (nmT r.lo),.slice (Tm.cellsL (Ps.arT r.lo)) [],.int .u8 (kT r.up:Nat),.int .i64 (nT r.up),.str (nmT r.up),.slice (Tm.cellsL (Ps.arT r.up)) [],.slice (boL r.b) [],.int .u8 (kT r.w:Nat),.int .i64 (nT r.w),.str (nmT r.w),.slice (Tm.cellsL (Ps.arT r.w)) [],.int .u8 (kT r.lv:Nat),.int .i64 (nT r.lv),.str (nmT r.lv),.slice (Tm.cellsL (Ps.arT r.lv)) [],.slice (Tm.cellsL r.t) []]
theorem Z9n (r:Ru):ruE r= .agg (Ru.cs r):=by
 obtain⟨k,h,⟨k1,n1,s1,a1⟩,⟨k2,n2,s2,a2⟩,b,⟨k3,n3,s3,a3⟩,⟨k4,n4,s4,a4⟩,t⟩:=r; rfl
theorem qCho (p:PS) (lo:Tm) (i:Nat):CF 109 [.ptr 0 0,tmE lo] (p.o i) (RS p.o ruE (Zf p.ts lo i)):=by
 refine Z0L (CallL.tree Z7 Zjt (ZF Z3 fun _=>(Z4 (Z2 _ _ _ _) (Z4 (Zi _ _) (Z2 _ _ _ _)))) (Zhs p.ts i p.so (kT lo:Nat) (nT lo) (nmT lo) (Tm.cellsL (Ps.arT lo)) (Zo p.ts (Z0q p.ts) i).isOk (heL ((Zo p.ts (Z0q p.ts) i).val [])) (Zo p.ts (Z0q p.ts) i).pos (flt (Zo p.ts (Z0q p.ts) i)) (Z1 p.ts ((Zo p.ts (Z0q p.ts) i).pos) [[58,45],[46]]) (Z9 p.ts (Zo p.ts (Z0q p.ts) i).pos).isOk (kT ((Z9 p.ts (Zo p.ts (Z0q p.ts) i).pos).val z0):Nat) (nT ((Z9 p.ts (Zo p.ts (Z0q p.ts) i).pos).val z0)) (nmT ((Z9 p.ts (Zo p.ts (Z0q p.ts) i).pos).val z0)) (Tm.cellsL (Ps.arT ((Z9 p.ts (Zo p.ts (Z0q p.ts) i).pos).val z0))) (Z9 p.ts (Zo p.ts (Z0q p.ts) i).pos).pos (flt (Z9 p.ts (Zo p.ts (Z0q p.ts) i).pos)) p.r1 p.r2 p.r3) ?_)
 unfold PCho Zf
 simp only[SS]
 refine psX [] (qBrH p _ (Z0q p.ts) i (qCh1 p) fun k a m hx=>w_le (Ps.Z8I (Sm.self p.ts) k) hx) (fun l j h1=> ?_) fun a e h1=> ?_
 ·simp only[h1,PR.bind,PR.pos,PR.val]
  refine⟨Z1J p j [[58,45],[46]] [] (by simp),fun h2=> ?_,fun h2=> ?_⟩
  ·simp only[h2,Bool.false_eq_true,if_false]
   refine psX z0 (Z3o p j).1 (fun u k h3=> ?_) fun a e h3=> ?_
   ·simp only[h3,PR.pos,PR.val]; exact⟨rfl,rfl⟩
   ·simp only[h3]; exact rfl
  ·simp only[h2,if_true]; exact⟨rfl,rfl⟩
 ·simp only[h1,PR.bind]; exact rfl
theorem Zix (p:PS) (i:Nat):Mth 99 (p.o i) (RS p.o ruE (Zs p.ts i)):=by
 refine Mth.rs (Mth.tree fp99 (ZF Z3 fun _=>(Z4 (Z2 _ _ _ _) (Z4 (Zi _ _) (Z4 (Z2 _ _ _ _) (Z4 (Zi _ _) (Z2 _ _ _ _)))))) (Zdg p.ts i p.so  (Z9 p.ts i).isOk (kT ((Z9 p.ts i).val z0):Nat) (nT ((Z9 p.ts i).val z0)) (nmT ((Z9 p.ts i).val z0)) (Tm.cellsL (Ps.arT ((Z9 p.ts i).val z0))) (Z9 p.ts i).pos (flt (Z9 p.ts i)) (Z1 p.ts ((Z9 p.ts i).pos) [[64]]) ((if Z1 p.ts ((Z9 p.ts i).pos) [[64]]=true then (Z9 p.ts i).pos+1 else (Z9 p.ts i).pos:Nat):Int) (Z9 p.ts ((Z9 p.ts i).pos+1)).isOk (kT ((Z9 p.ts ((Z9 p.ts i).pos+1)).val z0):Nat) (nT ((Z9 p.ts ((Z9 p.ts i).pos+1)).val z0)) (nmT ((Z9 p.ts ((Z9 p.ts i).pos+1)).val z0)) (Tm.cellsL (Ps.arT ((Z9 p.ts ((Z9 p.ts i).pos+1)).val z0))) (Z9 p.ts ((Z9 p.ts i).pos+1)).pos (flt (Z9 p.ts ((Z9 p.ts i).pos+1))) (Z1 p.ts ((if Z1 p.ts (Z9 p.ts i).pos [[64]]=true then (Z9 p.ts ((Z9 p.ts i).pos+1)).pos else (Z9 p.ts i).pos)) [[44]]) ((if Z1 p.ts ((if Z1 p.ts (Z9 p.ts i).pos [[64]]=true then (Z9 p.ts ((Z9 p.ts i).pos+1)).pos else (Z9 p.ts i).pos)) [[44]]=true then (if Z1 p.ts (Z9 p.ts i).pos [[64]]=true then (Z9 p.ts ((Z9 p.ts i).pos+1)).pos else (Z9 p.ts i).pos)+1 else (if Z1 p.ts (Z9 p.ts i).pos [[64]]=true then (Z9 p.ts ((Z9 p.ts i).pos+1)).pos else (Z9 p.ts i).pos):Nat):Int) (ZX p.ts ((if Z1 p.ts (Z9 p.ts i).pos [[64]]=true then (Z9 p.ts ((Z9 p.ts i).pos+1)).pos else (Z9 p.ts i).pos)+1)).isOk (Tm.cellsL ((ZX p.ts ((if Z1 p.ts (Z9 p.ts i).pos [[64]]=true then (Z9 p.ts ((Z9 p.ts i).pos+1)).pos else (Z9 p.ts i).pos)+1)).val [])) (ZX p.ts ((if Z1 p.ts (Z9 p.ts i).pos [[64]]=true then (Z9 p.ts ((Z9 p.ts i).pos+1)).pos else (Z9 p.ts i).pos)+1)).pos (flt (ZX p.ts ((if Z1 p.ts (Z9 p.ts i).pos [[64]]=true then (Z9 p.ts ((Z9 p.ts i).pos+1)).pos else (Z9 p.ts i).pos)+1))) p.r1 p.r2 p.r3) ?_)
 unfold Zkd Zs
 simp only[SS]
 refine psX z0 (Z3o p i).1 (fun w j h1=> ?_) fun a e h1=> ?_
 ·simp only[h1,PR.bind,PR.pos,PR.val]
  refine⟨Q6 p j [[64]] [] (by simp),fun h2=> ?_,fun h2=> ?_⟩
  ·simp only[h2,if_true]
   refine psX z0 (Z3o p (j+1)).1 (fun lv k h3=> ?_) fun a e h3=> ?_
   ·simp only[h3,PR.bind,PR.pos,PR.val]
    refine⟨Q6 p k [[44]] [] (by simp),fun h4=> ?_,fun h4=> ?_⟩
    ·simp only[h4,if_true]
     refine psX [] (qTup p (k+1)).1 (fun tu m h5=> ?_) fun a e h5=> ?_
     ·simp only[h5,PR.pos,PR.val]; exact⟨rfl,rfl⟩
     ·simp only[h5]; exact rfl
    ·simp only[h4,Bool.false_eq_true,if_false]; exact⟨rfl,rfl⟩
   ·simp only[h3,PR.bind]; exact rfl
  ·simp only[h2,Bool.false_eq_true,if_false]
   refine⟨Q6 p j [[44]] [] (by simp),fun h4=> ?_,fun h4=> ?_⟩
   ·simp only[h4,if_true]
    refine psX [] (qTup p (j+1)).1 (fun tu m h5=> ?_) fun a e h5=> ?_
    ·simp only[h5,PR.pos,PR.val]; exact⟨rfl,rfl⟩
    ·simp only[h5]; exact rfl
   ·simp only[h4,Bool.false_eq_true,if_false]; exact⟨rfl,rfl⟩
 ·simp only[h1,PR.bind]; exact rfl
theorem ZkK (p:PS) (hB: ∀ i,CF 67 [.ptr 0 0] (p.o i) (RS p.o (fun l:List Bo=> .slice (boL l) []) (ZO p.ts i))) (i:Nat):Mth 64 (p.o i) (RS p.o ruE (Qw p.ts i)):=by
 refine Mth.rs (Mth.tree fp64 (ZF Z3 fun _=>(Z4 (Z2 _ _ _ _) (Z4 (Zi _ _) (Z4 (Z2 _ _ _ _) (Z4 (Z2 _ _ _ _) (Z4 (Z2 _ _ _ _) (Z4 (Z2 _ _ _ _) (Z2 _ _ _ _)))))))) (ZcV p.ts i p.so  (Z0 p.ts [58,126] i).isOk  (Z0 p.ts [58,126] i).pos (flt (Z0 p.ts [58,126] i)) (Z1 p.ts ((Z0 p.ts [58,126] i).pos) [[46]]) (ZO p.ts (Z0 p.ts [58,126] i).pos).isOk (boL ((ZO p.ts (Z0 p.ts [58,126] i).pos).val [])) (ZO p.ts (Z0 p.ts [58,126] i).pos).pos (flt (ZO p.ts (Z0 p.ts [58,126] i).pos)) (Z0 p.ts [46] (if Z1 p.ts (Z0 p.ts [58,126] i).pos [[46]]=true then (Z0 p.ts [58,126] i).pos else (ZO p.ts (Z0 p.ts [58,126] i).pos).pos)).isOk  (Z0 p.ts [46] (if Z1 p.ts (Z0 p.ts [58,126] i).pos [[46]]=true then (Z0 p.ts [58,126] i).pos else (ZO p.ts (Z0 p.ts [58,126] i).pos).pos)).pos (flt (Z0 p.ts [46] (if Z1 p.ts (Z0 p.ts [58,126] i).pos [[46]]=true then (Z0 p.ts [58,126] i).pos else (ZO p.ts (Z0 p.ts [58,126] i).pos).pos))) (Z0 p.ts [91] (Z0 p.ts [46] (if Z1 p.ts (Z0 p.ts [58,126] i).pos [[46]]=true then (Z0 p.ts [58,126] i).pos else (ZO p.ts (Z0 p.ts [58,126] i).pos).pos)).pos).isOk  (Z0 p.ts [91] (Z0 p.ts [46] (if Z1 p.ts (Z0 p.ts [58,126] i).pos [[46]]=true then (Z0 p.ts [58,126] i).pos else (ZO p.ts (Z0 p.ts [58,126] i).pos).pos)).pos).pos (flt (Z0 p.ts [91] (Z0 p.ts [46] (if Z1 p.ts (Z0 p.ts [58,126] i).pos [[46]]=true then (Z0 p.ts [58,126] i).pos else (ZO p.ts (Z0 p.ts [58,126] i).pos).pos)).pos)) (Zs p.ts (Z0 p.ts [91] (Z0 p.ts [46] (if Z1 p.ts (Z0 p.ts [58,126] i).pos [[46]]=true then (Z0 p.ts [58,126] i).pos else (ZO p.ts (Z0 p.ts [58,126] i).pos).pos)).pos).pos).isOk (((Zs p.ts (Z0 p.ts [91] (Z0 p.ts [46] (if Z1 p.ts (Z0 p.ts [58,126] i).pos [[46]]=true then (Z0 p.ts [58,126] i).pos else (ZO p.ts (Z0 p.ts [58,126] i).pos).pos)).pos).pos).val zR).k:Nat) (heL ((Zs p.ts (Z0 p.ts [91] (Z0 p.ts [46] (if Z1 p.ts (Z0 p.ts [58,126] i).pos [[46]]=true then (Z0 p.ts [58,126] i).pos else (ZO p.ts (Z0 p.ts [58,126] i).pos).pos)).pos).pos).val zR).h) (kT ((Zs p.ts (Z0 p.ts [91] (Z0 p.ts [46] (if Z1 p.ts (Z0 p.ts [58,126] i).pos [[46]]=true then (Z0 p.ts [58,126] i).pos else (ZO p.ts (Z0 p.ts [58,126] i).pos).pos)).pos).pos).val zR).lo:Nat) (nT ((Zs p.ts (Z0 p.ts [91] (Z0 p.ts [46] (if Z1 p.ts (Z0 p.ts [58,126] i).pos [[46]]=true then (Z0 p.ts [58,126] i).pos else (ZO p.ts (Z0 p.ts [58,126] i).pos).pos)).pos).pos).val zR).lo) (nmT ((Zs p.ts (Z0 p.ts [91] (Z0 p.ts [46] (if Z1 p.ts (Z0 p.ts [58,126] i).pos [[46]]=true then (Z0 p.ts [58,126] i).pos else (ZO p.ts (Z0 p.ts [58,126] i).pos).pos)).pos).pos).val zR).lo) (Tm.cellsL (Ps.arT ((Zs p.ts (Z0 p.ts [91] (Z0 p.ts [46] (if Z1 p.ts (Z0 p.ts [58,126] i).pos [[46]]=true then (Z0 p.ts [58,126] i).pos else (ZO p.ts (Z0 p.ts [58,126] i).pos).pos)).pos).pos).val zR).lo)) (kT ((Zs p.ts (Z0 p.ts [91] (Z0 p.ts [46] (if Z1 p.ts (Z0 p.ts [58,126] i).pos [[46]]=true then (Z0 p.ts [58,126] i).pos else (ZO p.ts (Z0 p.ts [58,126] i).pos).pos)).pos).pos).val zR).up:Nat) (nT ((Zs p.ts (Z0 p.ts [91] (Z0 p.ts [46] (if Z1 p.ts (Z0 p.ts [58,126] i).pos [[46]]=true then (Z0 p.ts [58,126] i).pos else (ZO p.ts (Z0 p.ts [58,126] i).pos).pos)).pos).pos).val zR).up) (nmT ((Zs p.ts (Z0 p.ts [91] (Z0 p.ts [46] (if Z1 p.ts (Z0 p.ts [58,126] i).pos [[46]]=true then (Z0 p.ts [58,126] i).pos else (ZO p.ts (Z0 p.ts [58,126] i).pos).pos)).pos).pos).val zR).up) (Tm.cellsL (Ps.arT ((Zs p.ts (Z0 p.ts [91] (Z0 p.ts [46] (if Z1 p.ts (Z0 p.ts [58,126] i).pos [[46]]=true then (Z0 p.ts [58,126] i).pos else (ZO p.ts (Z0 p.ts [58,126] i).pos).pos)).pos).pos).val zR).up)) (boL ((Zs p.ts (Z0 p.ts [91] (Z0 p.ts [46] (if Z1 p.ts (Z0 p.ts [58,126] i).pos [[46]]=true then (Z0 p.ts [58,126] i).pos else (ZO p.ts (Z0 p.ts [58,126] i).pos).pos)).pos).pos).val zR).b) (kT ((Zs p.ts (Z0 p.ts [91] (Z0 p.ts [46] (if Z1 p.ts (Z0 p.ts [58,126] i).pos [[46]]=true then (Z0 p.ts [58,126] i).pos else (ZO p.ts (Z0 p.ts [58,126] i).pos).pos)).pos).pos).val zR).w:Nat) (nT ((Zs p.ts (Z0 p.ts [91] (Z0 p.ts [46] (if Z1 p.ts (Z0 p.ts [58,126] i).pos [[46]]=true then (Z0 p.ts [58,126] i).pos else (ZO p.ts (Z0 p.ts [58,126] i).pos).pos)).pos).pos).val zR).w) (nmT ((Zs p.ts (Z0 p.ts [91] (Z0 p.ts [46] (if Z1 p.ts (Z0 p.ts [58,126] i).pos [[46]]=true then (Z0 p.ts [58,126] i).pos else (ZO p.ts (Z0 p.ts [58,126] i).pos).pos)).pos).pos).val zR).w) (Tm.cellsL (Ps.arT ((Zs p.ts (Z0 p.ts [91] (Z0 p.ts [46] (if Z1 p.ts (Z0 p.ts [58,126] i).pos [[46]]=true then (Z0 p.ts [58,126] i).pos else (ZO p.ts (Z0 p.ts [58,126] i).pos).pos)).pos).pos).val zR).w)) (kT ((Zs p.ts (Z0 p.ts [91] (Z0 p.ts [46] (if Z1 p.ts (Z0 p.ts [58,126] i).pos [[46]]=true then (Z0 p.ts [58,126] i).pos else (ZO p.ts (Z0 p.ts [58,126] i).pos).pos)).pos).pos).val zR).lv:Nat) (nT ((Zs p.ts (Z0 p.ts [91] (Z0 p.ts [46] (if Z1 p.ts (Z0 p.ts [58,126] i).pos [[46]]=true then (Z0 p.ts [58,126] i).pos else (ZO p.ts (Z0 p.ts [58,126] i).pos).pos)).pos).pos).val zR).lv) (nmT ((Zs p.ts (Z0 p.ts [91] (Z0 p.ts [46] (if Z1 p.ts (Z0 p.ts [58,126] i).pos [[46]]=true then (Z0 p.ts [58,126] i).pos else (ZO p.ts (Z0 p.ts [58,126] i).pos).pos)).pos).pos).val zR).lv) (Tm.cellsL (Ps.arT ((Zs p.ts (Z0 p.ts [91] (Z0 p.ts [46] (if Z1 p.ts (Z0 p.ts [58,126] i).pos [[46]]=true then (Z0 p.ts [58,126] i).pos else (ZO p.ts (Z0 p.ts [58,126] i).pos).pos)).pos).pos).val zR).lv)) (Tm.cellsL ((Zs p.ts (Z0 p.ts [91] (Z0 p.ts [46] (if Z1 p.ts (Z0 p.ts [58,126] i).pos [[46]]=true then (Z0 p.ts [58,126] i).pos else (ZO p.ts (Z0 p.ts [58,126] i).pos).pos)).pos).pos).val zR).t) (Zs p.ts (Z0 p.ts [91] (Z0 p.ts [46] (if Z1 p.ts (Z0 p.ts [58,126] i).pos [[46]]=true then (Z0 p.ts [58,126] i).pos else (ZO p.ts (Z0 p.ts [58,126] i).pos).pos)).pos).pos).pos (flt (Zs p.ts (Z0 p.ts [91] (Z0 p.ts [46] (if Z1 p.ts (Z0 p.ts [58,126] i).pos [[46]]=true then (Z0 p.ts [58,126] i).pos else (ZO p.ts (Z0 p.ts [58,126] i).pos).pos)).pos).pos)) (Z0 p.ts [93] (Zs p.ts (Z0 p.ts [91] (Z0 p.ts [46] (if Z1 p.ts (Z0 p.ts [58,126] i).pos [[46]]=true then (Z0 p.ts [58,126] i).pos else (ZO p.ts (Z0 p.ts [58,126] i).pos).pos)).pos).pos).pos).isOk  (Z0 p.ts [93] (Zs p.ts (Z0 p.ts [91] (Z0 p.ts [46] (if Z1 p.ts (Z0 p.ts [58,126] i).pos [[46]]=true then (Z0 p.ts [58,126] i).pos else (ZO p.ts (Z0 p.ts [58,126] i).pos).pos)).pos).pos).pos).pos (flt (Z0 p.ts [93] (Zs p.ts (Z0 p.ts [91] (Z0 p.ts [46] (if Z1 p.ts (Z0 p.ts [58,126] i).pos [[46]]=true then (Z0 p.ts [58,126] i).pos else (ZO p.ts (Z0 p.ts [58,126] i).pos).pos)).pos).pos).pos)) p.r1 p.r2 p.r3) ?_)
 unfold ZjX Qw
 simp only[SS]
 refine psX () (ZH (Qm p i [58,126])) (fun _ j h1=> ?_) fun a e h1=> ?_
 ·simp only[h1,PR.bind,PR.pos,PR.val]
  refine⟨Z1J p j [[46]] [] (by simp),fun h2=> ?_,fun h2=> ?_⟩
  ·simp only[h2,Bool.false_eq_true,if_false]
   refine psX [] (hB j) (fun b k h3=> ?_) fun a e h3=> ?_
   ·simp only[h3,PR.bind,PR.pos,PR.val]
    refine psX () (ZH (Qm p k [46])) (fun _ m h4=> ?_) fun a e h4=> ?_
    ·simp only[h4,PR.bind,PR.pos,PR.val]
     refine psX () (ZH (Qm p m [91])) (fun _ o h5=> ?_) fun a e h5=> ?_
     ·simp only[h5,PR.bind,PR.pos,PR.val]
      refine psX zR (Zix p o).1 (fun r q h6=> ?_) fun a e h6=> ?_
      ·simp only[h6,PR.bind,PR.pos,PR.val]
       refine psX () (ZH (Qm p q [93])) (fun _ u h7=> ?_) fun a e h7=> ?_
       ·simp only[h7,PR.pos]; exact⟨rfl,rfl⟩
       ·simp only[h7]; exact rfl
      ·simp only[h6,PR.bind]; exact rfl
     ·simp only[h5,PR.bind]; exact rfl
    ·simp only[h4,PR.bind]; exact rfl
   ·simp only[h3,PR.bind]; exact rfl
  ·simp only[h2,if_true,PR.bind]
   refine psX () (ZH (Qm p j [46])) (fun _ m h4=> ?_) fun a e h4=> ?_
   ·simp only[h4,PR.bind,PR.pos,PR.val]
    refine psX () (ZH (Qm p m [91])) (fun _ o h5=> ?_) fun a e h5=> ?_
    ·simp only[h5,PR.bind,PR.pos,PR.val]
     refine psX zR (Zix p o).1 (fun r q h6=> ?_) fun a e h6=> ?_
     ·simp only[h6,PR.bind,PR.pos,PR.val]
      refine psX () (ZH (Qm p q [93])) (fun _ u h7=> ?_) fun a e h7=> ?_
      ·simp only[h7,PR.pos]; exact⟨rfl,rfl⟩
      ·simp only[h7]; exact rfl
     ·simp only[h6,PR.bind]; exact rfl
    ·simp only[h5,PR.bind]; exact rfl
   ·simp only[h4,PR.bind]; exact rfl
 ·simp only[h1,PR.bind]; exact rfl
theorem ZkM (p:PS) (hB: ∀ i,CF 67 [.ptr 0 0] (p.o i) (RS p.o (fun l:List Bo=> .slice (boL l) []) (ZO p.ts i))) (hH: ∀ i,CF 65 [.ptr 0 0] (p.o i) (RS p.o ruE (ZM p.ts i))) (i:Nat):Mth 33 (p.o i) (RS p.o ruE (Zy p.ts i)):=by
 refine Mth.rs (Mth.tree fp33 (ZF Z3 fun _=>(Z4 (Zi _ _) (Z4 (Z2 _ _ _ _) (Z4 (Z2 _ _ _ _) (Z4 (Zi _ _) (Z4 (Z2 _ _ _ _) (Z2 _ _ _ _))))))) (Zd5 p.ts i p.so  (Z1 p.ts (i) [[58,126]]) (Qw p.ts i).isOk (((Qw p.ts i).val zR).k:Nat) (heL ((Qw p.ts i).val zR).h) (kT ((Qw p.ts i).val zR).lo:Nat) (nT ((Qw p.ts i).val zR).lo) (nmT ((Qw p.ts i).val zR).lo) (Tm.cellsL (Ps.arT ((Qw p.ts i).val zR).lo)) (kT ((Qw p.ts i).val zR).up:Nat) (nT ((Qw p.ts i).val zR).up) (nmT ((Qw p.ts i).val zR).up) (Tm.cellsL (Ps.arT ((Qw p.ts i).val zR).up)) (boL ((Qw p.ts i).val zR).b) (kT ((Qw p.ts i).val zR).w:Nat) (nT ((Qw p.ts i).val zR).w) (nmT ((Qw p.ts i).val zR).w) (Tm.cellsL (Ps.arT ((Qw p.ts i).val zR).w)) (kT ((Qw p.ts i).val zR).lv:Nat) (nT ((Qw p.ts i).val zR).lv) (nmT ((Qw p.ts i).val zR).lv) (Tm.cellsL (Ps.arT ((Qw p.ts i).val zR).lv)) (Tm.cellsL ((Qw p.ts i).val zR).t) (Qw p.ts i).pos (flt (Qw p.ts i)) (ZM p.ts i).isOk (((ZM p.ts i).val zR).k:Nat) (heL ((ZM p.ts i).val zR).h) (kT ((ZM p.ts i).val zR).lo:Nat) (nT ((ZM p.ts i).val zR).lo) (nmT ((ZM p.ts i).val zR).lo) (Tm.cellsL (Ps.arT ((ZM p.ts i).val zR).lo)) (kT ((ZM p.ts i).val zR).up:Nat) (nT ((ZM p.ts i).val zR).up) (nmT ((ZM p.ts i).val zR).up) (Tm.cellsL (Ps.arT ((ZM p.ts i).val zR).up)) (boL ((ZM p.ts i).val zR).b) (kT ((ZM p.ts i).val zR).w:Nat) (nT ((ZM p.ts i).val zR).w) (nmT ((ZM p.ts i).val zR).w) (Tm.cellsL (Ps.arT ((ZM p.ts i).val zR).w)) (kT ((ZM p.ts i).val zR).lv:Nat) (nT ((ZM p.ts i).val zR).lv) (nmT ((ZM p.ts i).val zR).lv) (Tm.cellsL (Ps.arT ((ZM p.ts i).val zR).lv)) (Tm.cellsL ((ZM p.ts i).val zR).t) (ZM p.ts i).pos (flt (ZM p.ts i)) (Z1 p.ts ((ZM p.ts i).pos) [[58,45]]) ((if Z1 p.ts ((ZM p.ts i).pos) [[58,45]]=true then (ZM p.ts i).pos+1 else (ZM p.ts i).pos:Nat):Int) (ZO p.ts ((ZM p.ts i).pos+1)).isOk (boL ((ZO p.ts ((ZM p.ts i).pos+1)).val [])) (ZO p.ts ((ZM p.ts i).pos+1)).pos (flt (ZO p.ts ((ZM p.ts i).pos+1))) (Z0 p.ts [46] (if Z1 p.ts (ZM p.ts i).pos [[58,45]]=true then (ZO p.ts ((ZM p.ts i).pos+1)).pos else (ZM p.ts i).pos)).isOk  (Z0 p.ts [46] (if Z1 p.ts (ZM p.ts i).pos [[58,45]]=true then (ZO p.ts ((ZM p.ts i).pos+1)).pos else (ZM p.ts i).pos)).pos (flt (Z0 p.ts [46] (if Z1 p.ts (ZM p.ts i).pos [[58,45]]=true then (ZO p.ts ((ZM p.ts i).pos+1)).pos else (ZM p.ts i).pos))) p.r1 p.r2 p.r3) ?_)
 unfold ZjZ Zy
 simp only[SS]
 refine⟨Z1J p i [[58,126]] [] (by simp),fun h0=> ?_,fun h0=> ?_⟩
 ·simp only[h0,if_true]
  refine psX zR (ZkK p hB i).1 (fun r k h3=> ?_) fun a e h3=> ?_
  ·simp only[h3,PR.pos,PR.val]; exact⟨rfl,rfl⟩
  ·simp only[h3]; exact rfl
 ·simp only[h0,Bool.false_eq_true,if_false]
  refine psX zR (hH i) (fun r j h1=> ?_) fun a e h1=> ?_
  ·simp only[h1,PR.bind,PR.pos,PR.val]
   refine⟨Q6 p j [[58,45]] [] (by simp),fun h2=> ?_,fun h2=> ?_⟩
   ·simp only[h2,if_true]
    refine psX [] (hB (j+1)) (fun b k h3=> ?_) fun a e h3=> ?_
    ·simp only[h3,PR.bind,PR.pos,PR.val]
     refine psX () (ZH (Qm p k [46])) (fun _ m h4=> ?_) fun a e h4=> ?_
     ·simp only[h4,PR.pos]; exact⟨rfl,rfl⟩
     ·simp only[h4]; exact rfl
    ·simp only[h3,PR.bind]; exact rfl
   ·simp only[h2,Bool.false_eq_true,if_false,PR.bind]
    refine psX () (ZH (Qm p j [46])) (fun _ m h4=> ?_) fun a e h4=> ?_
    ·simp only[h4,PR.pos]
     have hb:=Ps.ZjM p.ts i
     rw[h1] at hb
     change r.b=[] at hb
     simp only[hb]
     exact⟨rfl,rfl⟩
    ·simp only[h4]; exact rfl
  ·simp only[h1,PR.bind]; exact rfl
end Go.Proofs.YtecgehidegnmnaaGreatDoor
/- The parser: trees of bodies,heads. -/
namespace Go.Proofs.YtecgehidegnmnaaGreatDoor
open Go.Sx
open Go.Sx.Lx (Tk Zq)
theorem Zhy (ts:List Tk) (i:Int) (so:Bool) (v10:Value) (r1 r2 r3:LD):goT Tryz.prog { F:=fun x=>libT,C:=fun x=>psB false D.nils [] v10,E:=noE } 10 (finF false 10 rs67) 2000 [Fr.sc sc67] { tm:=Zv 0 ([]++[dP 0 0]++[]),ob:=psO ts i so r1 r2 r3 }=(Jm (cut sc67 0) { tm:=[(0,dP 0 0),(2,dV 10)],ob:=[(0,oC [dL (List.map Zq ts) [],dI i,dV 1,dV 2,dV 3,dB so]),(1,oR true 20 42 r1),(2,oR true 5 53 r2),(3,oR true 2 138 r3),(10,oR true 23 67 [])] }:Tr):=by kernel_rfl
def hdBo (ts:List Tk) (i:Int) (so:Bool) (r1 r2 r3 out:LD):St:=⟨[(0,.ptr 0 0),(2,.vec 10)],psO ts i so r1 r2 r3++[(10,.arr true 23 67 out)]⟩
noncomputable def Zki (ts:List Tk) (i:Int) (so:Bool) (out:LD) (v10:Value) (b12:Bool) (bk12 lk12:Int) (lno12:Bool) (lp12:LU) (la12:LD) (lop12 k12a n12a:Int) (s12a:LU) (l12a:LD) (k12b n12b:Int) (s12b:LU) (l12b bc12:LD) (bno12:Bool) (bf12:Int) (be12:LD) (bop12 k12c n12c:Int) (s12c:LU) (l12c:LD) (j12:Int) (v12:Value) (c21:Bool) (j21:Int) (c32:Bool) (j32:Int) (r1 r2 r3:LD):Tr:=brT (decide ((64:Int)<=(↑(List.length out):Int))) (Ow (CQ 54 [dP 0 0,dI 5] (psO ts i so r1 r2 r3) (D.pan v10) []) (Rt (D.pan v10) [])) (brT b12 (Ow (CQ 112 [dP 0 0] (psO ts i so r1 r2 r3) (dA [dU bk12,dU lk12,dB lno12,dS lp12,dL la12 [],dU lop12,dU k12a,dI n12a,dS s12a,dL l12a [],dU k12b,dI n12b,dS s12b,dL l12b [],dL bc12 [],dB bno12,dU bf12,dL be12 [],dU bop12,dU k12c,dI n12c,dS s12c,dL l12c []]) (psO ts j12 so r1 r2 r3)) (Ow (Zr 23 [[dU bk12,dU lk12,dB lno12,dS lp12,dL la12 [],dU lop12,dU k12a,dI n12a,dS s12a,dL l12a [],dU k12b,dI n12b,dS s12b,dL l12b [],dL bc12 [],dB bno12,dU bf12,dL be12 [],dU bop12,dU k12c,dI n12c,dS s12c,dL l12c []]]/\List.length out+1<=1073741824) (Ow (CQ 66 [dP 0 0,dL [[dS [59]]] []] (psO ts j12 so r1 r2 r3) (dB c21) (psO ts j21 so r1 r2 r3)) (brT (!c21) (brT (decide (bk12=(2:Int))) (Rt (dV 10) [(0,oC [dL (List.map Zq ts) [],dI j21,dV 1,dV 2,dV 3,dB so]),(1,oR true 20 42 r1),(2,oR true 5 53 r2),(3,oR true 2 138 r3),(10,oR true 23 67 (out++[[dU bk12,dU lk12,dB lno12,dS lp12,dL la12 [],dU lop12,dU k12a,dI n12a,dS s12a,dL l12a [],dU k12b,dI n12b,dS s12b,dL l12b [],dL bc12 [],dB bno12,dU bf12,dL be12 [],dU bop12,dU k12c,dI n12c,dS s12c,dL l12c []]]))]) (Ow (CQ 66 [dP 0 0,dL [[dS [44]]] []] (psO ts j21 so r1 r2 r3) (dB c32) (psO ts j32 so r1 r2 r3)) (brT (!c32) (Rt (dV 10) [(0,oC [dL (List.map Zq ts) [],dI j32,dV 1,dV 2,dV 3,dB so]),(1,oR true 20 42 r1),(2,oR true 5 53 r2),(3,oR true 2 138 r3),(10,oR true 23 67 (out++[[dU bk12,dU lk12,dB lno12,dS lp12,dL la12 [],dU lop12,dU k12a,dI n12a,dS s12a,dL l12a [],dU k12b,dI n12b,dS s12b,dL l12b [],dL bc12 [],dB bno12,dU bf12,dL be12 [],dU bop12,dU k12c,dI n12c,dS s12c,dL l12c []]]))]) (Jm (cut sc67 0) { tm:=[(0,dP 0 0),(2,dV 10)],ob:=[(0,oC [dL (List.map Zq ts) [],dI j32,dV 1,dV 2,dV 3,dB so]),(1,oR true 20 42 r1),(2,oR true 5 53 r2),(3,oR true 2 138 r3),(10,oR true 23 67 (out++[[dU bk12,dU lk12,dB lno12,dS lp12,dL la12 [],dU lop12,dU k12a,dI n12a,dS s12a,dL l12a [],dU k12b,dI n12b,dS s12b,dL l12b [],dL bc12 [],dB bno12,dU bf12,dL be12 [],dU bop12,dU k12c,dI n12c,dS s12c,dL l12c []]]))] })))) (Jm (cut sc67 0) { tm:=[(0,dP 0 0),(2,dV 10)],ob:=[(0,oC [dL (List.map Zq ts) [],dI j21,dV 1,dV 2,dV 3,dB so]),(1,oR true 20 42 r1),(2,oR true 5 53 r2),(3,oR true 2 138 r3),(10,oR true 23 67 (out++[[dU bk12,dU lk12,dB lno12,dS lp12,dL la12 [],dU lop12,dU k12a,dI n12a,dS s12a,dL l12a [],dU k12b,dI n12b,dS s12b,dL l12b [],dL bc12 [],dB bno12,dU bf12,dL be12 [],dU bop12,dU k12c,dI n12c,dS s12c,dL l12c []]]))] }))))) (Ow (CQ 112 [dP 0 0] (psO ts i so r1 r2 r3) (D.pan v12) []) (Rt (D.pan v12) [])))
theorem Zdm (ts:List Tk) (i:Int) (so:Bool) (out:LD) (v10:Value) (b12:Bool) (bk12 lk12:Int) (lno12:Bool) (lp12:LU) (la12:LD) (lop12 k12a n12a:Int) (s12a:LU) (l12a:LD) (k12b n12b:Int) (s12b:LU) (l12b bc12:LD) (bno12:Bool) (bf12:Int) (be12:LD) (bop12 k12c n12c:Int) (s12c:LU) (l12c:LD) (j12:Int) (v12:Value) (c21:Bool) (j21:Int) (c32:Bool) (j32:Int) (r1 r2 r3:LD):goT Tryz.prog { F:=fun x=>libT,C:=fun m=>if m=10 then psB false D.nils [] v10 else if m=12 then psB b12 (dA [dU bk12,dU lk12,dB lno12,dS lp12,dL la12 [],dU lop12,dU k12a,dI n12a,dS s12a,dL l12a [],dU k12b,dI n12b,dS s12b,dL l12b [],dL bc12 [],dB bno12,dU bf12,dL be12 [],dU bop12,dU k12c,dI n12c,dS s12c,dL l12c []]) (psO ts j12 so r1 r2 r3) v12 else if m=21 then psQ (dB c21) (psO ts j21 so r1 r2 r3) else psQ (dB c32) (psO ts j32 so r1 r2 r3),E:=noE } 10 (finF false 10 rs67) 2000 (cut sc67 0) (hdBo ts i so r1 r2 r3 out)=Zki ts i so out v10 b12 bk12 lk12 lno12 lp12 la12 lop12 k12a n12a s12a l12a k12b n12b s12b l12b bc12 bno12 bf12 be12 bop12 k12c n12c s12c l12c j12 v12 c21 j21 c32 j32 r1 r2 r3:=by kernel_rfl
noncomputable def Zk9 (ts:List Tk) (i:Int) (so c11 b14:Bool) (rk14:Int) (rh14:LD) (k14a n14a:Int) (s14a:LU) (l14a:LD) (k14b n14b:Int) (s14b:LU) (l14b rb14:LD) (k14c n14c:Int) (s14c:LU) (l14c:LD) (k14d n14d:Int) (s14d:LU) (l14d rt14:LD) (j14:Int) (v14:Value) (c20 b25:Bool) (s25:LU) (l25:LD) (k25a n25a:Int) (s25a:LU) (l25a:LD) (is25:Bool) (j25:Int) (v25:Value) (b33:Bool) (rk33:Int) (rh33:LD) (k33a n33a:Int) (s33a:LU) (l33a:LD) (k33b n33b:Int) (s33b:LU) (l33b rb33:LD) (k33c n33c:Int) (s33c:LU) (l33c:LD) (k33d n33d:Int) (s33d:LU) (l33d rt33:LD) (j33:Int) (v33:Value) (r1 r2 r3:LD):Tr:=Ow (CQ 63 [dP 0 0,dL [[dS [123]]] []] (psO ts i so r1 r2 r3) (dB c11) (psO ts i so r1 r2 r3)) (brT c11 (brT b14 (Ow (CQ 109 [dP 0 0,dA [dU 0,dI 0,dS [],dL [] []]] (psO ts i so r1 r2 r3) (dA [dU rk14,dL rh14 [],dU k14a,dI n14a,dS s14a,dL l14a [],dU k14b,dI n14b,dS s14b,dL l14b [],dL rb14 [],dU k14c,dI n14c,dS s14c,dL l14c [],dU k14d,dI n14d,dS s14d,dL l14d [],dL rt14 []]) (psO ts j14 so r1 r2 r3)) (Rt (dA [dU rk14,dL rh14 [],dU k14a,dI n14a,dS s14a,dL l14a [],dU k14b,dI n14b,dS s14b,dL l14b [],dL rb14 [],dU k14c,dI n14c,dS s14c,dL l14c [],dU k14d,dI n14d,dS s14d,dL l14d [],dL rt14 []]) (psO ts j14 so r1 r2 r3))) (Ow (CQ 109 [dP 0 0,dA [dU 0,dI 0,dS [],dL [] []]] (psO ts i so r1 r2 r3) (D.pan v14) []) (Rt (D.pan v14) []))) (Ow (CQ 63 [dP 0 0,dL [[dS [58,45]]] []] (psO ts i so r1 r2 r3) (dB c20) (psO ts i so r1 r2 r3)) (brT c20 (Rt (dA [dU 1,dL [] [],dU 0,dI 0,dS [],dL [] [],dU 0,dI 0,dS [],dL [] [],dL [] [],dU 0,dI 0,dS [],dL [] [],dU 0,dI 0,dS [],dL [] [],dL [] []]) (psO ts i so r1 r2 r3)) (brT b25 (Ow (CQ 110 [dP 0 0,dL [[dS [123]]] []] (psO ts i so r1 r2 r3) (D.tuple [dA [dS s25,dL l25 []],dA (tC k25a n25a s25a l25a),dB is25]) (psO ts j25 so r1 r2 r3)) (brT (!is25) (brT b33 (Ow (CQ 109 [dP 0 0,dA (tC k25a n25a s25a l25a)] (psO ts j25 so r1 r2 r3) (dA [dU rk33,dL rh33 [],dU k33a,dI n33a,dS s33a,dL l33a [],dU k33b,dI n33b,dS s33b,dL l33b [],dL rb33 [],dU k33c,dI n33c,dS s33c,dL l33c [],dU k33d,dI n33d,dS s33d,dL l33d [],dL rt33 []]) (psO ts j33 so r1 r2 r3)) (Rt (dA [dU rk33,dL rh33 [],dU k33a,dI n33a,dS s33a,dL l33a [],dU k33b,dI n33b,dS s33b,dL l33b [],dL rb33 [],dU k33c,dI n33c,dS s33c,dL l33c [],dU k33d,dI n33d,dS s33d,dL l33d [],dL rt33 []]) (psO ts j33 so r1 r2 r3))) (Ow (CQ 109 [dP 0 0,dA (tC k25a n25a s25a l25a)] (psO ts j25 so r1 r2 r3) (D.pan v33) []) (Rt (D.pan v33) []))) (Jm (cut sc65 0) { tm:=[(0,dP 0 0),(2,dP 10 0),(3,dP 11 0)],ob:=[(0,oC [dL (List.map Zq ts) [],dI j25,dV 1,dV 2,dV 3,dB so]),(1,oR true 20 42 r1),(2,oR true 5 53 r2),(3,oR true 2 138 r3),(10,oC [dU 0,D.nils,dU 0,dI 0,dS [],D.nils,dU 0,dI 0,dS [],D.nils,D.nils,dU 0,dI 0,dS [],D.nils,dU 0,dI 0,dS [],D.nils,D.nils]),(11,oC [dU 1,dV 12,dU 0,dI 0,dS [],dL [] [],dU 0,dI 0,dS [],dL [] [],dL [] [],dU 0,dI 0,dS [],dL [] [],dU 0,dI 0,dS [],dL [] [],dL [] []]),(12,oR true 3 61 [[dS s25,dL l25 [],dL [] []]])] }))) (Ow (CQ 110 [dP 0 0,dL [[dS [123]]] []] (psO ts i so r1 r2 r3) (D.pan v25) []) (Rt (D.pan v25) []))))))
theorem Zdd (ts:List Tk) (i:Int) (so c11 b14:Bool) (rk14:Int) (rh14:LD) (k14a n14a:Int) (s14a:LU) (l14a:LD) (k14b n14b:Int) (s14b:LU) (l14b rb14:LD) (k14c n14c:Int) (s14c:LU) (l14c:LD) (k14d n14d:Int) (s14d:LU) (l14d rt14:LD) (j14:Int) (v14:Value) (c20 b25:Bool) (s25:LU) (l25:LD) (k25a n25a:Int) (s25a:LU) (l25a:LD) (is25:Bool) (j25:Int) (v25:Value) (b33:Bool) (rk33:Int) (rh33:LD) (k33a n33a:Int) (s33a:LU) (l33a:LD) (k33b n33b:Int) (s33b:LU) (l33b rb33:LD) (k33c n33c:Int) (s33c:LU) (l33c:LD) (k33d n33d:Int) (s33d:LU) (l33d rt33:LD) (j33:Int) (v33:Value) (r1 r2 r3:LD):goT Tryz.prog { F:=fun x=>libT,C:=fun m=>if m=11 then psQ (dB c11) (psO ts i so r1 r2 r3) else if m=14 then psB b14 (dA [dU rk14,dL rh14 [],dU k14a,dI n14a,dS s14a,dL l14a [],dU k14b,dI n14b,dS s14b,dL l14b [],dL rb14 [],dU k14c,dI n14c,dS s14c,dL l14c [],dU k14d,dI n14d,dS s14d,dL l14d [],dL rt14 []]) (psO ts j14 so r1 r2 r3) v14 else if m=20 then psQ (dB c20) (psO ts i so r1 r2 r3) else if m=25 then psB b25 (D.tuple [dA [dS s25,dL l25 []],dA (tC k25a n25a s25a l25a),dB is25]) (psO ts j25 so r1 r2 r3) v25 else psB b33 (dA [dU rk33,dL rh33 [],dU k33a,dI n33a,dS s33a,dL l33a [],dU k33b,dI n33b,dS s33b,dL l33b [],dL rb33 [],dU k33c,dI n33c,dS s33c,dL l33c [],dU k33d,dI n33d,dS s33d,dL l33d [],dL rt33 []]) (psO ts j33 so r1 r2 r3) v33,E:=noE } 10 (finF false 10 rs65) 2000 [Fr.sc sc65] { tm:=Zv 0 ([]++[dP 0 0]++[]),ob:=psO ts i so r1 r2 r3 }=Zk9 ts i so c11 b14 rk14 rh14 k14a n14a s14a l14a k14b n14b s14b l14b rb14 k14c n14c s14c l14c k14d n14d s14d l14d rt14 j14 v14 c20 b25 s25 l25 k25a n25a s25a l25a is25 j25 v25 b33 rk33 rh33 k33a n33a s33a l33a k33b n33b s33b l33b rb33 k33c n33c s33c l33c k33d n33d s33d l33d rt33 j33 v33 r1 r2 r3:=by kernel_rfl
def hdHe (ts:List Tk) (i:Int) (so:Bool) (r1 r2 r3 out:LD):St:=⟨[(0,.ptr 0 0),(2,.ptr 10 0),(3,.ptr 11 0)],psO ts i so r1 r2 r3++[(10,.cells [.int .u8 0,.nils,.int .u8 0,.int .i64 0,.str [],.nils,.int .u8 0,.int .i64 0,.str [],.nils,.nils,.int .u8 0,.int .i64 0,.str [],.nils,.int .u8 0,.int .i64 0,.str [],.nils,.nils]),(11,.cells [.int .u8 1,.vec 12,.int .u8 0,.int .i64 0,.str [],.slice [] [],.int .u8 0,.int .i64 0,.str [],.slice [] [],.slice [] [],.int .u8 0,.int .i64 0,.str [],.slice [] [],.int .u8 0,.int .i64 0,.str [],.slice [] [],.slice [] []]),(12,.arr true 3 61 out)]⟩
noncomputable def Ze6 (ts:List Tk) (i:Int) (so:Bool) (out:LD) (c42:Bool) (j42:Int) (v50:Value) (b54:Bool) (s54:LU) (l54:LD) (j54:Int) (v54:Value) (r1 r2 r3:LD):Tr:=Ow (CQ 66 [dP 0 0,dL [[dS [124]]] []] (psO ts i so r1 r2 r3) (dB c42) (psO ts j42 so r1 r2 r3)) (brT c42 (brT (decide ((64:Int)<=(↑(List.length out):Int))) (Ow (CQ 54 [dP 0 0,dI 5] (psO ts j42 so r1 r2 r3) (D.pan v50) []) (Rt (D.pan v50) [])) (brT b54 (Ow (CQ 111 [dP 0 0] (psO ts j42 so r1 r2 r3) (dA [dS s54,dL l54 []]) (psO ts j54 so r1 r2 r3)) (Ow (Zr 3 [[dS s54,dL l54 [],dL [] []]]/\List.length out+1<=1073741824) (Jm (cut sc65 0) { tm:=[(0,dP 0 0),(2,dP 10 0),(3,dP 11 0)],ob:=[(0,oC [dL (List.map Zq ts) [],dI j54,dV 1,dV 2,dV 3,dB so]),(1,oR true 20 42 r1),(2,oR true 5 53 r2),(3,oR true 2 138 r3),(10,oC [dU 0,D.nils,dU 0,dI 0,dS [],D.nils,dU 0,dI 0,dS [],D.nils,D.nils,dU 0,dI 0,dS [],D.nils,dU 0,dI 0,dS [],D.nils,D.nils]),(11,oC [dU 1,dV 12,dU 0,dI 0,dS [],dL [] [],dU 0,dI 0,dS [],dL [] [],dL [] [],dU 0,dI 0,dS [],dL [] [],dU 0,dI 0,dS [],dL [] [],dL [] []]),(12,oR true 3 61 (out++[[dS s54,dL l54 [],dL [] []]]))] }))) (Ow (CQ 111 [dP 0 0] (psO ts j42 so r1 r2 r3) (D.pan v54) []) (Rt (D.pan v54) [])))) (Rt (dA [dU 1,dL out [],dU 0,dI 0,dS [],dL [] [],dU 0,dI 0,dS [],dL [] [],dL [] [],dU 0,dI 0,dS [],dL [] [],dU 0,dI 0,dS [],dL [] [],dL [] []]) (psO ts j42 so r1 r2 r3)))
theorem Zbo (ts:List Tk) (i:Int) (so:Bool) (out:LD) (c42:Bool) (j42:Int) (v50:Value) (b54:Bool) (s54:LU) (l54:LD) (j54:Int) (v54:Value) (r1 r2 r3:LD):goT Tryz.prog { F:=fun x=>libT,C:=fun m=>if m=42 then psQ (dB c42) (psO ts j42 so r1 r2 r3) else if m=50 then psB false D.nils [] v50 else psB b54 (dA [dS s54,dL l54 []]) (psO ts j54 so r1 r2 r3) v54,E:=noE } 10 (finF false 10 rs65) 2000 (cut sc65 0) (hdHe ts i so r1 r2 r3 out)=Ze6 ts i so out c42 j42 v50 b54 s54 l54 j54 v54 r1 r2 r3:=by kernel_rfl
end Go.Proofs.YtecgehidegnmnaaGreatDoor
/- The parser: bodies. -/
namespace Go.Proofs.YtecgehidegnmnaaGreatDoor
open Go.Sx
open Go.Sx.Lx (Tk Zq)
open Go.Sx.Ps (kT nmT W Sm)
def LW {α:Type} (p:PS) (n e:Nat) (enc:α->List D) (x:PR (List α)):D->Obs->Prop:=fun r ob=>match x with
 | .ok l j=>r= .vec 10/\ob=p.o j++[(10,.arr true n e (l.map enc))]
 | .bad a e=>r= .pan (fltV a e)
theorem Zl3 {α:Type} {p:PS} {n e:Nat} {enc:α->List D} {x:PR (List α)} {d:D} {ys:List D} {ob:Obs} (h:CallL Tryz.prog d ys ob (LW p n e enc x)):CallL Tryz.prog d ys ob (RS p.o (fun l:List α=> .slice (l.map enc) []) x):=by
 cases x with
 | ok l j=>exact CallL.vecR (ob0:=p.o j) (by rfl) h
 | bad a e=>exact CallL.pdrop h fun _ _ h=>h
theorem ZaU (l:List Bo):(boL l).length=l.length:=by simp[boL]
theorem ZiC (p:PS): ∀ (n:Nat) (out:List Bo) (i:Nat),65<=n+out.length->out.length<=64 →
  At Tryz.prog 10 (cut sc67 0) (hdBo p.ts i p.so p.r1 p.r2 p.r3 (boL out)) (FinQ false 10 rs67 (LW p 23 67 Bo.cs (Z0J p.ts n out i)))
 | 0,out,i,hn,ho=>by omega
 | n+1,out,i,hn,ho=>by
  refine At.tree (ZF Z3 fun _=>(Z4 (Z2 _ _ _ _) (Z4 (Z2 _ _ _ _) (Z4 (Zi _ _) (Zi _ _))))) (Zdm p.ts i p.so (boL out) (fltV (i) 5) (Zg p.ts i).isOk (((Zg p.ts i).val zB).k:Nat) (((Zg p.ts i).val zB).l.k:Nat) ((Zg p.ts i).val zB).l.no ((Zg p.ts i).val zB).l.p (Tm.cellsL ((Zg p.ts i).val zB).l.a) (((Zg p.ts i).val zB).l.op:Nat) (kT ((Zg p.ts i).val zB).l.l:Nat) (nT ((Zg p.ts i).val zB).l.l) (nmT ((Zg p.ts i).val zB).l.l) (Tm.cellsL (Ps.arT ((Zg p.ts i).val zB).l.l)) (kT ((Zg p.ts i).val zB).l.r:Nat) (nT ((Zg p.ts i).val zB).l.r) (nmT ((Zg p.ts i).val zB).l.r) (Tm.cellsL (Ps.arT ((Zg p.ts i).val zB).l.r)) (ltL ((Zg p.ts i).val zB).c) ((Zg p.ts i).val zB).no (((Zg p.ts i).val zB).f:Nat) (elL ((Zg p.ts i).val zB).e) (((Zg p.ts i).val zB).op:Nat) (kT ((Zg p.ts i).val zB).b:Nat) (nT ((Zg p.ts i).val zB).b) (nmT ((Zg p.ts i).val zB).b) (Tm.cellsL (Ps.arT ((Zg p.ts i).val zB).b)) (Zg p.ts i).pos (flt (Zg p.ts i)) (Z1 p.ts ((Zg p.ts i).pos) [[59]]) ((if Z1 p.ts ((Zg p.ts i).pos) [[59]]=true then (Zg p.ts i).pos+1 else (Zg p.ts i).pos:Nat):Int) (Z1 p.ts ((Zg p.ts i).pos) [[44]]) ((if Z1 p.ts ((Zg p.ts i).pos) [[44]]=true then (Zg p.ts i).pos+1 else (Zg p.ts i).pos:Nat):Int) p.r1 p.r2 p.r3) ?_
  unfold Zki Z0J
  simp only[SS,ZaU]
  refine⟨fun h=> ?_,fun h=> ?_⟩
  ·rw[if_pos (show 64<=out.length by omega)]; exact⟨QQ p i 5,rfl⟩
  ·rw[if_neg (show ¬ 64<=out.length by omega)]
   refine psX zB (ZkV p i).1 (fun b j h1=> ?_) fun a e h1=> ?_
   ·simp only[h1,PR.bind,PR.pos,PR.val]
    have hcs:_=Bo.cs b:=D.agg.inj (Ze2 b)
    rw[hcs]
    have e:boL out++[Bo.cs b]=boL (out++[b]):=by simp[boL]
    rw[e]
    have again:=ZiC p n (out++[b]) (j+1) (by simp; omega) (by simp; omega)
    refine⟨⟨by simp[Zr,Bo.cs,Lt.c,Qb],by omega⟩,Q6 p j [[59]] [] (by simp),fun h2=> ?_,fun h2=> ?_⟩
    ·simp only[h2,Bool.false_eq_true,if_false]
     refine⟨fun h3=> ?_,fun h3=>⟨Q6 p j [[44]] [] (by simp),fun h4=> ?_,fun h4=> ?_⟩⟩
     ·rw[if_pos (show b.k=2 by omega)]; exact⟨rfl,rfl⟩
     ·rw[if_neg (show ¬ b.k=2 by omega)]
      simp only[h4,Bool.false_eq_true,if_false]; exact⟨rfl,rfl⟩
     ·rw[if_neg (show ¬ b.k=2 by omega)]
      simp only[h4,if_true]; exact again
    ·simp only[h2,if_true]; exact again
   ·simp only[h1,PR.bind]; exact rfl
theorem ZkW (p:PS) (i:Nat):CF 67 [.ptr 0 0] (p.o i) (RS p.o (fun l:List Bo=> .slice (boL l) []) (ZO p.ts i)):=by
 refine Zl3 (n:=23) (e:=67) (enc:=Bo.cs) ?_
 refine CallL.tree Z7 fp67 (ZF Z3 fun _=>(Z2 _ _ _ _)) (Zhy p.ts i p.so  (fltV (i) 5) p.r1 p.r2 p.r3) ?_
 exact ZiC p 65 [] i (by simp) (by simp)
theorem Zad (l:List He):(heL l).length=l.length:=by simp[heL]
theorem qHe2 (p:PS): ∀ (n:Nat) (out:List He) (i:Nat),65<=n+out.length->out.length<=64 →
  At Tryz.prog 10 (cut sc65 0) (hdHe p.ts i p.so p.r1 p.r2 p.r3 (heL out)) (FinQ false 10 rs65 (RW p.o ruE ((Z1P p.ts n out i).bind fun hs k=> .ok { zR with k:=1,h:=hs } k)))
 | 0,out,i,hn,ho=>by omega
 | n+1,out,i,hn,ho=>by
  refine At.tree (ZF Z3 fun _=>(Z4 (Zi _ _) (Z4 (Z2 _ _ _ _) (Z2 _ _ _ _)))) (Zbo p.ts i p.so (heL out) (Z1 p.ts (i) [[124]]) ((if Z1 p.ts (i) [[124]]=true then i+1 else i:Nat):Int) (fltV (i+1) 5) (QK p.ts (i+1)).isOk ((QK p.ts (i+1)).val ([],[])).1 (Tm.cellsL ((QK p.ts (i+1)).val ([],[])).2) (QK p.ts (i+1)).pos (flt (QK p.ts (i+1))) p.r1 p.r2 p.r3) ?_
  unfold Ze6 Z1P
  simp only[SS,Zad]
  refine⟨Q6 p i [[124]] [] (by simp),fun h1=> ?_,fun h1=> ?_⟩
  ·simp only[h1,if_true]
   refine⟨fun h=> ?_,fun h=> ?_⟩
   ·rw[if_pos (show 64<=out.length by omega)]; exact⟨QQ p (i+1) 5,rfl⟩
   ·rw[if_neg (show ¬ 64<=out.length by omega)]
    refine psX ([],[]) (Zg5 p (i+1)).1 (fun a j h2=> ?_) fun a e h2=> ?_
    ·simp only[h2,PR.bind,PR.pos,PR.val]
     have again:=qHe2 p n (out++[⟨a.1,a.2,[]⟩]) j (by simp; omega) (by simp; omega)
     have e:heL out++[[.str a.1,.slice (Tm.cellsL a.2) [],.slice [] []]]=heL (out++[⟨a.1,a.2,[]⟩]):=by simp[heL,He.cs,ltL]
     rw[e]
     exact⟨⟨by simp[Zr],by omega⟩,again⟩
    ·simp only[h2,PR.bind]; exact rfl
  ·simp only[h1,Bool.false_eq_true,if_false]; exact⟨rfl,rfl⟩
theorem ZkU (p:PS) (i:Nat):CF 65 [.ptr 0 0] (p.o i) (RS p.o ruE (ZM p.ts i)):=by
 refine Z0L (CallL.tree Z7 fp65 (ZF Z3 fun _=>(Z4 (Zi _ _) (Z4 (Z2 _ _ _ _) (Z4 (Zi _ _) (Z4 (Z2 _ _ _ _) (Z2 _ _ _ _)))))) (Zdd p.ts i p.so  (Z1 p.ts (i) [[123]]) (Zf p.ts z0 i).isOk (((Zf p.ts z0 i).val zR).k:Nat) (heL ((Zf p.ts z0 i).val zR).h) (kT ((Zf p.ts z0 i).val zR).lo:Nat) (nT ((Zf p.ts z0 i).val zR).lo) (nmT ((Zf p.ts z0 i).val zR).lo) (Tm.cellsL (Ps.arT ((Zf p.ts z0 i).val zR).lo)) (kT ((Zf p.ts z0 i).val zR).up:Nat) (nT ((Zf p.ts z0 i).val zR).up) (nmT ((Zf p.ts z0 i).val zR).up) (Tm.cellsL (Ps.arT ((Zf p.ts z0 i).val zR).up)) (boL ((Zf p.ts z0 i).val zR).b) (kT ((Zf p.ts z0 i).val zR).w:Nat) (nT ((Zf p.ts z0 i).val zR).w) (nmT ((Zf p.ts z0 i).val zR).w) (Tm.cellsL (Ps.arT ((Zf p.ts z0 i).val zR).w)) (kT ((Zf p.ts z0 i).val zR).lv:Nat) (nT ((Zf p.ts z0 i).val zR).lv) (nmT ((Zf p.ts z0 i).val zR).lv) (Tm.cellsL (Ps.arT ((Zf p.ts z0 i).val zR).lv)) (Tm.cellsL ((Zf p.ts z0 i).val zR).t) (Zf p.ts z0 i).pos (flt (Zf p.ts z0 i)) (Z1 p.ts (i) [[58,45]]) (Z6 p.ts [[123]] i).isOk ((Z6 p.ts [[123]] i).val (([],[]),z0,false)).1.1 (Tm.cellsL ((Z6 p.ts [[123]] i).val (([],[]),z0,false)).1.2) (kT ((Z6 p.ts [[123]] i).val (([],[]),z0,false)).2.1:Nat) (nT ((Z6 p.ts [[123]] i).val (([],[]),z0,false)).2.1) (nmT ((Z6 p.ts [[123]] i).val (([],[]),z0,false)).2.1) (Tm.cellsL (Ps.arT ((Z6 p.ts [[123]] i).val (([],[]),z0,false)).2.1)) ((Z6 p.ts [[123]] i).val (([],[]),z0,false)).2.2 (Z6 p.ts [[123]] i).pos (flt (Z6 p.ts [[123]] i)) (Zf p.ts ((Z6 p.ts [[123]] i).val (([],[]),z0,false)).2.1 (Z6 p.ts [[123]] i).pos).isOk (((Zf p.ts ((Z6 p.ts [[123]] i).val (([],[]),z0,false)).2.1 (Z6 p.ts [[123]] i).pos).val zR).k:Nat) (heL ((Zf p.ts ((Z6 p.ts [[123]] i).val (([],[]),z0,false)).2.1 (Z6 p.ts [[123]] i).pos).val zR).h) (kT ((Zf p.ts ((Z6 p.ts [[123]] i).val (([],[]),z0,false)).2.1 (Z6 p.ts [[123]] i).pos).val zR).lo:Nat) (nT ((Zf p.ts ((Z6 p.ts [[123]] i).val (([],[]),z0,false)).2.1 (Z6 p.ts [[123]] i).pos).val zR).lo) (nmT ((Zf p.ts ((Z6 p.ts [[123]] i).val (([],[]),z0,false)).2.1 (Z6 p.ts [[123]] i).pos).val zR).lo) (Tm.cellsL (Ps.arT ((Zf p.ts ((Z6 p.ts [[123]] i).val (([],[]),z0,false)).2.1 (Z6 p.ts [[123]] i).pos).val zR).lo)) (kT ((Zf p.ts ((Z6 p.ts [[123]] i).val (([],[]),z0,false)).2.1 (Z6 p.ts [[123]] i).pos).val zR).up:Nat) (nT ((Zf p.ts ((Z6 p.ts [[123]] i).val (([],[]),z0,false)).2.1 (Z6 p.ts [[123]] i).pos).val zR).up) (nmT ((Zf p.ts ((Z6 p.ts [[123]] i).val (([],[]),z0,false)).2.1 (Z6 p.ts [[123]] i).pos).val zR).up) (Tm.cellsL (Ps.arT ((Zf p.ts ((Z6 p.ts [[123]] i).val (([],[]),z0,false)).2.1 (Z6 p.ts [[123]] i).pos).val zR).up)) (boL ((Zf p.ts ((Z6 p.ts [[123]] i).val (([],[]),z0,false)).2.1 (Z6 p.ts [[123]] i).pos).val zR).b) (kT ((Zf p.ts ((Z6 p.ts [[123]] i).val (([],[]),z0,false)).2.1 (Z6 p.ts [[123]] i).pos).val zR).w:Nat) (nT ((Zf p.ts ((Z6 p.ts [[123]] i).val (([],[]),z0,false)).2.1 (Z6 p.ts [[123]] i).pos).val zR).w) (nmT ((Zf p.ts ((Z6 p.ts [[123]] i).val (([],[]),z0,false)).2.1 (Z6 p.ts [[123]] i).pos).val zR).w) (Tm.cellsL (Ps.arT ((Zf p.ts ((Z6 p.ts [[123]] i).val (([],[]),z0,false)).2.1 (Z6 p.ts [[123]] i).pos).val zR).w)) (kT ((Zf p.ts ((Z6 p.ts [[123]] i).val (([],[]),z0,false)).2.1 (Z6 p.ts [[123]] i).pos).val zR).lv:Nat) (nT ((Zf p.ts ((Z6 p.ts [[123]] i).val (([],[]),z0,false)).2.1 (Z6 p.ts [[123]] i).pos).val zR).lv) (nmT ((Zf p.ts ((Z6 p.ts [[123]] i).val (([],[]),z0,false)).2.1 (Z6 p.ts [[123]] i).pos).val zR).lv) (Tm.cellsL (Ps.arT ((Zf p.ts ((Z6 p.ts [[123]] i).val (([],[]),z0,false)).2.1 (Z6 p.ts [[123]] i).pos).val zR).lv)) (Tm.cellsL ((Zf p.ts ((Z6 p.ts [[123]] i).val (([],[]),z0,false)).2.1 (Z6 p.ts [[123]] i).pos).val zR).t) (Zf p.ts ((Z6 p.ts [[123]] i).val (([],[]),z0,false)).2.1 (Z6 p.ts [[123]] i).pos).pos (flt (Zf p.ts ((Z6 p.ts [[123]] i).val (([],[]),z0,false)).2.1 (Z6 p.ts [[123]] i).pos)) p.r1 p.r2 p.r3) ?_)
 unfold Zk9 ZM
 simp only[SS]
 refine⟨Z1J p i [[123]] [] (by simp),fun h1=> ?_,fun h1=> ?_⟩
 ·simp only[h1,if_true]
  refine psX zR (qCho p z0 i) (fun r j h2=> ?_) fun a e h2=> ?_
  ·simp only[h2,PR.pos,PR.val]; exact⟨rfl,rfl⟩
  ·simp only[h2]; exact rfl
 ·simp only[h1,Bool.false_eq_true,if_false]
  refine⟨Z1J p i [[58,45]] [] (by simp),fun h2=> ?_,fun h2=> ?_⟩
  ·simp only[h2,if_true]; exact⟨rfl,rfl⟩
  ·simp only[h2,Bool.false_eq_true,if_false]
   refine psX (([],[]),z0,false) (Zg3 p i [[123]] [] (by simp)) (fun x j h3=> ?_) fun a e h3=> ?_
   ·simp only[h3,PR.bind,PR.pos,PR.val]
    refine⟨fun h4=> ?_,fun h4=> ?_⟩
    ·simp only[h4,Bool.false_eq_true,if_false]
     refine psX zR (qCho p x.2.1 j) (fun r k h5=> ?_) fun a e h5=> ?_
     ·simp only[h5,PR.pos,PR.val]; exact⟨rfl,rfl⟩
     ·simp only[h5]; exact rfl
    ·simp only[h4,if_true]
     exact qHe2 p 65 [⟨x.1.1,x.1.2,[]⟩] j (by simp) (by simp)
   ·simp only[h3,PR.bind]; exact rfl
theorem qRu (p:PS) (i:Nat):Mth 33 (p.o i) (RS p.o ruE (Zy p.ts i)):=ZkM p (ZkW p) (ZkU p) i
end Go.Proofs.YtecgehidegnmnaaGreatDoor
