/- The parser: minimize. -/
import Derived.Test.YtecgehidegnmnaaGreatDoorPrS
set_option linter.unusedSectionVars false
set_option linter.unusedVariables false
set_option linter.unusedSimpArgs false
set_option linter.deprecated false
set_option maxRecDepth 100000
open Go.Sx.Ps (PR ZX Zs Z9 z0 Z1 zR VP Z0 ZC Zd Qe Z0x Z3w ZZ Z2S)
namespace Go.Proofs.YtecgehidegnmnaaGreatDoor
open Go.Sx
open Go.Sx.Lx (Tk Zq)
open Go.Sx.Ps (kT nmT W Sm Ac)
abbrev coE (r:Ru):D:= .agg [.int .u8 3,.nils,.int .u8 0,.int .i64 0,.str [],.nils,.int .u8 0,.int .i64 0,.str [],.nils,.nils,.int .u8 (kT r.w:Nat),.int .i64 (nT r.w),.str (nmT r.w),.slice (Tm.cellsL (Ps.arT r.w)) [],.int .u8 (kT r.lv:Nat),.int .i64 (nT r.lv),.str (nmT r.lv),.slice (Tm.cellsL (Ps.arT r.lv)) [],.slice (Tm.cellsL r.t) []]
def tuD:List Tm->D
 | []=> .nils
 | x::l=> .slice (Tm.cellsL (x::l)) []
theorem Z4J {l:List Tm} (h:l≠[]):tuD l= .slice (Tm.cellsL l) []:=by
 cases l with
 | nil=>exact absurd rfl h
 | cons x l=>rfl
abbrev coN (r:Ru):D:= .agg [.int .u8 3,.nils,.int .u8 0,.int .i64 0,.str [],.nils,.int .u8 0,.int .i64 0,.str [],.nils,.nils,.int .u8 (kT r.w:Nat),.int .i64 (nT r.w),.str (nmT r.w),.slice (Tm.cellsL (Ps.arT r.w)) [],.int .u8 (kT r.lv:Nat),.int .i64 (nT r.lv),.str (nmT r.lv),.slice (Tm.cellsL (Ps.arT r.lv)) [],tuD r.t]
theorem ZaK {p:PS} {x:PR Ru} {d:D} {ys:List D} {ob:Obs} (h:CallL Tryz.prog d ys ob (RS p.o coN x)):CallL Tryz.prog d ys ob (RS p.o coE x):=by
 cases x with
 | bad a e=>exact h
 | ok r j =>
  change CallL _ _ _ _ (fun r0 ob0=>r0=coN r/\ob0=p.o j) at h
  show CallL _ _ _ _ (fun r0 ob0=>r0=coE r/\ob0=p.o j)
  unfold coN at h
  by_cases ht:r.t=[]
  ·rw[ht] at h
   have:=CallL.unN (j:=19) rfl h
   unfold coE
   rw[ht]
   exact this
  ·rw[Z4J ht] at h; exact h
theorem Z6N (p:PS) {i j:Nat} {l:List Tm} (h:ZX p.ts i= .ok l j):l≠[]:=by
 have:=Ps.Z5w p.hv i
 rw[h] at this
 exact this.2
theorem Ziy (p:PS) (i:Nat):Mth 99 (p.o i) (RS p.o coE (Zs p.ts i)):=by
 refine (fun h:Mth 99 (p.o i) (RS p.o coN (Zs p.ts i))=>⟨ZaK h.1,ZaK h.2⟩) ?_
 refine Mth.rs (Mth.tree Zl8 (ZF Z3 fun _=>(Z4 (Z2 _ _ _ _) (Z4 (Zi _ _) (Z4 (Z2 _ _ _ _) (Z4 (Zi _ _) (Z2 _ _ _ _)))))) (Zdh p.ts i p.so  (Z9 p.ts i).isOk (kT ((Z9 p.ts i).val z0):Nat) (nT ((Z9 p.ts i).val z0)) (nmT ((Z9 p.ts i).val z0)) (Tm.cellsL (Ps.arT ((Z9 p.ts i).val z0))) (Z9 p.ts i).pos (flt (Z9 p.ts i)) (Z1 p.ts ((Z9 p.ts i).pos) [[64]]) ((if Z1 p.ts ((Z9 p.ts i).pos) [[64]]=true then (Z9 p.ts i).pos+1 else (Z9 p.ts i).pos:Nat):Int) (Z9 p.ts ((Z9 p.ts i).pos+1)).isOk (kT ((Z9 p.ts ((Z9 p.ts i).pos+1)).val z0):Nat) (nT ((Z9 p.ts ((Z9 p.ts i).pos+1)).val z0)) (nmT ((Z9 p.ts ((Z9 p.ts i).pos+1)).val z0)) (Tm.cellsL (Ps.arT ((Z9 p.ts ((Z9 p.ts i).pos+1)).val z0))) (Z9 p.ts ((Z9 p.ts i).pos+1)).pos (flt (Z9 p.ts ((Z9 p.ts i).pos+1))) (Z1 p.ts ((if Z1 p.ts (Z9 p.ts i).pos [[64]]=true then (Z9 p.ts ((Z9 p.ts i).pos+1)).pos else (Z9 p.ts i).pos)) [[44]]) ((if Z1 p.ts ((if Z1 p.ts (Z9 p.ts i).pos [[64]]=true then (Z9 p.ts ((Z9 p.ts i).pos+1)).pos else (Z9 p.ts i).pos)) [[44]]=true then (if Z1 p.ts (Z9 p.ts i).pos [[64]]=true then (Z9 p.ts ((Z9 p.ts i).pos+1)).pos else (Z9 p.ts i).pos)+1 else (if Z1 p.ts (Z9 p.ts i).pos [[64]]=true then (Z9 p.ts ((Z9 p.ts i).pos+1)).pos else (Z9 p.ts i).pos):Nat):Int) (ZX p.ts ((if Z1 p.ts (Z9 p.ts i).pos [[64]]=true then (Z9 p.ts ((Z9 p.ts i).pos+1)).pos else (Z9 p.ts i).pos)+1)).isOk (Tm.cellsL ((ZX p.ts ((if Z1 p.ts (Z9 p.ts i).pos [[64]]=true then (Z9 p.ts ((Z9 p.ts i).pos+1)).pos else (Z9 p.ts i).pos)+1)).val [])) (ZX p.ts ((if Z1 p.ts (Z9 p.ts i).pos [[64]]=true then (Z9 p.ts ((Z9 p.ts i).pos+1)).pos else (Z9 p.ts i).pos)+1)).pos (flt (ZX p.ts ((if Z1 p.ts (Z9 p.ts i).pos [[64]]=true then (Z9 p.ts ((Z9 p.ts i).pos+1)).pos else (Z9 p.ts i).pos)+1))) p.r1 p.r2 p.r3) ?_)
 unfold Zke Zs
 simp only[SS]
 refine psX z0 (Z3o p i).1 (fun w j h1=> ?_) fun a e h1=> ?_
 ·simp only[h1,PR.bind,PR.pos,PR.val]
  refine⟨Q6 p j [[64]] [] (by simp),fun h2=> ?_,fun h2=> ?_⟩
  ·simp only[h2,if_true]
   refine psX z0 (Z3o p (j+1)).1 (fun lv k h3=> ?_) fun a e h3=> ?_
   ·simp only[h3,PR.bind,PR.pos,PR.val]
    refine⟨Q6 p k [[44]] [] (by simp),fun h4=> ?_,fun h4=> ?_⟩
    ·simp only[h4,if_true]
     refine psX [] (qTup p (k+1)).1 (fun tu m h5=> ?_) fun a e h5=> ?_
     ·simp only[h5,PR.pos,PR.val]; exact⟨by first | (simp only[coN,Z4J (Z6N p h5)]; done) | (simp only[coN,Z4J (Z6N p h5)]; rfl),rfl⟩
     ·simp only[h5]; exact rfl
    ·simp only[h4,Bool.false_eq_true,if_false]; exact⟨rfl,rfl⟩
   ·simp only[h3,PR.bind]; exact rfl
  ·simp only[h2,Bool.false_eq_true,if_false]
   refine⟨Q6 p j [[44]] [] (by simp),fun h4=> ?_,fun h4=> ?_⟩
   ·simp only[h4,if_true]
    refine psX [] (qTup p (j+1)).1 (fun tu m h5=> ?_) fun a e h5=> ?_
    ·simp only[h5,PR.pos,PR.val]; exact⟨by first | (simp only[coN,Z4J (Z6N p h5)]; done) | (simp only[coN,Z4J (Z6N p h5)]; rfl),rfl⟩
    ·simp only[h5]; exact rfl
   ·simp only[h4,Bool.false_eq_true,if_false]; exact⟨rfl,rfl⟩
 ·simp only[h1,PR.bind]; exact rfl
def toBo (x:Lt):Bo:=⟨1,x,[],false,0,[],0,z0⟩
def coR (r:Ru) (b:List Bo):Ru:={ zR with k:=3,w:=r.w,lv:=r.lv,t:=r.t,b:=b }
theorem Z3O (ts:List Tk) (i:Nat):VP (fun r=> ∀ b,{ r with b:=b }=coR r b) (Zs ts i):=by
 unfold Zs
 exact (VP.any _).bind fun w j _ _=>(VP.any _).bind fun lv k _ _=>(VP.any _).bind fun tu m _ _=>fun b=>rfl
theorem Z7v (r:Ru) (b:List Bo):Ru.cs (coR r b)=[.int .u8 3,.slice [] [],.int .u8 0,.int .i64 0,.str [],.slice [] [],.int .u8 0,.int .i64 0,.str [],.slice [] [],.slice (boL b) [],.int .u8 (kT r.w:Nat),.int .i64 (nT r.w),.str (nmT r.w),.slice (Tm.cellsL (Ps.arT r.w)) [],.int .u8 (kT r.lv:Nat),.int .i64 (nT r.lv),.str (nmT r.lv),.slice (Tm.cellsL (Ps.arT r.lv)) [],.slice (Tm.cellsL r.t) []]:=(D.agg.inj (Z9n (coR r b))).symm
def QW (ts:List Tk) (a:Ac) (x:PR (List Ru)):PR Ac:=x.bind fun rs m=>(Z0 ts [125] m).bind fun _ o=>(Z0 ts [46] o).bind fun _ q=> .ok { a with r:=rs } q
def Z2f (ts:List Tk) (a:Ac) (n:Nat) (rs:List Ru) (i:Nat):PR Ac:=QW ts a (if Z1 ts i [[59]]=true then ZC ts n rs (i+1) else .ok rs i)
abbrev FM (p:PS) (q:PR Ac):Exit->St->Prop:=FinQ false 10 rs57 (RN 10 2 3 p q)
theorem ZkP (p:PS) (a:Ac) (n:Nat) (rs:List Ru) (hrs:rs.length<1000) (r:Ru) (l:List Lt) (hll:l.length<=1000) (i:Nat) (hO:At Tryz.prog 10 (cut sc57 0) (Z4t p.ts ((i+1:Nat):Int) a.so (ruL (rs++[coR r (l.map toBo)])) (coL a.c) (shL a.s)) (FM p (QW p.ts a (ZC p.ts n (rs++[coR r (l.map toBo)]) (i+1))))) :
  ∀ (m k:Nat),l.length-k=m->k<=l.length->At Tryz.prog 10 (cut sc57 1) (Z59 (ltL l) l.length k (ZiI p.ts i a.so (ruL rs) (coL a.c) (shL a.s) (boL ((l.take k).map toBo)) (coC (.vec 11) (tC (kT r.w:Nat) (nT r.w) (nmT r.w) (Tm.cellsL (Ps.arT r.w))) (tC (kT r.lv:Nat) (nT r.lv) (nmT r.lv) (Tm.cellsL (Ps.arT r.lv))) (Tm.cellsL r.t)))) (FM p (Z2f p.ts a n (rs++[coR r (l.map toBo)]) i)):=by
 intro m
 induction m with
 | zero =>
  intro k hm hk
  have hkl:k=l.length:=by omega
  subst hkl
  refine At.tree (Z2a Z3 fun _=>(Z4 (Zi _ _) (Z4 (Z2 _ _ _ _) (Z2 _ _ _ _)))) (Z7G p.ts i a.so (ruL (rs++[coR r (l.map toBo)])) (ltL l) (boL ((l.take l.length).map toBo)) l.length l.length 0 false [] [] 0 0 0 [] [] 0 0 [] [] (kT r.w:Nat) (nT r.w) (nmT r.w) (Tm.cellsL (Ps.arT r.w)) (kT r.lv:Nat) (nT r.lv) (nmT r.lv) (Tm.cellsL (Ps.arT r.lv)) (Tm.cellsL r.t) (Z1 p.ts (i) [[59]]) ((if Z1 p.ts (i) [[59]]=true then i+1 else i:Nat):Int) (Z0 p.ts [125] i).isOk  (Z0 p.ts [125] i).pos (flt (Z0 p.ts [125] i)) (Z0 p.ts [46] (Z0 p.ts [125] i).pos).isOk  (Z0 p.ts [46] (Z0 p.ts [125] i).pos).pos (flt (Z0 p.ts [46] (Z0 p.ts [125] i).pos)) (ruL rs) (coL a.c) (shL a.s)) ?_
  unfold Zhj Z2f
  rw[List.take_length]
  have e:ruL rs++[Ru.cs (coR r (l.map toBo))]=ruL (rs++[coR r (l.map toBo)]):=by simp[ruL]
  rw[Z7v] at e
  simp only[SS,Z0U]
  refine⟨fun h=>by omega,fun _=>⟨⟨by simp[Zr],by omega⟩, ?_⟩⟩
  rw[e]
  refine⟨Q6 (p.acc { a with r:=rs++[coR r (l.map toBo)] }) i [[59]] [] (by simp),fun h2=> ?_,fun h2=> ?_⟩
  ·simp only[h2,Bool.false_eq_true,if_false]
   refine psX () (ZH (Qm (p.acc { a with r:=rs++[coR r (l.map toBo)] }) i [125])) (fun _ o h3=> ?_) fun b e h3=> ?_
   ·change Z0 p.ts _ _=_ at h3
    simp only[h3,QW,PR.bind,PR.pos,PR.val]
    refine psX () (ZH (Qm (p.acc { a with r:=rs++[coR r (l.map toBo)] }) o [46])) (fun _ q h4=> ?_) fun b e h4=> ?_
    ·change Z0 p.ts _ _=_ at h4
     simp only[h4,PR.pos]; exact⟨rfl,rfl⟩
    ·change Z0 p.ts _ _=_ at h4
     simp only[h4]; exact rfl
   ·change Z0 p.ts _ _=_ at h3
    simp only[h3,QW,PR.bind]; exact rfl
  ·simp only[h2,if_true]; exact hO
 | succ m ih =>
  intro k hm hk
  have h1:k<l.length:=by omega
  have hx:=Za0 h1
  have ht:(l.take (k+1)).map toBo=(l.take k).map toBo++[toBo l[k]]:=by
   rw[List.take_add_one,List.getElem?_eq_getElem h1,List.map_append]; rfl
  have hI:=ih (k+1) (by omega) (by omega)
  rw[ht] at hI
  have hlen:(boL ((l.take k).map toBo)).length=k:=by simp[boL]; omega
  have eb:boL ((l.take k).map toBo++[toBo l[k]])=boL ((l.take k).map toBo)++[Bo.cs (toBo l[k])]:=by simp[boL]
  rw[eb] at hI
  generalize hq:l[k]=x at hx hI
  obtain⟨lk,lno,lp,la,lop,⟨k1,n1,s1,a1⟩,⟨k2,n2,s2,a2⟩⟩:=x
  refine At.tree (Z2a Z3 fun _=>(Z4 (Zi _ _) (Z4 (Z2 _ _ _ _) (Z2 _ _ _ _)))) (Z7G p.ts i a.so [] (ltL l) (boL ((l.take k).map toBo)) l.length k lk lno lp (Tm.cellsL la) lop k1 n1 s1 (Tm.cellsL a1) k2 n2 s2 (Tm.cellsL a2) (kT r.w:Nat) (nT r.w) (nmT r.w) (Tm.cellsL (Ps.arT r.w)) (kT r.lv:Nat) (nT r.lv) (nmT r.lv) (Tm.cellsL (Ps.arT r.lv)) (Tm.cellsL r.t) (Z1 p.ts (0) []) ((if Z1 p.ts (0) []=true then 0+1 else 0:Nat):Int) (PR.ok () 0).isOk  (PR.ok () 0).pos (flt (PR.ok () 0)) (PR.ok () 0).isOk  (PR.ok () 0).pos (flt (PR.ok () 0)) (ruL rs) (coL a.c) (shL a.s)) ?_
  unfold Zhj
  simp only[SS,hlen]
  exact⟨fun _=>⟨⟨by omega,hx⟩,⟨by simp[Zr],by omega⟩,by omega,hI⟩,fun h=>by omega⟩
theorem ZkR (p:PS) (a:Ac) (n:Nat) (rs:List Ru) (hrs:rs.length<1000) (r:Ru) (l:List Lt) (hll:l.length<=1000) (i:Nat) (hO:At Tryz.prog 10 (cut sc57 0) (Z4t p.ts ((i+1:Nat):Int) a.so (ruL (rs++[coR r (l.map toBo)])) (coL a.c) (shL a.s)) (FM p (QW p.ts a (ZC p.ts n (rs++[coR r (l.map toBo)]) (i+1))))) :
  At Tryz.prog 10 (cut sc57 1) (Z59 (ltL l) l.length (0:Nat) (obM1 p.ts i a.so (ruL rs) (coL a.c) (shL a.s) (coC .nils (tC (kT r.w:Nat) (nT r.w) (nmT r.w) (Tm.cellsL (Ps.arT r.w))) (tC (kT r.lv:Nat) (nT r.lv) (nmT r.lv) (Tm.cellsL (Ps.arT r.lv))) (Tm.cellsL r.t)))) (FM p (Z2f p.ts a n (rs++[coR r (l.map toBo)]) i)):=by
 cases l with
 | nil =>
  refine At.tree (Z2a Z3 fun _=>(Z4 (Zi _ _) (Z4 (Z2 _ _ _ _) (Z2 _ _ _ _)))) (Z7I p.ts i a.so (ruL (rs++[coR r []])) [] (0:Nat) (0:Nat) 0 false [] [] 0 0 0 [] [] 0 0 [] [] (kT r.w:Nat) (nT r.w) (nmT r.w) (Tm.cellsL (Ps.arT r.w)) (kT r.lv:Nat) (nT r.lv) (nmT r.lv) (Tm.cellsL (Ps.arT r.lv)) (Tm.cellsL r.t) (Z1 p.ts (i) [[59]]) ((if Z1 p.ts (i) [[59]]=true then i+1 else i:Nat):Int) (Z0 p.ts [125] i).isOk  (Z0 p.ts [125] i).pos (flt (Z0 p.ts [125] i)) (Z0 p.ts [46] (Z0 p.ts [125] i).pos).isOk  (Z0 p.ts [46] (Z0 p.ts [125] i).pos).pos (flt (Z0 p.ts [46] (Z0 p.ts [125] i).pos)) (ruL rs) (coL a.c) (shL a.s)) ?_
  unfold Zhl Z2f
  have e:ruL rs++[Ru.cs (coR r [])]=ruL (rs++[coR r []]):=by simp[ruL]
  rw[Z7v] at e
  simp only[boL,List.map_nil] at e hO ⊢
  simp only[SS,Z0U]
  refine⟨fun h=>by omega,fun _=>⟨⟨by simp[Zr],by omega⟩, ?_⟩⟩
  rw[e]
  refine⟨Q6 (p.acc { a with r:=rs++[coR r []] }) i [[59]] [] (by simp),fun h2=> ?_,fun h2=> ?_⟩
  ·simp only[h2,Bool.false_eq_true,if_false]
   refine psX () (ZH (Qm (p.acc { a with r:=rs++[coR r []] }) i [125])) (fun _ o h3=> ?_) fun b e h3=> ?_
   ·change Z0 p.ts _ _=_ at h3
    simp only[h3,QW,PR.bind,PR.pos,PR.val]
    refine psX () (ZH (Qm (p.acc { a with r:=rs++[coR r []] }) o [46])) (fun _ q h4=> ?_) fun b e h4=> ?_
    ·change Z0 p.ts _ _=_ at h4
     simp only[h4,PR.pos]; exact⟨rfl,rfl⟩
    ·change Z0 p.ts _ _=_ at h4
     simp only[h4]; exact rfl
   ·change Z0 p.ts _ _=_ at h3
    simp only[h3,QW,PR.bind]; exact rfl
  ·simp only[h2,if_true]; exact hO
 | cons x t =>
  have hI:=ZkP p a n rs hrs r (x::t) hll i hO _ 1 rfl (by simp)
  have eb:boL (((x::t).take 1).map toBo)=[Bo.cs (toBo x)]:=by simp[boL]
  rw[eb] at hI
  have hx:(ltL (x::t))[0]? = some x.c:=rfl
  generalize hq:x::t=l at hI hx ⊢
  obtain⟨lk,lno,lp,la,lop,⟨k1,n1,s1,a1⟩,⟨k2,n2,s2,a2⟩⟩:=x
  have hlen:0<l.length:=by rw[<- hq]; simp
  refine At.tree (Z2a Z3 fun _=>(Z4 (Zi _ _) (Z4 (Z2 _ _ _ _) (Z2 _ _ _ _)))) (Z7I p.ts i a.so [] (ltL l) l.length (0:Nat) lk lno lp (Tm.cellsL la) lop k1 n1 s1 (Tm.cellsL a1) k2 n2 s2 (Tm.cellsL a2) (kT r.w:Nat) (nT r.w) (nmT r.w) (Tm.cellsL (Ps.arT r.w)) (kT r.lv:Nat) (nT r.lv) (nmT r.lv) (Tm.cellsL (Ps.arT r.lv)) (Tm.cellsL r.t) (Z1 p.ts (0) []) ((if Z1 p.ts (0) []=true then 0+1 else 0:Nat):Int) (PR.ok () 0).isOk  (PR.ok () 0).pos (flt (PR.ok () 0)) (PR.ok () 0).isOk  (PR.ok () 0).pos (flt (PR.ok () 0)) (ruL rs) (coL a.c) (shL a.s)) ?_
  unfold Zhl
  simp only[SS]
  exact⟨fun _=>⟨⟨by omega,hx⟩,⟨by simp[Zr],by omega⟩,by omega,hI⟩,fun h=>by omega⟩
theorem ZkO (p:PS) (a:Ac) (n:Nat) (rs:List Ru) (hrs:rs.length<1000) (r:Ru) (l:List Lt) (hll:l.length<=1000) (i:Nat) (hO:At Tryz.prog 10 (cut sc57 0) (Z4t p.ts ((i+1:Nat):Int) a.so (ruL (rs++[coR r (l.map toBo)])) (coL a.c) (shL a.s)) (FM p (QW p.ts a (ZC p.ts n (rs++[coR r (l.map toBo)]) (i+1))))) :
  ∀ (m k:Nat),l.length-k=m->k<=l.length->At Tryz.prog 10 (cut sc57 1) (Z59 (ltL l) l.length k (ZiH p.ts i a.so (ruL rs) (coL a.c) (shL a.s) (boL ((l.take k).map toBo)) (coC (.vec 12) (tC (kT r.w:Nat) (nT r.w) (nmT r.w) (Tm.cellsL (Ps.arT r.w))) (tC (kT r.lv:Nat) (nT r.lv) (nmT r.lv) (Tm.cellsL (Ps.arT r.lv))) (Tm.cellsL r.t)))) (FM p (Z2f p.ts a n (rs++[coR r (l.map toBo)]) i)):=by
 intro m
 induction m with
 | zero =>
  intro k hm hk
  have hkl:k=l.length:=by omega
  subst hkl
  refine At.tree (Z2a Z3 fun _=>(Z4 (Zi _ _) (Z4 (Z2 _ _ _ _) (Z2 _ _ _ _)))) (Z7F p.ts i a.so (ruL (rs++[coR r (l.map toBo)])) (ltL l) (boL ((l.take l.length).map toBo)) l.length l.length 0 false [] [] 0 0 0 [] [] 0 0 [] [] (kT r.w:Nat) (nT r.w) (nmT r.w) (Tm.cellsL (Ps.arT r.w)) (kT r.lv:Nat) (nT r.lv) (nmT r.lv) (Tm.cellsL (Ps.arT r.lv)) (Tm.cellsL r.t) (Z1 p.ts (i) [[59]]) ((if Z1 p.ts (i) [[59]]=true then i+1 else i:Nat):Int) (Z0 p.ts [125] i).isOk  (Z0 p.ts [125] i).pos (flt (Z0 p.ts [125] i)) (Z0 p.ts [46] (Z0 p.ts [125] i).pos).isOk  (Z0 p.ts [46] (Z0 p.ts [125] i).pos).pos (flt (Z0 p.ts [46] (Z0 p.ts [125] i).pos)) (ruL rs) (coL a.c) (shL a.s)) ?_
  unfold Zhi Z2f
  rw[List.take_length]
  have e:ruL rs++[Ru.cs (coR r (l.map toBo))]=ruL (rs++[coR r (l.map toBo)]):=by simp[ruL]
  rw[Z7v] at e
  simp only[SS,Z0U]
  refine⟨fun h=>by omega,fun _=>⟨⟨by simp[Zr],by omega⟩, ?_⟩⟩
  rw[e]
  refine⟨Q6 (p.acc { a with r:=rs++[coR r (l.map toBo)] }) i [[59]] [] (by simp),fun h2=> ?_,fun h2=> ?_⟩
  ·simp only[h2,Bool.false_eq_true,if_false]
   refine psX () (ZH (Qm (p.acc { a with r:=rs++[coR r (l.map toBo)] }) i [125])) (fun _ o h3=> ?_) fun b e h3=> ?_
   ·change Z0 p.ts _ _=_ at h3
    simp only[h3,QW,PR.bind,PR.pos,PR.val]
    refine psX () (ZH (Qm (p.acc { a with r:=rs++[coR r (l.map toBo)] }) o [46])) (fun _ q h4=> ?_) fun b e h4=> ?_
    ·change Z0 p.ts _ _=_ at h4
     simp only[h4,PR.pos]; exact⟨rfl,rfl⟩
    ·change Z0 p.ts _ _=_ at h4
     simp only[h4]; exact rfl
   ·change Z0 p.ts _ _=_ at h3
    simp only[h3,QW,PR.bind]; exact rfl
  ·simp only[h2,if_true]; exact hO
 | succ m ih =>
  intro k hm hk
  have h1:k<l.length:=by omega
  have hx:=Za0 h1
  have ht:(l.take (k+1)).map toBo=(l.take k).map toBo++[toBo l[k]]:=by
   rw[List.take_add_one,List.getElem?_eq_getElem h1,List.map_append]; rfl
  have hI:=ih (k+1) (by omega) (by omega)
  rw[ht] at hI
  have hlen:(boL ((l.take k).map toBo)).length=k:=by simp[boL]; omega
  have eb:boL ((l.take k).map toBo++[toBo l[k]])=boL ((l.take k).map toBo)++[Bo.cs (toBo l[k])]:=by simp[boL]
  rw[eb] at hI
  generalize hq:l[k]=x at hx hI
  obtain⟨lk,lno,lp,la,lop,⟨k1,n1,s1,a1⟩,⟨k2,n2,s2,a2⟩⟩:=x
  refine At.tree (Z2a Z3 fun _=>(Z4 (Zi _ _) (Z4 (Z2 _ _ _ _) (Z2 _ _ _ _)))) (Z7F p.ts i a.so [] (ltL l) (boL ((l.take k).map toBo)) l.length k lk lno lp (Tm.cellsL la) lop k1 n1 s1 (Tm.cellsL a1) k2 n2 s2 (Tm.cellsL a2) (kT r.w:Nat) (nT r.w) (nmT r.w) (Tm.cellsL (Ps.arT r.w)) (kT r.lv:Nat) (nT r.lv) (nmT r.lv) (Tm.cellsL (Ps.arT r.lv)) (Tm.cellsL r.t) (Z1 p.ts (0) []) ((if Z1 p.ts (0) []=true then 0+1 else 0:Nat):Int) (PR.ok () 0).isOk  (PR.ok () 0).pos (flt (PR.ok () 0)) (PR.ok () 0).isOk  (PR.ok () 0).pos (flt (PR.ok () 0)) (ruL rs) (coL a.c) (shL a.s)) ?_
  unfold Zhi
  simp only[SS,hlen]
  exact⟨fun _=>⟨⟨by omega,hx⟩,⟨by simp[Zr],by omega⟩,by omega,hI⟩,fun h=>by omega⟩
theorem ZkQ (p:PS) (a:Ac) (n:Nat) (rs:List Ru) (hrs:rs.length<1000) (r:Ru) (l:List Lt) (hll:l.length<=1000) (i:Nat) (hO:At Tryz.prog 10 (cut sc57 0) (Z4t p.ts ((i+1:Nat):Int) a.so (ruL (rs++[coR r (l.map toBo)])) (coL a.c) (shL a.s)) (FM p (QW p.ts a (ZC p.ts n (rs++[coR r (l.map toBo)]) (i+1))))) :
  At Tryz.prog 10 (cut sc57 1) (Z59 (ltL l) l.length (0:Nat) (obM2 p.ts i a.so (ruL rs) (coL a.c) (shL a.s) (coC .nils (tC (kT r.w:Nat) (nT r.w) (nmT r.w) (Tm.cellsL (Ps.arT r.w))) (tC (kT r.lv:Nat) (nT r.lv) (nmT r.lv) (Tm.cellsL (Ps.arT r.lv))) (Tm.cellsL r.t)))) (FM p (Z2f p.ts a n (rs++[coR r (l.map toBo)]) i)):=by
 cases l with
 | nil =>
  refine At.tree (Z2a Z3 fun _=>(Z4 (Zi _ _) (Z4 (Z2 _ _ _ _) (Z2 _ _ _ _)))) (Z7H p.ts i a.so (ruL (rs++[coR r []])) [] (0:Nat) (0:Nat) 0 false [] [] 0 0 0 [] [] 0 0 [] [] (kT r.w:Nat) (nT r.w) (nmT r.w) (Tm.cellsL (Ps.arT r.w)) (kT r.lv:Nat) (nT r.lv) (nmT r.lv) (Tm.cellsL (Ps.arT r.lv)) (Tm.cellsL r.t) (Z1 p.ts (i) [[59]]) ((if Z1 p.ts (i) [[59]]=true then i+1 else i:Nat):Int) (Z0 p.ts [125] i).isOk  (Z0 p.ts [125] i).pos (flt (Z0 p.ts [125] i)) (Z0 p.ts [46] (Z0 p.ts [125] i).pos).isOk  (Z0 p.ts [46] (Z0 p.ts [125] i).pos).pos (flt (Z0 p.ts [46] (Z0 p.ts [125] i).pos)) (ruL rs) (coL a.c) (shL a.s)) ?_
  unfold Zhk Z2f
  have e:ruL rs++[Ru.cs (coR r [])]=ruL (rs++[coR r []]):=by simp[ruL]
  rw[Z7v] at e
  simp only[boL,List.map_nil] at e hO ⊢
  simp only[SS,Z0U]
  refine⟨fun h=>by omega,fun _=>⟨⟨by simp[Zr],by omega⟩, ?_⟩⟩
  rw[e]
  refine⟨Q6 (p.acc { a with r:=rs++[coR r []] }) i [[59]] [] (by simp),fun h2=> ?_,fun h2=> ?_⟩
  ·simp only[h2,Bool.false_eq_true,if_false]
   refine psX () (ZH (Qm (p.acc { a with r:=rs++[coR r []] }) i [125])) (fun _ o h3=> ?_) fun b e h3=> ?_
   ·change Z0 p.ts _ _=_ at h3
    simp only[h3,QW,PR.bind,PR.pos,PR.val]
    refine psX () (ZH (Qm (p.acc { a with r:=rs++[coR r []] }) o [46])) (fun _ q h4=> ?_) fun b e h4=> ?_
    ·change Z0 p.ts _ _=_ at h4
     simp only[h4,PR.pos]; exact⟨rfl,rfl⟩
    ·change Z0 p.ts _ _=_ at h4
     simp only[h4]; exact rfl
   ·change Z0 p.ts _ _=_ at h3
    simp only[h3,QW,PR.bind]; exact rfl
  ·simp only[h2,if_true]; exact hO
 | cons x t =>
  have hI:=ZkO p a n rs hrs r (x::t) hll i hO _ 1 rfl (by simp)
  have eb:boL (((x::t).take 1).map toBo)=[Bo.cs (toBo x)]:=by simp[boL]
  rw[eb] at hI
  have hx:(ltL (x::t))[0]? = some x.c:=rfl
  generalize hq:x::t=l at hI hx ⊢
  obtain⟨lk,lno,lp,la,lop,⟨k1,n1,s1,a1⟩,⟨k2,n2,s2,a2⟩⟩:=x
  have hlen:0<l.length:=by rw[<- hq]; simp
  refine At.tree (Z2a Z3 fun _=>(Z4 (Zi _ _) (Z4 (Z2 _ _ _ _) (Z2 _ _ _ _)))) (Z7H p.ts i a.so [] (ltL l) l.length (0:Nat) lk lno lp (Tm.cellsL la) lop k1 n1 s1 (Tm.cellsL a1) k2 n2 s2 (Tm.cellsL a2) (kT r.w:Nat) (nT r.w) (nmT r.w) (Tm.cellsL (Ps.arT r.w)) (kT r.lv:Nat) (nT r.lv) (nmT r.lv) (Tm.cellsL (Ps.arT r.lv)) (Tm.cellsL r.t) (Z1 p.ts (0) []) ((if Z1 p.ts (0) []=true then 0+1 else 0:Nat):Int) (PR.ok () 0).isOk  (PR.ok () 0).pos (flt (PR.ok () 0)) (PR.ok () 0).isOk  (PR.ok () 0).pos (flt (PR.ok () 0)) (ruL rs) (coL a.c) (shL a.s)) ?_
  unfold Zhk
  simp only[SS]
  exact⟨fun _=>⟨⟨by omega,hx⟩,⟨by simp[Zr],by omega⟩,by omega,hI⟩,fun h=>by omega⟩
theorem ZkS (p:PS) (a:Ac) (n:Nat) (rs:List Ru) (i:Nat) (hB: ∀ (rs:List Ru) (i:Nat),rs.length<=400->401<=n+rs.length->At Tryz.prog 10 (cut sc57 0) (Z4t p.ts i a.so (ruL rs) (coL a.c) (shL a.s)) (FM p (QW p.ts a (ZC p.ts n rs i)))) (hn:401<=n+1+rs.length) :
  At Tryz.prog 10 (cut sc57 0) (Z4t p.ts i a.so (ruL rs) (coL a.c) (shL a.s)) (FM p (QW p.ts a (ZC p.ts (n+1) rs i))):=by
 refine At.tree (ZF Z3 fun _=>(Z4 (Z2 _ _ _ _) (Z4 (Z2 _ _ _ _) (Z2 _ _ _ _)))) (Zd9 p.ts i a.so  (Zd rs.length i).isOk  (Zd rs.length i).pos (flt (Zd rs.length i)) (Zs p.ts (Zd rs.length i).pos).isOk (kT ((Zs p.ts (Zd rs.length i).pos).val zR).w:Nat) (nT ((Zs p.ts (Zd rs.length i).pos).val zR).w) (nmT ((Zs p.ts (Zd rs.length i).pos).val zR).w) (Tm.cellsL (Ps.arT ((Zs p.ts (Zd rs.length i).pos).val zR).w)) (kT ((Zs p.ts (Zd rs.length i).pos).val zR).lv:Nat) (nT ((Zs p.ts (Zd rs.length i).pos).val zR).lv) (nmT ((Zs p.ts (Zd rs.length i).pos).val zR).lv) (Tm.cellsL (Ps.arT ((Zs p.ts (Zd rs.length i).pos).val zR).lv)) (Tm.cellsL ((Zs p.ts (Zd rs.length i).pos).val zR).t) (Zs p.ts (Zd rs.length i).pos).pos (flt (Zs p.ts (Zd rs.length i).pos)) (Qe p.ts (Zs p.ts (Zd rs.length i).pos).pos).isOk (ltL ((Qe p.ts (Zs p.ts (Zd rs.length i).pos).pos).val [])) (Qe p.ts (Zs p.ts (Zd rs.length i).pos).pos).pos (flt (Qe p.ts (Zs p.ts (Zd rs.length i).pos).pos)) (ruL rs) (coL a.c) (shL a.s)) ?_
 unfold Zk2 ZC
 simp only[SS,Z0U]
 refine psX () (ZH (Z9G (p.acc { a with r:=rs }) i rs.length)) (fun _ j h1=> ?_) fun b e h1=> ?_
 ·have hlt:=Z0x h1
  simp only[h1,PR.bind,PR.pos,PR.val]
  refine psX zR (Ziy (p.acc { a with r:=rs }) j).1 (fun r k h2=> ?_) fun b e h2=> ?_
  ·change Zs p.ts _=_ at h2
   have hs:=Z3O p.ts j
   rw[h2] at hs
   have hs: ∀ b,{ r with b:=b }=coR r b:=hs
   simp only[h2,PR.bind,PR.pos,PR.val,hs]
   refine psX [] (Z9D (p.acc { a with r:=rs }) k).1 (fun l m h3=> ?_) fun b e h3=> ?_
   ·change Qe p.ts _=_ at h3
    have hv:=Z3w p.hv k
    rw[h3] at hv
    have hll:l.length<=64:=hv.2
    simp only[h3,PR.bind,PR.pos,PR.val]
    have:=ZkQ p a n rs (by omega) r l (by omega) m (hB _ _ (by simp; omega) (by simp; omega))
    simp only[Z9Z]
    exact this
   ·change Qe p.ts _=_ at h3
    simp only[h3,QW,PR.bind]; exact rfl
  ·change Zs p.ts _=_ at h2
   simp only[h2,QW,PR.bind]; exact rfl
 ·simp only[h1,QW,PR.bind]; exact rfl
theorem ZkT (p:PS) (a:Ac) (n:Nat) (rs:List Ru) (i:Nat) (hB: ∀ (rs:List Ru) (i:Nat),rs.length<=400->401<=n+rs.length->At Tryz.prog 10 (cut sc57 0) (Z4t p.ts i a.so (ruL rs) (coL a.c) (shL a.s)) (FM p (QW p.ts a (ZC p.ts n rs i)))) (hn:401<=n+1+rs.length) :
  At Tryz.prog 10 (cut sc57 0) (ZiP p.ts i a.so (ruL rs) (coL a.c) (shL a.s)) (FM p (QW p.ts a (ZC p.ts (n+1) rs i))):=by
 refine At.tree (ZF Z3 fun _=>(Z4 (Z2 _ _ _ _) (Z4 (Z2 _ _ _ _) (Z2 _ _ _ _)))) (Zda p.ts i a.so  (Zd rs.length i).isOk  (Zd rs.length i).pos (flt (Zd rs.length i)) (Zs p.ts (Zd rs.length i).pos).isOk (kT ((Zs p.ts (Zd rs.length i).pos).val zR).w:Nat) (nT ((Zs p.ts (Zd rs.length i).pos).val zR).w) (nmT ((Zs p.ts (Zd rs.length i).pos).val zR).w) (Tm.cellsL (Ps.arT ((Zs p.ts (Zd rs.length i).pos).val zR).w)) (kT ((Zs p.ts (Zd rs.length i).pos).val zR).lv:Nat) (nT ((Zs p.ts (Zd rs.length i).pos).val zR).lv) (nmT ((Zs p.ts (Zd rs.length i).pos).val zR).lv) (Tm.cellsL (Ps.arT ((Zs p.ts (Zd rs.length i).pos).val zR).lv)) (Tm.cellsL ((Zs p.ts (Zd rs.length i).pos).val zR).t) (Zs p.ts (Zd rs.length i).pos).pos (flt (Zs p.ts (Zd rs.length i).pos)) (Qe p.ts (Zs p.ts (Zd rs.length i).pos).pos).isOk (ltL ((Qe p.ts (Zs p.ts (Zd rs.length i).pos).pos).val [])) (Qe p.ts (Zs p.ts (Zd rs.length i).pos).pos).pos (flt (Qe p.ts (Zs p.ts (Zd rs.length i).pos).pos)) (ruL rs) (coL a.c) (shL a.s)) ?_
 unfold Zk3 ZC
 simp only[SS,Z0U]
 refine psX () (ZH (Z9G (p.acc { a with r:=rs }) i rs.length)) (fun _ j h1=> ?_) fun b e h1=> ?_
 ·have hlt:=Z0x h1
  simp only[h1,PR.bind,PR.pos,PR.val]
  refine psX zR (Ziy (p.acc { a with r:=rs }) j).1 (fun r k h2=> ?_) fun b e h2=> ?_
  ·change Zs p.ts _=_ at h2
   have hs:=Z3O p.ts j
   rw[h2] at hs
   have hs: ∀ b,{ r with b:=b }=coR r b:=hs
   simp only[h2,PR.bind,PR.pos,PR.val,hs]
   refine psX [] (Z9D (p.acc { a with r:=rs }) k).1 (fun l m h3=> ?_) fun b e h3=> ?_
   ·change Qe p.ts _=_ at h3
    have hv:=Z3w p.hv k
    rw[h3] at hv
    have hll:l.length<=64:=hv.2
    simp only[h3,PR.bind,PR.pos,PR.val]
    have:=ZkR p a n rs (by omega) r l (by omega) m (hB _ _ (by simp; omega) (by simp; omega))
    simp only[Z9Z]
    exact this
   ·change Qe p.ts _=_ at h3
    simp only[h3,QW,PR.bind]; exact rfl
  ·change Zs p.ts _=_ at h2
   simp only[h2,QW,PR.bind]; exact rfl
 ·simp only[h1,QW,PR.bind]; exact rfl
theorem qMiB (p:PS) (a:Ac): ∀ (n:Nat) (rs:List Ru) (i:Nat),rs.length<=400->401<=n+rs.length->At Tryz.prog 10 (cut sc57 0) (Z4t p.ts i a.so (ruL rs) (coL a.c) (shL a.s)) (FM p (QW p.ts a (ZC p.ts n rs i)))
 | 0,rs,i,h,hn=>by omega
 | n+1,rs,i,h,hn=>ZkS p a n rs i (qMiB p a n) hn
theorem ZkN (p:PS) (a:Ac) (i:Nat):CF 57 [.ptr 0 0] ((p.acc a).o i) (RSa p (ZZ p.ts a i)):=by
 refine Z2e (x:=10) (y:=2) (z:=3) (by decide) (by decide) (by decide) (by decide) (by decide) (by decide) ?_
 refine CallL.tree Z7 fp57 (ZF Z3 fun _=>(Z4 (Z2 _ _ _ _) (Z2 _ _ _ _))) (Zd8 p.ts i a.so  (Z0 p.ts Z2S i).isOk  (Z0 p.ts Z2S i).pos (flt (Z0 p.ts Z2S i)) (Z0 p.ts [123] (Z0 p.ts Z2S i).pos).isOk  (Z0 p.ts [123] (Z0 p.ts Z2S i).pos).pos (flt (Z0 p.ts [123] (Z0 p.ts Z2S i).pos)) (ruL a.r) (coL a.c) (shL a.s)) ?_
 unfold Zk1 ZZ
 simp only[SS]
 refine psX () (ZH (Qm (p.acc a) i Z2S)) (fun _ j h1=> ?_) fun b e h1=> ?_
 ·change Z0 p.ts _ _=_ at h1
  simp only[h1,PR.bind,PR.pos,PR.val]
  refine psX () (ZH (Qm (p.acc a) j [123])) (fun _ k h2=> ?_) fun b e h2=> ?_
  ·change Z0 p.ts _ _=_ at h2
   simp only[h2,PR.bind,PR.pos,PR.val]
   exact ZkT p a 400 a.r k (qMiB p a 400) (by omega)
  ·change Z0 p.ts _ _=_ at h2
   simp only[h2]; exact rfl
 ·change Z0 p.ts _ _=_ at h1
  simp only[h1,PR.bind]; exact rfl
end Go.Proofs.YtecgehidegnmnaaGreatDoor
