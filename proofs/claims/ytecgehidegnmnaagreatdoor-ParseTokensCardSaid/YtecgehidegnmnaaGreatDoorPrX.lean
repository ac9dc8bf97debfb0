/- The parser: minimize. -/
import Derived.Test.YtecgehidegnmnaaGreatDoorPrS
set_option linter.unusedSectionVars false
set_option linter.unusedVariables false
set_option linter.unusedSimpArgs false
set_option linter.deprecated false
set_option maxRecDepth 100000
namespace Go.Proofs.YtecgehidegnmnaaGreatDoor
open Go.Sx
open Go.Sx.Lx (Tk tokC)
open Go.Sx.Ps (kT nmT W Sm Ac)
abbrev coE (r:Ru):D:= .agg [.int .u8 3,.nils,.int .u8 0,.int .i64 0,.str [],.nils,.int .u8 0,.int .i64 0,.str [],.nils,.nils,.int .u8 (kT r.w:Nat),.int .i64 (nT r.w),.str (nmT r.w),.slice (Tm.cellsL (Ps.arT r.w)) [],.int .u8 (kT r.lv:Nat),.int .i64 (nT r.lv),.str (nmT r.lv),.slice (Tm.cellsL (Ps.arT r.lv)) [],.slice (Tm.cellsL r.t) []]
def tuD:List Tm->D
 | []=> .nils
 | x::l=> .slice (Tm.cellsL (x::l)) []
theorem Z3f {l:List Tm} (h:l≠[]):tuD l= .slice (Tm.cellsL l) []:=by
 cases l with
 | nil=>exact absurd rfl h
 | cons x l=>rfl
abbrev coN (r:Ru):D:= .agg [.int .u8 3,.nils,.int .u8 0,.int .i64 0,.str [],.nils,.int .u8 0,.int .i64 0,.str [],.nils,.nils,.int .u8 (kT r.w:Nat),.int .i64 (nT r.w),.str (nmT r.w),.slice (Tm.cellsL (Ps.arT r.w)) [],.int .u8 (kT r.lv:Nat),.int .i64 (nT r.lv),.str (nmT r.lv),.slice (Tm.cellsL (Ps.arT r.lv)) [],tuD r.t]
theorem Z8P {p:PS} {x:Ps.PR Ru} {d:D} {ys:List D} {ob:Obs} (h:CallL Tryz.prog d ys ob (RS p.o coN x)):CallL Tryz.prog d ys ob (RS p.o coE x):=by
 cases x with
 | bad a e=>exact h
 | ok r j =>
  change CallL _ _ _ _ (fun r0 ob0=>r0=coN r/\ob0=p.o j) at h
  show CallL _ _ _ _ (fun r0 ob0=>r0=coE r/\ob0=p.o j)
  unfold coN at h
  by_cases ht:r.t=[]
  ·rw[ht] at h
   have:=CallL.unN (j:=19) rfl h
   unfold coE
   rw[ht]
   exact this
  ·rw[Z3f ht] at h; exact h
theorem Z58 (p:PS) {i j:Nat} {l:List Tm} (h:Ps.tupleP p.ts i= .ok l j):l≠[]:=by
 have:=Ps.v_tuple p.hv i
 rw[h] at this
 exact this.2
theorem Zgy (p:PS) (i:Nat):Mth 99 (p.o i) (RS p.o coE (Ps.costP p.ts i)):=by
 refine (fun h:Mth 99 (p.o i) (RS p.o coN (Ps.costP p.ts i))=>⟨Z8P h.1,Z8P h.2⟩) ?_
 refine Mth.rs (Mth.tree Zj9 (Zi Z1 fun _=>(Z2 (Z0 _ _ _ _) (Z2 (Z7 _ _) (Z2 (Z0 _ _ _ _) (Z2 (Z7 _ _) (Z0 _ _ _ _)))))) (Zbo p.ts i p.so  (Ps.termP p.ts i).isOk (kT ((Ps.termP p.ts i).val Ps.z0):Nat) (nT ((Ps.termP p.ts i).val Ps.z0)) (nmT ((Ps.termP p.ts i).val Ps.z0)) (Tm.cellsL (Ps.arT ((Ps.termP p.ts i).val Ps.z0))) (Ps.termP p.ts i).pos (flt (Ps.termP p.ts i)) (Ps.seesP p.ts ((Ps.termP p.ts i).pos) [[64]]) ((if Ps.seesP p.ts ((Ps.termP p.ts i).pos) [[64]]=true then (Ps.termP p.ts i).pos+1 else (Ps.termP p.ts i).pos:Nat):Int) (Ps.termP p.ts ((Ps.termP p.ts i).pos+1)).isOk (kT ((Ps.termP p.ts ((Ps.termP p.ts i).pos+1)).val Ps.z0):Nat) (nT ((Ps.termP p.ts ((Ps.termP p.ts i).pos+1)).val Ps.z0)) (nmT ((Ps.termP p.ts ((Ps.termP p.ts i).pos+1)).val Ps.z0)) (Tm.cellsL (Ps.arT ((Ps.termP p.ts ((Ps.termP p.ts i).pos+1)).val Ps.z0))) (Ps.termP p.ts ((Ps.termP p.ts i).pos+1)).pos (flt (Ps.termP p.ts ((Ps.termP p.ts i).pos+1))) (Ps.seesP p.ts ((if Ps.seesP p.ts (Ps.termP p.ts i).pos [[64]]=true then (Ps.termP p.ts ((Ps.termP p.ts i).pos+1)).pos else (Ps.termP p.ts i).pos)) [[44]]) ((if Ps.seesP p.ts ((if Ps.seesP p.ts (Ps.termP p.ts i).pos [[64]]=true then (Ps.termP p.ts ((Ps.termP p.ts i).pos+1)).pos else (Ps.termP p.ts i).pos)) [[44]]=true then (if Ps.seesP p.ts (Ps.termP p.ts i).pos [[64]]=true then (Ps.termP p.ts ((Ps.termP p.ts i).pos+1)).pos else (Ps.termP p.ts i).pos)+1 else (if Ps.seesP p.ts (Ps.termP p.ts i).pos [[64]]=true then (Ps.termP p.ts ((Ps.termP p.ts i).pos+1)).pos else (Ps.termP p.ts i).pos):Nat):Int) (Ps.tupleP p.ts ((if Ps.seesP p.ts (Ps.termP p.ts i).pos [[64]]=true then (Ps.termP p.ts ((Ps.termP p.ts i).pos+1)).pos else (Ps.termP p.ts i).pos)+1)).isOk (Tm.cellsL ((Ps.tupleP p.ts ((if Ps.seesP p.ts (Ps.termP p.ts i).pos [[64]]=true then (Ps.termP p.ts ((Ps.termP p.ts i).pos+1)).pos else (Ps.termP p.ts i).pos)+1)).val [])) (Ps.tupleP p.ts ((if Ps.seesP p.ts (Ps.termP p.ts i).pos [[64]]=true then (Ps.termP p.ts ((Ps.termP p.ts i).pos+1)).pos else (Ps.termP p.ts i).pos)+1)).pos (flt (Ps.tupleP p.ts ((if Ps.seesP p.ts (Ps.termP p.ts i).pos [[64]]=true then (Ps.termP p.ts ((Ps.termP p.ts i).pos+1)).pos else (Ps.termP p.ts i).pos)+1))) p.r1 p.r2 p.r3) ?_)
 unfold Zid Ps.costP
 simp only[SS]
 refine psX Ps.z0 (Z1Z p i).1 (fun w j h1=> ?_) fun a e h1=> ?_
 ·simp only[h1,Ps.PR.bind,Ps.PR.pos,Ps.PR.val]
  refine⟨Zu p j [[64]] [] (by simp),fun h2=> ?_,fun h2=> ?_⟩
  ·simp only[h2,if_true]
   refine psX Ps.z0 (Z1Z p (j+1)).1 (fun lv k h3=> ?_) fun a e h3=> ?_
   ·simp only[h3,Ps.PR.bind,Ps.PR.pos,Ps.PR.val]
    refine⟨Zu p k [[44]] [] (by simp),fun h4=> ?_,fun h4=> ?_⟩
    ·simp only[h4,if_true]
     refine psX [] (qTup p (k+1)).1 (fun tu m h5=> ?_) fun a e h5=> ?_
     ·simp only[h5,Ps.PR.pos,Ps.PR.val]; exact⟨by first | (simp only[coN,Z3f (Z58 p h5)]; done) | (simp only[coN,Z3f (Z58 p h5)]; rfl),rfl⟩
     ·simp only[h5]; exact rfl
    ·simp only[h4,Bool.false_eq_true,if_false]; exact⟨rfl,rfl⟩
   ·simp only[h3,Ps.PR.bind]; exact rfl
  ·simp only[h2,Bool.false_eq_true,if_false]
   refine⟨Zu p j [[44]] [] (by simp),fun h4=> ?_,fun h4=> ?_⟩
   ·simp only[h4,if_true]
    refine psX [] (qTup p (j+1)).1 (fun tu m h5=> ?_) fun a e h5=> ?_
    ·simp only[h5,Ps.PR.pos,Ps.PR.val]; exact⟨by first | (simp only[coN,Z3f (Z58 p h5)]; done) | (simp only[coN,Z3f (Z58 p h5)]; rfl),rfl⟩
    ·simp only[h5]; exact rfl
   ·simp only[h4,Bool.false_eq_true,if_false]; exact⟨rfl,rfl⟩
 ·simp only[h1,Ps.PR.bind]; exact rfl
def toBo (x:Lt):Bo:=⟨1,x,[],false,0,[],0,Ps.z0⟩
def coR (r:Ru) (b:List Bo):Ru:={ Ps.zR with k:=3,w:=r.w,lv:=r.lv,t:=r.t,b:=b }
theorem Z2n (ts:List Tk) (i:Nat):Ps.VP (fun r=> ∀ b,{ r with b:=b }=coR r b) (Ps.costP ts i):=by
 unfold Ps.costP
 exact (Ps.VP.any _).bind fun w j _ _=>(Ps.VP.any _).bind fun lv k _ _=>(Ps.VP.any _).bind fun tu m _ _=>fun b=>rfl
theorem Z5K (r:Ru) (b:List Bo):Ru.cs (coR r b)=[.int .u8 3,.slice [] [],.int .u8 0,.int .i64 0,.str [],.slice [] [],.int .u8 0,.int .i64 0,.str [],.slice [] [],.slice (boL b) [],.int .u8 (kT r.w:Nat),.int .i64 (nT r.w),.str (nmT r.w),.slice (Tm.cellsL (Ps.arT r.w)) [],.int .u8 (kT r.lv:Nat),.int .i64 (nT r.lv),.str (nmT r.lv),.slice (Tm.cellsL (Ps.arT r.lv)) [],.slice (Tm.cellsL r.t) []]:=(D.agg.inj (Z7x (coR r b))).symm
def Q4 (ts:List Tk) (a:Ac) (x:Ps.PR (List Ru)):Ps.PR Ac:=x.bind fun rs m=>(Ps.mustP ts [125] m).bind fun _ o=>(Ps.mustP ts [46] o).bind fun _ q=> .ok { a with r:=rs } q
def Z10 (ts:List Tk) (a:Ac) (n:Nat) (rs:List Ru) (i:Nat):Ps.PR Ac:=Q4 ts a (if Ps.seesP ts i [[59]]=true then Ps.miniGo ts n rs (i+1) else .ok rs i)
abbrev FM (p:PS) (q:Ps.PR Ac):Exit->St->Prop:=FinQ false 10 rs57 (RN 10 2 3 p q)
theorem ZiQ (p:PS) (a:Ac) (n:Nat) (rs:List Ru) (hrs:rs.length<1000) (r:Ru) (l:List Lt) (hll:l.length<=1000) (i:Nat) (hO:At Tryz.prog 10 (cut sc57 0) (Z31 p.ts ((i+1:Nat):Int) a.so (ruL (rs++[coR r (l.map toBo)])) (coL a.c) (shL a.s)) (FM p (Q4 p.ts a (Ps.miniGo p.ts n (rs++[coR r (l.map toBo)]) (i+1))))) :
  ∀ (m k:Nat),l.length-k=m->k<=l.length->At Tryz.prog 10 (cut sc57 1) (Z3J (ltL l) l.length k (ZgH p.ts i a.so (ruL rs) (coL a.c) (shL a.s) (boL ((l.take k).map toBo)) (coC (.vec 11) (tC (kT r.w:Nat) (nT r.w) (nmT r.w) (Tm.cellsL (Ps.arT r.w))) (tC (kT r.lv:Nat) (nT r.lv) (nmT r.lv) (Tm.cellsL (Ps.arT r.lv))) (Tm.cellsL r.t)))) (FM p (Z10 p.ts a n (rs++[coR r (l.map toBo)]) i)):=by
 intro m
 induction m with
 | zero =>
  intro k hm hk
  have hkl:k=l.length:=by omega
  subst hkl
  refine At.tree (Z0X Z1 fun _=>(Z2 (Z7 _ _) (Z2 (Z0 _ _ _ _) (Z0 _ _ _ _)))) (Z5V p.ts i a.so (ruL (rs++[coR r (l.map toBo)])) (ltL l) (boL ((l.take l.length).map toBo)) l.length l.length 0 false [] [] 0 0 0 [] [] 0 0 [] [] (kT r.w:Nat) (nT r.w) (nmT r.w) (Tm.cellsL (Ps.arT r.w)) (kT r.lv:Nat) (nT r.lv) (nmT r.lv) (Tm.cellsL (Ps.arT r.lv)) (Tm.cellsL r.t) (Ps.seesP p.ts (i) [[59]]) ((if Ps.seesP p.ts (i) [[59]]=true then i+1 else i:Nat):Int) (Ps.mustP p.ts [125] i).isOk  (Ps.mustP p.ts [125] i).pos (flt (Ps.mustP p.ts [125] i)) (Ps.mustP p.ts [46] (Ps.mustP p.ts [125] i).pos).isOk  (Ps.mustP p.ts [46] (Ps.mustP p.ts [125] i).pos).pos (flt (Ps.mustP p.ts [46] (Ps.mustP p.ts [125] i).pos)) (ruL rs) (coL a.c) (shL a.s)) ?_
  unfold Zfm Z10
  rw[List.take_length]
  have e:ruL rs++[Ru.cs (coR r (l.map toBo))]=ruL (rs++[coR r (l.map toBo)]):=by simp[ruL]
  rw[Z5K] at e
  simp only[SS,Z0o]
  refine⟨fun h=>by omega,fun _=>⟨⟨by simp[Zb],by omega⟩, ?_⟩⟩
  rw[e]
  refine⟨Zu (p.acc { a with r:=rs++[coR r (l.map toBo)] }) i [[59]] [] (by simp),fun h2=> ?_,fun h2=> ?_⟩
  ·simp only[h2,Bool.false_eq_true,if_false]
   refine psX () (Zk (ZE (p.acc { a with r:=rs++[coR r (l.map toBo)] }) i [125])) (fun _ o h3=> ?_) fun b e h3=> ?_
   ·change Ps.mustP p.ts _ _=_ at h3
    simp only[h3,Q4,Ps.PR.bind,Ps.PR.pos,Ps.PR.val]
    refine psX () (Zk (ZE (p.acc { a with r:=rs++[coR r (l.map toBo)] }) o [46])) (fun _ q h4=> ?_) fun b e h4=> ?_
    ·change Ps.mustP p.ts _ _=_ at h4
     simp only[h4,Ps.PR.pos]; exact⟨rfl,rfl⟩
    ·change Ps.mustP p.ts _ _=_ at h4
     simp only[h4]; exact rfl
   ·change Ps.mustP p.ts _ _=_ at h3
    simp only[h3,Q4,Ps.PR.bind]; exact rfl
  ·simp only[h2,if_true]; exact hO
 | succ m ih =>
  intro k hm hk
  have h1:k<l.length:=by omega
  have hx:=Z87 h1
  have ht:(l.take (k+1)).map toBo=(l.take k).map toBo++[toBo l[k]]:=by
   rw[List.take_add_one,List.getElem?_eq_getElem h1,List.map_append]; rfl
  have hI:=ih (k+1) (by omega) (by omega)
  rw[ht] at hI
  have hlen:(boL ((l.take k).map toBo)).length=k:=by simp[boL]; omega
  have eb:boL ((l.take k).map toBo++[toBo l[k]])=boL ((l.take k).map toBo)++[Bo.cs (toBo l[k])]:=by simp[boL]
  rw[eb] at hI
  generalize hq:l[k]=x at hx hI
  obtain⟨lk,lno,lp,la,lop,⟨k1,n1,s1,a1⟩,⟨k2,n2,s2,a2⟩⟩:=x
  refine At.tree (Z0X Z1 fun _=>(Z2 (Z7 _ _) (Z2 (Z0 _ _ _ _) (Z0 _ _ _ _)))) (Z5V p.ts i a.so [] (ltL l) (boL ((l.take k).map toBo)) l.length k lk lno lp (Tm.cellsL la) lop k1 n1 s1 (Tm.cellsL a1) k2 n2 s2 (Tm.cellsL a2) (kT r.w:Nat) (nT r.w) (nmT r.w) (Tm.cellsL (Ps.arT r.w)) (kT r.lv:Nat) (nT r.lv) (nmT r.lv) (Tm.cellsL (Ps.arT r.lv)) (Tm.cellsL r.t) (Ps.seesP p.ts (0) []) ((if Ps.seesP p.ts (0) []=true then 0+1 else 0:Nat):Int) (Ps.PR.ok () 0).isOk  (Ps.PR.ok () 0).pos (flt (Ps.PR.ok () 0)) (Ps.PR.ok () 0).isOk  (Ps.PR.ok () 0).pos (flt (Ps.PR.ok () 0)) (ruL rs) (coL a.c) (shL a.s)) ?_
  unfold Zfm
  simp only[SS,hlen]
  exact⟨fun _=>⟨⟨by omega,hx⟩,⟨by simp[Zb],by omega⟩,by omega,hI⟩,fun h=>by omega⟩
theorem ZiS (p:PS) (a:Ac) (n:Nat) (rs:List Ru) (hrs:rs.length<1000) (r:Ru) (l:List Lt) (hll:l.length<=1000) (i:Nat) (hO:At Tryz.prog 10 (cut sc57 0) (Z31 p.ts ((i+1:Nat):Int) a.so (ruL (rs++[coR r (l.map toBo)])) (coL a.c) (shL a.s)) (FM p (Q4 p.ts a (Ps.miniGo p.ts n (rs++[coR r (l.map toBo)]) (i+1))))) :
  At Tryz.prog 10 (cut sc57 1) (Z3J (ltL l) l.length (0:Nat) (obM1 p.ts i a.so (ruL rs) (coL a.c) (shL a.s) (coC .nils (tC (kT r.w:Nat) (nT r.w) (nmT r.w) (Tm.cellsL (Ps.arT r.w))) (tC (kT r.lv:Nat) (nT r.lv) (nmT r.lv) (Tm.cellsL (Ps.arT r.lv))) (Tm.cellsL r.t)))) (FM p (Z10 p.ts a n (rs++[coR r (l.map toBo)]) i)):=by
 cases l with
 | nil =>
  refine At.tree (Z0X Z1 fun _=>(Z2 (Z7 _ _) (Z2 (Z0 _ _ _ _) (Z0 _ _ _ _)))) (Z5X p.ts i a.so (ruL (rs++[coR r []])) [] (0:Nat) (0:Nat) 0 false [] [] 0 0 0 [] [] 0 0 [] [] (kT r.w:Nat) (nT r.w) (nmT r.w) (Tm.cellsL (Ps.arT r.w)) (kT r.lv:Nat) (nT r.lv) (nmT r.lv) (Tm.cellsL (Ps.arT r.lv)) (Tm.cellsL r.t) (Ps.seesP p.ts (i) [[59]]) ((if Ps.seesP p.ts (i) [[59]]=true then i+1 else i:Nat):Int) (Ps.mustP p.ts [125] i).isOk  (Ps.mustP p.ts [125] i).pos (flt (Ps.mustP p.ts [125] i)) (Ps.mustP p.ts [46] (Ps.mustP p.ts [125] i).pos).isOk  (Ps.mustP p.ts [46] (Ps.mustP p.ts [125] i).pos).pos (flt (Ps.mustP p.ts [46] (Ps.mustP p.ts [125] i).pos)) (ruL rs) (coL a.c) (shL a.s)) ?_
  unfold Zfo Z10
  have e:ruL rs++[Ru.cs (coR r [])]=ruL (rs++[coR r []]):=by simp[ruL]
  rw[Z5K] at e
  simp only[boL,List.map_nil] at e hO ⊢
  simp only[SS,Z0o]
  refine⟨fun h=>by omega,fun _=>⟨⟨by simp[Zb],by omega⟩, ?_⟩⟩
  rw[e]
  refine⟨Zu (p.acc { a with r:=rs++[coR r []] }) i [[59]] [] (by simp),fun h2=> ?_,fun h2=> ?_⟩
  ·simp only[h2,Bool.false_eq_true,if_false]
   refine psX () (Zk (ZE (p.acc { a with r:=rs++[coR r []] }) i [125])) (fun _ o h3=> ?_) fun b e h3=> ?_
   ·change Ps.mustP p.ts _ _=_ at h3
    simp only[h3,Q4,Ps.PR.bind,Ps.PR.pos,Ps.PR.val]
    refine psX () (Zk (ZE (p.acc { a with r:=rs++[coR r []] }) o [46])) (fun _ q h4=> ?_) fun b e h4=> ?_
    ·change Ps.mustP p.ts _ _=_ at h4
     simp only[h4,Ps.PR.pos]; exact⟨rfl,rfl⟩
    ·change Ps.mustP p.ts _ _=_ at h4
     simp only[h4]; exact rfl
   ·change Ps.mustP p.ts _ _=_ at h3
    simp only[h3,Q4,Ps.PR.bind]; exact rfl
  ·simp only[h2,if_true]; exact hO
 | cons x t =>
  have hI:=ZiQ p a n rs hrs r (x::t) hll i hO _ 1 rfl (by simp)
  have eb:boL (((x::t).take 1).map toBo)=[Bo.cs (toBo x)]:=by simp[boL]
  rw[eb] at hI
  have hx:(ltL (x::t))[0]? = some x.c:=rfl
  generalize hq:x::t=l at hI hx ⊢
  obtain⟨lk,lno,lp,la,lop,⟨k1,n1,s1,a1⟩,⟨k2,n2,s2,a2⟩⟩:=x
  have hlen:0<l.length:=by rw[<- hq]; simp
  refine At.tree (Z0X Z1 fun _=>(Z2 (Z7 _ _) (Z2 (Z0 _ _ _ _) (Z0 _ _ _ _)))) (Z5X p.ts i a.so [] (ltL l) l.length (0:Nat) lk lno lp (Tm.cellsL la) lop k1 n1 s1 (Tm.cellsL a1) k2 n2 s2 (Tm.cellsL a2) (kT r.w:Nat) (nT r.w) (nmT r.w) (Tm.cellsL (Ps.arT r.w)) (kT r.lv:Nat) (nT r.lv) (nmT r.lv) (Tm.cellsL (Ps.arT r.lv)) (Tm.cellsL r.t) (Ps.seesP p.ts (0) []) ((if Ps.seesP p.ts (0) []=true then 0+1 else 0:Nat):Int) (Ps.PR.ok () 0).isOk  (Ps.PR.ok () 0).pos (flt (Ps.PR.ok () 0)) (Ps.PR.ok () 0).isOk  (Ps.PR.ok () 0).pos (flt (Ps.PR.ok () 0)) (ruL rs) (coL a.c) (shL a.s)) ?_
  unfold Zfo
  simp only[SS]
  exact⟨fun _=>⟨⟨by omega,hx⟩,⟨by simp[Zb],by omega⟩,by omega,hI⟩,fun h=>by omega⟩
theorem ZiP (p:PS) (a:Ac) (n:Nat) (rs:List Ru) (hrs:rs.length<1000) (r:Ru) (l:List Lt) (hll:l.length<=1000) (i:Nat) (hO:At Tryz.prog 10 (cut sc57 0) (Z31 p.ts ((i+1:Nat):Int) a.so (ruL (rs++[coR r (l.map toBo)])) (coL a.c) (shL a.s)) (FM p (Q4 p.ts a (Ps.miniGo p.ts n (rs++[coR r (l.map toBo)]) (i+1))))) :
  ∀ (m k:Nat),l.length-k=m->k<=l.length->At Tryz.prog 10 (cut sc57 1) (Z3J (ltL l) l.length k (ZgG p.ts i a.so (ruL rs) (coL a.c) (shL a.s) (boL ((l.take k).map toBo)) (coC (.vec 12) (tC (kT r.w:Nat) (nT r.w) (nmT r.w) (Tm.cellsL (Ps.arT r.w))) (tC (kT r.lv:Nat) (nT r.lv) (nmT r.lv) (Tm.cellsL (Ps.arT r.lv))) (Tm.cellsL r.t)))) (FM p (Z10 p.ts a n (rs++[coR r (l.map toBo)]) i)):=by
 intro m
 induction m with
 | zero =>
  intro k hm hk
  have hkl:k=l.length:=by omega
  subst hkl
  refine At.tree (Z0X Z1 fun _=>(Z2 (Z7 _ _) (Z2 (Z0 _ _ _ _) (Z0 _ _ _ _)))) (Z5U p.ts i a.so (ruL (rs++[coR r (l.map toBo)])) (ltL l) (boL ((l.take l.length).map toBo)) l.length l.length 0 false [] [] 0 0 0 [] [] 0 0 [] [] (kT r.w:Nat) (nT r.w) (nmT r.w) (Tm.cellsL (Ps.arT r.w)) (kT r.lv:Nat) (nT r.lv) (nmT r.lv) (Tm.cellsL (Ps.arT r.lv)) (Tm.cellsL r.t) (Ps.seesP p.ts (i) [[59]]) ((if Ps.seesP p.ts (i) [[59]]=true then i+1 else i:Nat):Int) (Ps.mustP p.ts [125] i).isOk  (Ps.mustP p.ts [125] i).pos (flt (Ps.mustP p.ts [125] i)) (Ps.mustP p.ts [46] (Ps.mustP p.ts [125] i).pos).isOk  (Ps.mustP p.ts [46] (Ps.mustP p.ts [125] i).pos).pos (flt (Ps.mustP p.ts [46] (Ps.mustP p.ts [125] i).pos)) (ruL rs) (coL a.c) (shL a.s)) ?_
  unfold Zfl Z10
  rw[List.take_length]
  have e:ruL rs++[Ru.cs (coR r (l.map toBo))]=ruL (rs++[coR r (l.map toBo)]):=by simp[ruL]
  rw[Z5K] at e
  simp only[SS,Z0o]
  refine⟨fun h=>by omega,fun _=>⟨⟨by simp[Zb],by omega⟩, ?_⟩⟩
  rw[e]
  refine⟨Zu (p.acc { a with r:=rs++[coR r (l.map toBo)] }) i [[59]] [] (by simp),fun h2=> ?_,fun h2=> ?_⟩
  ·simp only[h2,Bool.false_eq_true,if_false]
   refine psX () (Zk (ZE (p.acc { a with r:=rs++[coR r (l.map toBo)] }) i [125])) (fun _ o h3=> ?_) fun b e h3=> ?_
   ·change Ps.mustP p.ts _ _=_ at h3
    simp only[h3,Q4,Ps.PR.bind,Ps.PR.pos,Ps.PR.val]
    refine psX () (Zk (ZE (p.acc { a with r:=rs++[coR r (l.map toBo)] }) o [46])) (fun _ q h4=> ?_) fun b e h4=> ?_
    ·change Ps.mustP p.ts _ _=_ at h4
     simp only[h4,Ps.PR.pos]; exact⟨rfl,rfl⟩
    ·change Ps.mustP p.ts _ _=_ at h4
     simp only[h4]; exact rfl
   ·change Ps.mustP p.ts _ _=_ at h3
    simp only[h3,Q4,Ps.PR.bind]; exact rfl
  ·simp only[h2,if_true]; exact hO
 | succ m ih =>
  intro k hm hk
  have h1:k<l.length:=by omega
  have hx:=Z87 h1
  have ht:(l.take (k+1)).map toBo=(l.take k).map toBo++[toBo l[k]]:=by
   rw[List.take_add_one,List.getElem?_eq_getElem h1,List.map_append]; rfl
  have hI:=ih (k+1) (by omega) (by omega)
  rw[ht] at hI
  have hlen:(boL ((l.take k).map toBo)).length=k:=by simp[boL]; omega
  have eb:boL ((l.take k).map toBo++[toBo l[k]])=boL ((l.take k).map toBo)++[Bo.cs (toBo l[k])]:=by simp[boL]
  rw[eb] at hI
  generalize hq:l[k]=x at hx hI
  obtain⟨lk,lno,lp,la,lop,⟨k1,n1,s1,a1⟩,⟨k2,n2,s2,a2⟩⟩:=x
  refine At.tree (Z0X Z1 fun _=>(Z2 (Z7 _ _) (Z2 (Z0 _ _ _ _) (Z0 _ _ _ _)))) (Z5U p.ts i a.so [] (ltL l) (boL ((l.take k).map toBo)) l.length k lk lno lp (Tm.cellsL la) lop k1 n1 s1 (Tm.cellsL a1) k2 n2 s2 (Tm.cellsL a2) (kT r.w:Nat) (nT r.w) (nmT r.w) (Tm.cellsL (Ps.arT r.w)) (kT r.lv:Nat) (nT r.lv) (nmT r.lv) (Tm.cellsL (Ps.arT r.lv)) (Tm.cellsL r.t) (Ps.seesP p.ts (0) []) ((if Ps.seesP p.ts (0) []=true then 0+1 else 0:Nat):Int) (Ps.PR.ok () 0).isOk  (Ps.PR.ok () 0).pos (flt (Ps.PR.ok () 0)) (Ps.PR.ok () 0).isOk  (Ps.PR.ok () 0).pos (flt (Ps.PR.ok () 0)) (ruL rs) (coL a.c) (shL a.s)) ?_
  unfold Zfl
  simp only[SS,hlen]
  exact⟨fun _=>⟨⟨by omega,hx⟩,⟨by simp[Zb],by omega⟩,by omega,hI⟩,fun h=>by omega⟩
theorem ZiR (p:PS) (a:Ac) (n:Nat) (rs:List Ru) (hrs:rs.length<1000) (r:Ru) (l:List Lt) (hll:l.length<=1000) (i:Nat) (hO:At Tryz.prog 10 (cut sc57 0) (Z31 p.ts ((i+1:Nat):Int) a.so (ruL (rs++[coR r (l.map toBo)])) (coL a.c) (shL a.s)) (FM p (Q4 p.ts a (Ps.miniGo p.ts n (rs++[coR r (l.map toBo)]) (i+1))))) :
  At Tryz.prog 10 (cut sc57 1) (Z3J (ltL l) l.length (0:Nat) (obM2 p.ts i a.so (ruL rs) (coL a.c) (shL a.s) (coC .nils (tC (kT r.w:Nat) (nT r.w) (nmT r.w) (Tm.cellsL (Ps.arT r.w))) (tC (kT r.lv:Nat) (nT r.lv) (nmT r.lv) (Tm.cellsL (Ps.arT r.lv))) (Tm.cellsL r.t)))) (FM p (Z10 p.ts a n (rs++[coR r (l.map toBo)]) i)):=by
 cases l with
 | nil =>
  refine At.tree (Z0X Z1 fun _=>(Z2 (Z7 _ _) (Z2 (Z0 _ _ _ _) (Z0 _ _ _ _)))) (Z5W p.ts i a.so (ruL (rs++[coR r []])) [] (0:Nat) (0:Nat) 0 false [] [] 0 0 0 [] [] 0 0 [] [] (kT r.w:Nat) (nT r.w) (nmT r.w) (Tm.cellsL (Ps.arT r.w)) (kT r.lv:Nat) (nT r.lv) (nmT r.lv) (Tm.cellsL (Ps.arT r.lv)) (Tm.cellsL r.t) (Ps.seesP p.ts (i) [[59]]) ((if Ps.seesP p.ts (i) [[59]]=true then i+1 else i:Nat):Int) (Ps.mustP p.ts [125] i).isOk  (Ps.mustP p.ts [125] i).pos (flt (Ps.mustP p.ts [125] i)) (Ps.mustP p.ts [46] (Ps.mustP p.ts [125] i).pos).isOk  (Ps.mustP p.ts [46] (Ps.mustP p.ts [125] i).pos).pos (flt (Ps.mustP p.ts [46] (Ps.mustP p.ts [125] i).pos)) (ruL rs) (coL a.c) (shL a.s)) ?_
  unfold Zfn Z10
  have e:ruL rs++[Ru.cs (coR r [])]=ruL (rs++[coR r []]):=by simp[ruL]
  rw[Z5K] at e
  simp only[boL,List.map_nil] at e hO ⊢
  simp only[SS,Z0o]
  refine⟨fun h=>by omega,fun _=>⟨⟨by simp[Zb],by omega⟩, ?_⟩⟩
  rw[e]
  refine⟨Zu (p.acc { a with r:=rs++[coR r []] }) i [[59]] [] (by simp),fun h2=> ?_,fun h2=> ?_⟩
  ·simp only[h2,Bool.false_eq_true,if_false]
   refine psX () (Zk (ZE (p.acc { a with r:=rs++[coR r []] }) i [125])) (fun _ o h3=> ?_) fun b e h3=> ?_
   ·change Ps.mustP p.ts _ _=_ at h3
    simp only[h3,Q4,Ps.PR.bind,Ps.PR.pos,Ps.PR.val]
    refine psX () (Zk (ZE (p.acc { a with r:=rs++[coR r []] }) o [46])) (fun _ q h4=> ?_) fun b e h4=> ?_
    ·change Ps.mustP p.ts _ _=_ at h4
     simp only[h4,Ps.PR.pos]; exact⟨rfl,rfl⟩
    ·change Ps.mustP p.ts _ _=_ at h4
     simp only[h4]; exact rfl
   ·change Ps.mustP p.ts _ _=_ at h3
    simp only[h3,Q4,Ps.PR.bind]; exact rfl
  ·simp only[h2,if_true]; exact hO
 | cons x t =>
  have hI:=ZiP p a n rs hrs r (x::t) hll i hO _ 1 rfl (by simp)
  have eb:boL (((x::t).take 1).map toBo)=[Bo.cs (toBo x)]:=by simp[boL]
  rw[eb] at hI
  have hx:(ltL (x::t))[0]? = some x.c:=rfl
  generalize hq:x::t=l at hI hx ⊢
  obtain⟨lk,lno,lp,la,lop,⟨k1,n1,s1,a1⟩,⟨k2,n2,s2,a2⟩⟩:=x
  have hlen:0<l.length:=by rw[<- hq]; simp
  refine At.tree (Z0X Z1 fun _=>(Z2 (Z7 _ _) (Z2 (Z0 _ _ _ _) (Z0 _ _ _ _)))) (Z5W p.ts i a.so [] (ltL l) l.length (0:Nat) lk lno lp (Tm.cellsL la) lop k1 n1 s1 (Tm.cellsL a1) k2 n2 s2 (Tm.cellsL a2) (kT r.w:Nat) (nT r.w) (nmT r.w) (Tm.cellsL (Ps.arT r.w)) (kT r.lv:Nat) (nT r.lv) (nmT r.lv) (Tm.cellsL (Ps.arT r.lv)) (Tm.cellsL r.t) (Ps.seesP p.ts (0) []) ((if Ps.seesP p.ts (0) []=true then 0+1 else 0:Nat):Int) (Ps.PR.ok () 0).isOk  (Ps.PR.ok () 0).pos (flt (Ps.PR.ok () 0)) (Ps.PR.ok () 0).isOk  (Ps.PR.ok () 0).pos (flt (Ps.PR.ok () 0)) (ruL rs) (coL a.c) (shL a.s)) ?_
  unfold Zfn
  simp only[SS]
  exact⟨fun _=>⟨⟨by omega,hx⟩,⟨by simp[Zb],by omega⟩,by omega,hI⟩,fun h=>by omega⟩
theorem ZiT (p:PS) (a:Ac) (n:Nat) (rs:List Ru) (i:Nat) (hB: ∀ (rs:List Ru) (i:Nat),rs.length<=400->401<=n+rs.length->At Tryz.prog 10 (cut sc57 0) (Z31 p.ts i a.so (ruL rs) (coL a.c) (shL a.s)) (FM p (Q4 p.ts a (Ps.miniGo p.ts n rs i)))) (hn:401<=n+1+rs.length) :
  At Tryz.prog 10 (cut sc57 0) (Z31 p.ts i a.so (ruL rs) (coL a.c) (shL a.s)) (FM p (Q4 p.ts a (Ps.miniGo p.ts (n+1) rs i))):=by
 refine At.tree (Zi Z1 fun _=>(Z2 (Z0 _ _ _ _) (Z2 (Z0 _ _ _ _) (Z0 _ _ _ _)))) (Zbg p.ts i a.so  (Ps.moreP rs.length i).isOk  (Ps.moreP rs.length i).pos (flt (Ps.moreP rs.length i)) (Ps.costP p.ts (Ps.moreP rs.length i).pos).isOk (kT ((Ps.costP p.ts (Ps.moreP rs.length i).pos).val Ps.zR).w:Nat) (nT ((Ps.costP p.ts (Ps.moreP rs.length i).pos).val Ps.zR).w) (nmT ((Ps.costP p.ts (Ps.moreP rs.length i).pos).val Ps.zR).w) (Tm.cellsL (Ps.arT ((Ps.costP p.ts (Ps.moreP rs.length i).pos).val Ps.zR).w)) (kT ((Ps.costP p.ts (Ps.moreP rs.length i).pos).val Ps.zR).lv:Nat) (nT ((Ps.costP p.ts (Ps.moreP rs.length i).pos).val Ps.zR).lv) (nmT ((Ps.costP p.ts (Ps.moreP rs.length i).pos).val Ps.zR).lv) (Tm.cellsL (Ps.arT ((Ps.costP p.ts (Ps.moreP rs.length i).pos).val Ps.zR).lv)) (Tm.cellsL ((Ps.costP p.ts (Ps.moreP rs.length i).pos).val Ps.zR).t) (Ps.costP p.ts (Ps.moreP rs.length i).pos).pos (flt (Ps.costP p.ts (Ps.moreP rs.length i).pos)) (Ps.whenP p.ts (Ps.costP p.ts (Ps.moreP rs.length i).pos).pos).isOk (ltL ((Ps.whenP p.ts (Ps.costP p.ts (Ps.moreP rs.length i).pos).pos).val [])) (Ps.whenP p.ts (Ps.costP p.ts (Ps.moreP rs.length i).pos).pos).pos (flt (Ps.whenP p.ts (Ps.costP p.ts (Ps.moreP rs.length i).pos).pos)) (ruL rs) (coL a.c) (shL a.s)) ?_
 unfold Zi0 Ps.miniGo
 simp only[SS,Z0o]
 refine psX () (Zk (Z7O (p.acc { a with r:=rs }) i rs.length)) (fun _ j h1=> ?_) fun b e h1=> ?_
 ·have hlt:=Ps.more_lt h1
  simp only[h1,Ps.PR.bind,Ps.PR.pos,Ps.PR.val]
  refine psX Ps.zR (Zgy (p.acc { a with r:=rs }) j).1 (fun r k h2=> ?_) fun b e h2=> ?_
  ·change Ps.costP p.ts _=_ at h2
   have hs:=Z2n p.ts j
   rw[h2] at hs
   have hs: ∀ b,{ r with b:=b }=coR r b:=hs
   simp only[h2,Ps.PR.bind,Ps.PR.pos,Ps.PR.val,hs]
   refine psX [] (Z7L (p.acc { a with r:=rs }) k).1 (fun l m h3=> ?_) fun b e h3=> ?_
   ·change Ps.whenP p.ts _=_ at h3
    have hv:=Ps.v_when p.hv k
    rw[h3] at hv
    have hll:l.length<=64:=hv.2
    simp only[h3,Ps.PR.bind,Ps.PR.pos,Ps.PR.val]
    have:=ZiR p a n rs (by omega) r l (by omega) m (hB _ _ (by simp; omega) (by simp; omega))
    simp only[Z86]
    exact this
   ·change Ps.whenP p.ts _=_ at h3
    simp only[h3,Q4,Ps.PR.bind]; exact rfl
  ·change Ps.costP p.ts _=_ at h2
   simp only[h2,Q4,Ps.PR.bind]; exact rfl
 ·simp only[h1,Q4,Ps.PR.bind]; exact rfl
theorem ZiU (p:PS) (a:Ac) (n:Nat) (rs:List Ru) (i:Nat) (hB: ∀ (rs:List Ru) (i:Nat),rs.length<=400->401<=n+rs.length->At Tryz.prog 10 (cut sc57 0) (Z31 p.ts i a.so (ruL rs) (coL a.c) (shL a.s)) (FM p (Q4 p.ts a (Ps.miniGo p.ts n rs i)))) (hn:401<=n+1+rs.length) :
  At Tryz.prog 10 (cut sc57 0) (ZgO p.ts i a.so (ruL rs) (coL a.c) (shL a.s)) (FM p (Q4 p.ts a (Ps.miniGo p.ts (n+1) rs i))):=by
 refine At.tree (Zi Z1 fun _=>(Z2 (Z0 _ _ _ _) (Z2 (Z0 _ _ _ _) (Z0 _ _ _ _)))) (Zbh p.ts i a.so  (Ps.moreP rs.length i).isOk  (Ps.moreP rs.length i).pos (flt (Ps.moreP rs.length i)) (Ps.costP p.ts (Ps.moreP rs.length i).pos).isOk (kT ((Ps.costP p.ts (Ps.moreP rs.length i).pos).val Ps.zR).w:Nat) (nT ((Ps.costP p.ts (Ps.moreP rs.length i).pos).val Ps.zR).w) (nmT ((Ps.costP p.ts (Ps.moreP rs.length i).pos).val Ps.zR).w) (Tm.cellsL (Ps.arT ((Ps.costP p.ts (Ps.moreP rs.length i).pos).val Ps.zR).w)) (kT ((Ps.costP p.ts (Ps.moreP rs.length i).pos).val Ps.zR).lv:Nat) (nT ((Ps.costP p.ts (Ps.moreP rs.length i).pos).val Ps.zR).lv) (nmT ((Ps.costP p.ts (Ps.moreP rs.length i).pos).val Ps.zR).lv) (Tm.cellsL (Ps.arT ((Ps.costP p.ts (Ps.moreP rs.length i).pos).val Ps.zR).lv)) (Tm.cellsL ((Ps.costP p.ts (Ps.moreP rs.length i).pos).val Ps.zR).t) (Ps.costP p.ts (Ps.moreP rs.length i).pos).pos (flt (Ps.costP p.ts (Ps.moreP rs.length i).pos)) (Ps.whenP p.ts (Ps.costP p.ts (Ps.moreP rs.length i).pos).pos).isOk (ltL ((Ps.whenP p.ts (Ps.costP p.ts (Ps.moreP rs.length i).pos).pos).val [])) (Ps.whenP p.ts (Ps.costP p.ts (Ps.moreP rs.length i).pos).pos).pos (flt (Ps.whenP p.ts (Ps.costP p.ts (Ps.moreP rs.length i).pos).pos)) (ruL rs) (coL a.c) (shL a.s)) ?_
 unfold Zi1 Ps.miniGo
 simp only[SS,Z0o]
 refine psX () (Zk (Z7O (p.acc { a with r:=rs }) i rs.length)) (fun _ j h1=> ?_) fun b e h1=> ?_
 ·have hlt:=Ps.more_lt h1
  simp only[h1,Ps.PR.bind,Ps.PR.pos,Ps.PR.val]
  refine psX Ps.zR (Zgy (p.acc { a with r:=rs }) j).1 (fun r k h2=> ?_) fun b e h2=> ?_
  ·change Ps.costP p.ts _=_ at h2
   have hs:=Z2n p.ts j
   rw[h2] at hs
   have hs: ∀ b,{ r with b:=b }=coR r b:=hs
   simp only[h2,Ps.PR.bind,Ps.PR.pos,Ps.PR.val,hs]
   refine psX [] (Z7L (p.acc { a with r:=rs }) k).1 (fun l m h3=> ?_) fun b e h3=> ?_
   ·change Ps.whenP p.ts _=_ at h3
    have hv:=Ps.v_when p.hv k
    rw[h3] at hv
    have hll:l.length<=64:=hv.2
    simp only[h3,Ps.PR.bind,Ps.PR.pos,Ps.PR.val]
    have:=ZiS p a n rs (by omega) r l (by omega) m (hB _ _ (by simp; omega) (by simp; omega))
    simp only[Z86]
    exact this
   ·change Ps.whenP p.ts _=_ at h3
    simp only[h3,Q4,Ps.PR.bind]; exact rfl
  ·change Ps.costP p.ts _=_ at h2
   simp only[h2,Q4,Ps.PR.bind]; exact rfl
 ·simp only[h1,Q4,Ps.PR.bind]; exact rfl
theorem qMiB (p:PS) (a:Ac): ∀ (n:Nat) (rs:List Ru) (i:Nat),rs.length<=400->401<=n+rs.length->At Tryz.prog 10 (cut sc57 0) (Z31 p.ts i a.so (ruL rs) (coL a.c) (shL a.s)) (FM p (Q4 p.ts a (Ps.miniGo p.ts n rs i)))
 | 0,rs,i,h,hn=>by omega
 | n+1,rs,i,h,hn=>ZiT p a n rs i (qMiB p a n) hn
theorem ZiO (p:PS) (a:Ac) (i:Nat):CF 57 [.ptr 0 0] ((p.acc a).o i) (RSa p (Ps.minimizeP p.ts a i)):=by
 refine Z0Z (x:=10) (y:=2) (z:=3) (by decide) (by decide) (by decide) (by decide) (by decide) (by decide) ?_
 refine CallL.tree Z5 fp57 (Zi Z1 fun _=>(Z2 (Z0 _ _ _ _) (Z0 _ _ _ _))) (Zbf p.ts i a.so  (Ps.mustP p.ts Ps.miniS i).isOk  (Ps.mustP p.ts Ps.miniS i).pos (flt (Ps.mustP p.ts Ps.miniS i)) (Ps.mustP p.ts [123] (Ps.mustP p.ts Ps.miniS i).pos).isOk  (Ps.mustP p.ts [123] (Ps.mustP p.ts Ps.miniS i).pos).pos (flt (Ps.mustP p.ts [123] (Ps.mustP p.ts Ps.miniS i).pos)) (ruL a.r) (coL a.c) (shL a.s)) ?_
 unfold ZhZ Ps.minimizeP
 simp only[SS]
 refine psX () (Zk (ZE (p.acc a) i Ps.miniS)) (fun _ j h1=> ?_) fun b e h1=> ?_
 ·change Ps.mustP p.ts _ _=_ at h1
  simp only[h1,Ps.PR.bind,Ps.PR.pos,Ps.PR.val]
  refine psX () (Zk (ZE (p.acc a) j [123])) (fun _ k h2=> ?_) fun b e h2=> ?_
  ·change Ps.mustP p.ts _ _=_ at h2
   simp only[h2,Ps.PR.bind,Ps.PR.pos,Ps.PR.val]
   exact ZiU p a 400 a.r k (qMiB p a 400) (by omega)
  ·change Ps.mustP p.ts _ _=_ at h2
   simp only[h2]; exact rfl
 ·change Ps.mustP p.ts _ _=_ at h1
  simp only[h1,Ps.PR.bind]; exact rfl
end Go.Proofs.YtecgehidegnmnaaGreatDoor
