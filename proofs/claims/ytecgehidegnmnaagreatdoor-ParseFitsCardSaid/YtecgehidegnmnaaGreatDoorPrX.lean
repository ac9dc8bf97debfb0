/- The parser: minimize. -/
import Derived.Test.YtecgehidegnmnaaGreatDoorPrS
set_option linter.all false
set_option maxRecDepth 100000
open Go.Sx.Ps (PR ZT Zr Z7 z0 Z1 zR VP Z0 QG Ze Q7 Z0D Z3t Qp Z3m)
namespace Go.Proofs.YtecgehidegnmnaaGreatDoor
open Go.Sx
open Go.Sx.Lx (Tk Zo)
open Go.Sx.Ps (kT nmT W Sm Ac)
abbrev coE (r:Ru):D:=.agg [.int .u8 3,.nils,.int .u8 0,.int .i64 0,.str [],.nils,.int .u8 0,.int .i64 0,.str [],.nils,.nils,.int .u8 (kT r.w:Nat),.int .i64 (nT r.w),.str (nmT r.w),.slice (Tm.cellsL (Ps.arT r.w)) [],.int .u8 (kT r.lv:Nat),.int .i64 (nT r.lv),.str (nmT r.lv),.slice (Tm.cellsL (Ps.arT r.lv)) [],.slice (Tm.cellsL r.t) []]
def tuD:List Tm->D
 |[]=>.nils
 |x::l=>.slice (Tm.cellsL (x::l)) []
theorem Z4y {l:List Tm} (h:l≠[]):tuD l=.slice (Tm.cellsL l) []:=by
 cases l with
 |nil=>exact absurd rfl h
 |cons x l=>rfl
abbrev coN (r:Ru):D:=.agg [.int .u8 3,.nils,.int .u8 0,.int .i64 0,.str [],.nils,.int .u8 0,.int .i64 0,.str [],.nils,.nils,.int .u8 (kT r.w:Nat),.int .i64 (nT r.w),.str (nmT r.w),.slice (Tm.cellsL (Ps.arT r.w)) [],.int .u8 (kT r.lv:Nat),.int .i64 (nT r.lv),.str (nmT r.lv),.slice (Tm.cellsL (Ps.arT r.lv)) [],tuD r.t]
theorem Zag {p:PS} {x:PR Ru} {d:D} {ys:List D} {ob:Obs} (h:CallL Tryz.prog d ys ob (RS p.o coN x)):CallL Tryz.prog d ys ob (RS p.o coE x):=by
 cases x with
 |bad a e=>exact h
 |ok r j =>
  change CallL _ _ _ _ (λr0 ob0=>r0=coN r/\ob0=p.o j) at h;show CallL _ _ _ _ (λr0 ob0=>r0=coE r/\ob0=p.o j);unfold coN at h;by_cases b:r.t=[]
  ·rw[b] at h
   have:=CallL.unN (j:=19) rfl h;unfold coE;rw[b];exact this
  ·rw[Z4y b] at h;exact h
theorem Z6s (p:PS) {i j:Nat} {l:List Tm} (h:ZT p.ts i=.ok l j):l≠[]:=by
 have:=Ps.Z5h p.hv i;rw[h] at this;exact this.2
theorem Zih (p:PS) (i:Nat):Mth 99 (p.o i) (RS p.o coE (Zr p.ts i)):=by
 refine (λh:Mth 99 (p.o i) (RS p.o coN (Zr p.ts i))=>⟨Zag h.1,Zag h.2⟩) ?_;refine Mth.rs (Mth.tree Zlb (ZE Z3 λ_=>(Z4 (Z2 _ _ _ _) (Z4 (Zh _ _) (Z4 (Z2 _ _ _ _) (Z4 (Zh _ _) (Z2 _ _ _ _)))))) (ZcJ p.ts i p.so  (Z7 p.ts i).isOk (kT ((Z7 p.ts i).val z0):Nat) (nT ((Z7 p.ts i).val z0)) (nmT ((Z7 p.ts i).val z0)) (Tm.cellsL (Ps.arT ((Z7 p.ts i).val z0))) (Z7 p.ts i).pos (flt (Z7 p.ts i)) (Z1 p.ts ((Z7 p.ts i).pos) [[64]]) ((if Z1 p.ts ((Z7 p.ts i).pos) [[64]]=true then (Z7 p.ts i).pos+1 else (Z7 p.ts i).pos:Nat):Int) (Z7 p.ts ((Z7 p.ts i).pos+1)).isOk (kT ((Z7 p.ts ((Z7 p.ts i).pos+1)).val z0):Nat) (nT ((Z7 p.ts ((Z7 p.ts i).pos+1)).val z0)) (nmT ((Z7 p.ts ((Z7 p.ts i).pos+1)).val z0)) (Tm.cellsL (Ps.arT ((Z7 p.ts ((Z7 p.ts i).pos+1)).val z0))) (Z7 p.ts ((Z7 p.ts i).pos+1)).pos (flt (Z7 p.ts ((Z7 p.ts i).pos+1))) (Z1 p.ts ((if Z1 p.ts (Z7 p.ts i).pos [[64]]=true then (Z7 p.ts ((Z7 p.ts i).pos+1)).pos else (Z7 p.ts i).pos)) [[44]]) ((if Z1 p.ts ((if Z1 p.ts (Z7 p.ts i).pos [[64]]=true then (Z7 p.ts ((Z7 p.ts i).pos+1)).pos else (Z7 p.ts i).pos)) [[44]]=true then (if Z1 p.ts (Z7 p.ts i).pos [[64]]=true then (Z7 p.ts ((Z7 p.ts i).pos+1)).pos else (Z7 p.ts i).pos)+1 else (if Z1 p.ts (Z7 p.ts i).pos [[64]]=true then (Z7 p.ts ((Z7 p.ts i).pos+1)).pos else (Z7 p.ts i).pos):Nat):Int) (ZT p.ts ((if Z1 p.ts (Z7 p.ts i).pos [[64]]=true then (Z7 p.ts ((Z7 p.ts i).pos+1)).pos else (Z7 p.ts i).pos)+1)).isOk (Tm.cellsL ((ZT p.ts ((if Z1 p.ts (Z7 p.ts i).pos [[64]]=true then (Z7 p.ts ((Z7 p.ts i).pos+1)).pos else (Z7 p.ts i).pos)+1)).val [])) (ZT p.ts ((if Z1 p.ts (Z7 p.ts i).pos [[64]]=true then (Z7 p.ts ((Z7 p.ts i).pos+1)).pos else (Z7 p.ts i).pos)+1)).pos (flt (ZT p.ts ((if Z1 p.ts (Z7 p.ts i).pos [[64]]=true then (Z7 p.ts ((Z7 p.ts i).pos+1)).pos else (Z7 p.ts i).pos)+1))) p.r1 p.r2 p.r3) ?_);unfold Zk9 Zr;simp only[SS];refine psX z0 (Z3k p i).1 (λw j h1=>?_) λa e h1=>?_
 ·simp only[h1,PR.bind,PR.pos,PR.val];refine⟨ZY p j [[64]] [] (by simp),λh2=>?_,λh2=>?_⟩
  ·simp only[h2,if_true];refine psX z0 (Z3k p (j+1)).1 (λlv k d=>?_) λa e d=>?_
   ·simp only[d,PR.bind,PR.pos,PR.val];refine⟨ZY p k [[44]] [] (by simp),λc=>?_,λc=>?_⟩
    ·simp only[c,if_true];refine psX [] (qTup p (k+1)).1 (λf m b=>?_) λa e b=>?_
     ·simp only[b,PR.pos,PR.val];exact⟨by first|(simp only[coN,Z4y (Z6s p b)];done)|(simp only[coN,Z4y (Z6s p b)];rfl),rfl⟩
     ·simp only[b];exact rfl
    ·simp only[c,Bool.false_eq_true,if_false];exact⟨rfl,rfl⟩
   ·simp only[d,PR.bind];exact rfl
  ·simp only[h2,Bool.false_eq_true,if_false];refine⟨ZY p j [[44]] [] (by simp),λc=>?_,λc=>?_⟩
   ·simp only[c,if_true];refine psX [] (qTup p (j+1)).1 (λf m b=>?_) λa e b=>?_
    ·simp only[b,PR.pos,PR.val];exact⟨by first|(simp only[coN,Z4y (Z6s p b)];done)|(simp only[coN,Z4y (Z6s p b)];rfl),rfl⟩
    ·simp only[b];exact rfl
   ·simp only[c,Bool.false_eq_true,if_false];exact⟨rfl,rfl⟩
 ·simp only[h1,PR.bind];exact rfl
def toBo (x:Lt):Bo:=⟨1,x,[],false,0,[],0,z0⟩
def coR (r:Ru) (b:List Bo):Ru:={zR with k:=3,w:=r.w,lv:=r.lv,t:=r.t,b:=b}
theorem Z3I (ts:List Tk) (i:Nat):VP (λr=>∀ b,{r with b:=b}=coR r b) (Zr ts i):=by
 unfold Zr;exact (VP.any _).bind λw j _ _=>(VP.any _).bind λlv k _ _=>(VP.any _).bind λa m _ _=>λb=>rfl
theorem Z73 (r:Ru) (b:List Bo):Ru.cs (coR r b)=[.int .u8 3,.slice [] [],.int .u8 0,.int .i64 0,.str [],.slice [] [],.int .u8 0,.int .i64 0,.str [],.slice [] [],.slice (boL b) [],.int .u8 (kT r.w:Nat),.int .i64 (nT r.w),.str (nmT r.w),.slice (Tm.cellsL (Ps.arT r.w)) [],.int .u8 (kT r.lv:Nat),.int .i64 (nT r.lv),.str (nmT r.lv),.slice (Tm.cellsL (Ps.arT r.lv)) [],.slice (Tm.cellsL r.t) []]:=(D.agg.inj (Zdi (coR r b))).symm
def QY (ts:List Tk) (a:Ac) (x:PR (List Ru)):PR Ac:=x.bind λrs m=>(Z0 ts [125] m).bind λ_ o=>(Z0 ts [46] o).bind λ_ q=>.ok {a with r:=rs} q
def Z2k (ts:List Tk) (a:Ac) (n:Nat) (rs:List Ru) (i:Nat):PR Ac:=QY ts a (if Z1 ts i [[59]]=true then QG ts n rs (i+1) else .ok rs i)
abbrev FM (p:PS) (q:PR Ac):Exit->St->Prop:=FinQ false 10 rs57 (RN 10 2 3 p q)
theorem ZkS (p:PS) (a:Ac) (n:Nat) (rs:List Ru) (B:rs.length<1000) (r:Ru) (l:List Lt) (A:l.length<=1000) (i:Nat) (y:At Tryz.prog 10 (cut sc57 0) (Z4i p.ts ((i+1:Nat):Int) a.so (ruL (rs++[coR r (l.map toBo)])) (coL a.c) (shL a.s)) (FM p (QY p.ts a (QG p.ts n (rs++[coR r (l.map toBo)]) (i+1))))) :
  ∀ (m k:Nat),l.length-k=m->k<=l.length->At Tryz.prog 10 (cut sc57 1) (Z4Y (ltL l) l.length k (Zir p.ts i a.so (ruL rs) (coL a.c) (shL a.s) (boL ((l.take k).map toBo)) (coC (.vec 11) (tC (kT r.w:Nat) (nT r.w) (nmT r.w) (Tm.cellsL (Ps.arT r.w))) (tC (kT r.lv:Nat) (nT r.lv) (nmT r.lv) (Tm.cellsL (Ps.arT r.lv))) (Tm.cellsL r.t)))) (FM p (Z2k p.ts a n (rs++[coR r (l.map toBo)]) i)):=by
 intro m;induction m with
 |zero =>
  intro k hm z;have j:k=l.length:=by omega
  subst j;refine At.tree (Z2f Z3 λ_=>(Z4 (Zh _ _) (Z4 (Z2 _ _ _ _) (Z2 _ _ _ _)))) (Z7e p.ts i a.so (ruL (rs++[coR r (l.map toBo)])) (ltL l) (boL ((l.take l.length).map toBo)) l.length l.length 0 false [] [] 0 0 0 [] [] 0 0 [] [] (kT r.w:Nat) (nT r.w) (nmT r.w) (Tm.cellsL (Ps.arT r.w)) (kT r.lv:Nat) (nT r.lv) (nmT r.lv) (Tm.cellsL (Ps.arT r.lv)) (Tm.cellsL r.t) (Z1 p.ts (i) [[59]]) ((if Z1 p.ts (i) [[59]]=true then i+1 else i:Nat):Int) (Z0 p.ts [125] i).isOk  (Z0 p.ts [125] i).pos (flt (Z0 p.ts [125] i)) (Z0 p.ts [46] (Z0 p.ts [125] i).pos).isOk  (Z0 p.ts [46] (Z0 p.ts [125] i).pos).pos (flt (Z0 p.ts [46] (Z0 p.ts [125] i).pos)) (ruL rs) (coL a.c) (shL a.s)) ?_;unfold ZgM Z2k;rw[List.take_length];have e:ruL rs++[Ru.cs (coR r (l.map toBo))]=ruL (rs++[coR r (l.map toBo)]):=by simp[ruL]
  rw[Z73] at e;simp only[SS,Z0k];refine⟨λh=>by omega,λ_=>⟨⟨by simp[Zk],by omega⟩,?_⟩⟩;rw[e];refine⟨ZY (p.acc {a with r:=rs++[coR r (l.map toBo)]}) i [[59]] [] (by simp),λh2=>?_,λh2=>?_⟩
  ·simp only[h2,Bool.false_eq_true,if_false];refine psX () (ZG (Qe (p.acc {a with r:=rs++[coR r (l.map toBo)]}) i [125])) (λ_ o c=>?_) λb e c=>?_
   ·change Z0 p.ts _ _=_ at c;simp only[c,QY,PR.bind,PR.pos,PR.val];refine psX () (ZG (Qe (p.acc {a with r:=rs++[coR r (l.map toBo)]}) o [46])) (λ_ q d=>?_) λb e d=>?_
    ·change Z0 p.ts _ _=_ at d;simp only[d,PR.pos];exact⟨rfl,rfl⟩
    ·change Z0 p.ts _ _=_ at d;simp only[d];exact rfl
   ·change Z0 p.ts _ _=_ at c;simp only[c,QY,PR.bind];exact rfl
  ·simp only[h2,if_true];exact y
 |succ m D =>
  intro k hm z;have h1:k<l.length:=by omega
  have hx:=Z4f h1;have C:(l.take (k+1)).map toBo=(l.take k).map toBo++[toBo l[k]]:=by
   rw[List.take_add_one,List.getElem?_eq_getElem h1,List.map_append];rfl
  have g:=D (k+1) (by omega) (by omega);rw[C] at g;have f:(boL ((l.take k).map toBo)).length=k:=by simp[boL];omega
  have w:boL ((l.take k).map toBo++[toBo l[k]])=boL ((l.take k).map toBo)++[Bo.cs (toBo l[k])]:=by simp[boL]
  rw[w] at g;generalize J:l[k]=x at hx g;obtain⟨lk,s,F,E,t,⟨k1,G,s1,u⟩,⟨k2,H,I,v⟩⟩:=x;refine At.tree (Z2f Z3 λ_=>(Z4 (Zh _ _) (Z4 (Z2 _ _ _ _) (Z2 _ _ _ _)))) (Z7e p.ts i a.so [] (ltL l) (boL ((l.take k).map toBo)) l.length k lk s F (Tm.cellsL E) t k1 G s1 (Tm.cellsL u) k2 H I (Tm.cellsL v) (kT r.w:Nat) (nT r.w) (nmT r.w) (Tm.cellsL (Ps.arT r.w)) (kT r.lv:Nat) (nT r.lv) (nmT r.lv) (Tm.cellsL (Ps.arT r.lv)) (Tm.cellsL r.t) (Z1 p.ts (0) []) ((if Z1 p.ts (0) []=true then 0+1 else 0:Nat):Int) (PR.ok () 0).isOk  (PR.ok () 0).pos (flt (PR.ok () 0)) (PR.ok () 0).isOk  (PR.ok () 0).pos (flt (PR.ok () 0)) (ruL rs) (coL a.c) (shL a.s)) ?_;unfold ZgM;simp only[SS,f];exact⟨λ_=>⟨⟨by omega,hx⟩,⟨by simp[Zk],by omega⟩,by omega,g⟩,λh=>by omega⟩
theorem ZkU (p:PS) (a:Ac) (n:Nat) (rs:List Ru) (k:rs.length<1000) (r:Ru) (l:List Lt) (j:l.length<=1000) (i:Nat) (g:At Tryz.prog 10 (cut sc57 0) (Z4i p.ts ((i+1:Nat):Int) a.so (ruL (rs++[coR r (l.map toBo)])) (coL a.c) (shL a.s)) (FM p (QY p.ts a (QG p.ts n (rs++[coR r (l.map toBo)]) (i+1))))) :
  At Tryz.prog 10 (cut sc57 1) (Z4Y (ltL l) l.length (0:Nat) (obM1 p.ts i a.so (ruL rs) (coL a.c) (shL a.s) (coC .nils (tC (kT r.w:Nat) (nT r.w) (nmT r.w) (Tm.cellsL (Ps.arT r.w))) (tC (kT r.lv:Nat) (nT r.lv) (nmT r.lv) (Tm.cellsL (Ps.arT r.lv))) (Tm.cellsL r.t)))) (FM p (Z2k p.ts a n (rs++[coR r (l.map toBo)]) i)):=by
 cases l with
 |nil =>
  refine At.tree (Z2f Z3 λ_=>(Z4 (Zh _ _) (Z4 (Z2 _ _ _ _) (Z2 _ _ _ _)))) (Z7g p.ts i a.so (ruL (rs++[coR r []])) [] (0:Nat) (0:Nat) 0 false [] [] 0 0 0 [] [] 0 0 [] [] (kT r.w:Nat) (nT r.w) (nmT r.w) (Tm.cellsL (Ps.arT r.w)) (kT r.lv:Nat) (nT r.lv) (nmT r.lv) (Tm.cellsL (Ps.arT r.lv)) (Tm.cellsL r.t) (Z1 p.ts (i) [[59]]) ((if Z1 p.ts (i) [[59]]=true then i+1 else i:Nat):Int) (Z0 p.ts [125] i).isOk  (Z0 p.ts [125] i).pos (flt (Z0 p.ts [125] i)) (Z0 p.ts [46] (Z0 p.ts [125] i).pos).isOk  (Z0 p.ts [46] (Z0 p.ts [125] i).pos).pos (flt (Z0 p.ts [46] (Z0 p.ts [125] i).pos)) (ruL rs) (coL a.c) (shL a.s)) ?_;unfold ZgO Z2k;have e:ruL rs++[Ru.cs (coR r [])]=ruL (rs++[coR r []]):=by simp[ruL]
  rw[Z73] at e;simp only[boL,List.map_nil] at e g ⊢;simp only[SS,Z0k];refine⟨λh=>by omega,λ_=>⟨⟨by simp[Zk],by omega⟩,?_⟩⟩;rw[e];refine⟨ZY (p.acc {a with r:=rs++[coR r []]}) i [[59]] [] (by simp),λh2=>?_,λh2=>?_⟩
  ·simp only[h2,Bool.false_eq_true,if_false];refine psX () (ZG (Qe (p.acc {a with r:=rs++[coR r []]}) i [125])) (λ_ o c=>?_) λb e c=>?_
   ·change Z0 p.ts _ _=_ at c;simp only[c,QY,PR.bind,PR.pos,PR.val];refine psX () (ZG (Qe (p.acc {a with r:=rs++[coR r []]}) o [46])) (λ_ q d=>?_) λb e d=>?_
    ·change Z0 p.ts _ _=_ at d;simp only[d,PR.pos];exact⟨rfl,rfl⟩
    ·change Z0 p.ts _ _=_ at d;simp only[d];exact rfl
   ·change Z0 p.ts _ _=_ at c;simp only[c,QY,PR.bind];exact rfl
  ·simp only[h2,if_true];exact g
 |cons x t =>
  have f:=ZkS p a n rs k r (x::t) j i g _ 1 rfl (by simp);have y:boL (((x::t).take 1).map toBo)=[Bo.cs (toBo x)]:=by simp[boL]
  rw[y] at f;have hx:(ltL (x::t))[0]? = some x.c:=rfl;generalize z:x::t=l at f hx ⊢;obtain⟨lk,m,B,A,s,⟨k1,C,s1,v⟩,⟨k2,D,E,w⟩⟩:=x;have u:0<l.length:=by rw[<- z];simp
  refine At.tree (Z2f Z3 λ_=>(Z4 (Zh _ _) (Z4 (Z2 _ _ _ _) (Z2 _ _ _ _)))) (Z7g p.ts i a.so [] (ltL l) l.length (0:Nat) lk m B (Tm.cellsL A) s k1 C s1 (Tm.cellsL v) k2 D E (Tm.cellsL w) (kT r.w:Nat) (nT r.w) (nmT r.w) (Tm.cellsL (Ps.arT r.w)) (kT r.lv:Nat) (nT r.lv) (nmT r.lv) (Tm.cellsL (Ps.arT r.lv)) (Tm.cellsL r.t) (Z1 p.ts (0) []) ((if Z1 p.ts (0) []=true then 0+1 else 0:Nat):Int) (PR.ok () 0).isOk  (PR.ok () 0).pos (flt (PR.ok () 0)) (PR.ok () 0).isOk  (PR.ok () 0).pos (flt (PR.ok () 0)) (ruL rs) (coL a.c) (shL a.s)) ?_;unfold ZgO;simp only[SS];exact⟨λ_=>⟨⟨by omega,hx⟩,⟨by simp[Zk],by omega⟩,by omega,f⟩,λh=>by omega⟩
theorem ZkR (p:PS) (a:Ac) (n:Nat) (rs:List Ru) (B:rs.length<1000) (r:Ru) (l:List Lt) (A:l.length<=1000) (i:Nat) (y:At Tryz.prog 10 (cut sc57 0) (Z4i p.ts ((i+1:Nat):Int) a.so (ruL (rs++[coR r (l.map toBo)])) (coL a.c) (shL a.s)) (FM p (QY p.ts a (QG p.ts n (rs++[coR r (l.map toBo)]) (i+1))))) :
  ∀ (m k:Nat),l.length-k=m->k<=l.length->At Tryz.prog 10 (cut sc57 1) (Z4Y (ltL l) l.length k (Ziq p.ts i a.so (ruL rs) (coL a.c) (shL a.s) (boL ((l.take k).map toBo)) (coC (.vec 12) (tC (kT r.w:Nat) (nT r.w) (nmT r.w) (Tm.cellsL (Ps.arT r.w))) (tC (kT r.lv:Nat) (nT r.lv) (nmT r.lv) (Tm.cellsL (Ps.arT r.lv))) (Tm.cellsL r.t)))) (FM p (Z2k p.ts a n (rs++[coR r (l.map toBo)]) i)):=by
 intro m;induction m with
 |zero =>
  intro k hm z;have j:k=l.length:=by omega
  subst j;refine At.tree (Z2f Z3 λ_=>(Z4 (Zh _ _) (Z4 (Z2 _ _ _ _) (Z2 _ _ _ _)))) (Z7d p.ts i a.so (ruL (rs++[coR r (l.map toBo)])) (ltL l) (boL ((l.take l.length).map toBo)) l.length l.length 0 false [] [] 0 0 0 [] [] 0 0 [] [] (kT r.w:Nat) (nT r.w) (nmT r.w) (Tm.cellsL (Ps.arT r.w)) (kT r.lv:Nat) (nT r.lv) (nmT r.lv) (Tm.cellsL (Ps.arT r.lv)) (Tm.cellsL r.t) (Z1 p.ts (i) [[59]]) ((if Z1 p.ts (i) [[59]]=true then i+1 else i:Nat):Int) (Z0 p.ts [125] i).isOk  (Z0 p.ts [125] i).pos (flt (Z0 p.ts [125] i)) (Z0 p.ts [46] (Z0 p.ts [125] i).pos).isOk  (Z0 p.ts [46] (Z0 p.ts [125] i).pos).pos (flt (Z0 p.ts [46] (Z0 p.ts [125] i).pos)) (ruL rs) (coL a.c) (shL a.s)) ?_;unfold ZgL Z2k;rw[List.take_length];have e:ruL rs++[Ru.cs (coR r (l.map toBo))]=ruL (rs++[coR r (l.map toBo)]):=by simp[ruL]
  rw[Z73] at e;simp only[SS,Z0k];refine⟨λh=>by omega,λ_=>⟨⟨by simp[Zk],by omega⟩,?_⟩⟩;rw[e];refine⟨ZY (p.acc {a with r:=rs++[coR r (l.map toBo)]}) i [[59]] [] (by simp),λh2=>?_,λh2=>?_⟩
  ·simp only[h2,Bool.false_eq_true,if_false];refine psX () (ZG (Qe (p.acc {a with r:=rs++[coR r (l.map toBo)]}) i [125])) (λ_ o c=>?_) λb e c=>?_
   ·change Z0 p.ts _ _=_ at c;simp only[c,QY,PR.bind,PR.pos,PR.val];refine psX () (ZG (Qe (p.acc {a with r:=rs++[coR r (l.map toBo)]}) o [46])) (λ_ q d=>?_) λb e d=>?_
    ·change Z0 p.ts _ _=_ at d;simp only[d,PR.pos];exact⟨rfl,rfl⟩
    ·change Z0 p.ts _ _=_ at d;simp only[d];exact rfl
   ·change Z0 p.ts _ _=_ at c;simp only[c,QY,PR.bind];exact rfl
  ·simp only[h2,if_true];exact y
 |succ m D =>
  intro k hm z;have h1:k<l.length:=by omega
  have hx:=Z4f h1;have C:(l.take (k+1)).map toBo=(l.take k).map toBo++[toBo l[k]]:=by
   rw[List.take_add_one,List.getElem?_eq_getElem h1,List.map_append];rfl
  have g:=D (k+1) (by omega) (by omega);rw[C] at g;have f:(boL ((l.take k).map toBo)).length=k:=by simp[boL];omega
  have w:boL ((l.take k).map toBo++[toBo l[k]])=boL ((l.take k).map toBo)++[Bo.cs (toBo l[k])]:=by simp[boL]
  rw[w] at g;generalize J:l[k]=x at hx g;obtain⟨lk,s,F,E,t,⟨k1,G,s1,u⟩,⟨k2,H,I,v⟩⟩:=x;refine At.tree (Z2f Z3 λ_=>(Z4 (Zh _ _) (Z4 (Z2 _ _ _ _) (Z2 _ _ _ _)))) (Z7d p.ts i a.so [] (ltL l) (boL ((l.take k).map toBo)) l.length k lk s F (Tm.cellsL E) t k1 G s1 (Tm.cellsL u) k2 H I (Tm.cellsL v) (kT r.w:Nat) (nT r.w) (nmT r.w) (Tm.cellsL (Ps.arT r.w)) (kT r.lv:Nat) (nT r.lv) (nmT r.lv) (Tm.cellsL (Ps.arT r.lv)) (Tm.cellsL r.t) (Z1 p.ts (0) []) ((if Z1 p.ts (0) []=true then 0+1 else 0:Nat):Int) (PR.ok () 0).isOk  (PR.ok () 0).pos (flt (PR.ok () 0)) (PR.ok () 0).isOk  (PR.ok () 0).pos (flt (PR.ok () 0)) (ruL rs) (coL a.c) (shL a.s)) ?_;unfold ZgL;simp only[SS,f];exact⟨λ_=>⟨⟨by omega,hx⟩,⟨by simp[Zk],by omega⟩,by omega,g⟩,λh=>by omega⟩
theorem ZkT (p:PS) (a:Ac) (n:Nat) (rs:List Ru) (k:rs.length<1000) (r:Ru) (l:List Lt) (j:l.length<=1000) (i:Nat) (g:At Tryz.prog 10 (cut sc57 0) (Z4i p.ts ((i+1:Nat):Int) a.so (ruL (rs++[coR r (l.map toBo)])) (coL a.c) (shL a.s)) (FM p (QY p.ts a (QG p.ts n (rs++[coR r (l.map toBo)]) (i+1))))) :
  At Tryz.prog 10 (cut sc57 1) (Z4Y (ltL l) l.length (0:Nat) (obM2 p.ts i a.so (ruL rs) (coL a.c) (shL a.s) (coC .nils (tC (kT r.w:Nat) (nT r.w) (nmT r.w) (Tm.cellsL (Ps.arT r.w))) (tC (kT r.lv:Nat) (nT r.lv) (nmT r.lv) (Tm.cellsL (Ps.arT r.lv))) (Tm.cellsL r.t)))) (FM p (Z2k p.ts a n (rs++[coR r (l.map toBo)]) i)):=by
 cases l with
 |nil =>
  refine At.tree (Z2f Z3 λ_=>(Z4 (Zh _ _) (Z4 (Z2 _ _ _ _) (Z2 _ _ _ _)))) (Z7f p.ts i a.so (ruL (rs++[coR r []])) [] (0:Nat) (0:Nat) 0 false [] [] 0 0 0 [] [] 0 0 [] [] (kT r.w:Nat) (nT r.w) (nmT r.w) (Tm.cellsL (Ps.arT r.w)) (kT r.lv:Nat) (nT r.lv) (nmT r.lv) (Tm.cellsL (Ps.arT r.lv)) (Tm.cellsL r.t) (Z1 p.ts (i) [[59]]) ((if Z1 p.ts (i) [[59]]=true then i+1 else i:Nat):Int) (Z0 p.ts [125] i).isOk  (Z0 p.ts [125] i).pos (flt (Z0 p.ts [125] i)) (Z0 p.ts [46] (Z0 p.ts [125] i).pos).isOk  (Z0 p.ts [46] (Z0 p.ts [125] i).pos).pos (flt (Z0 p.ts [46] (Z0 p.ts [125] i).pos)) (ruL rs) (coL a.c) (shL a.s)) ?_;unfold ZgN Z2k;have e:ruL rs++[Ru.cs (coR r [])]=ruL (rs++[coR r []]):=by simp[ruL]
  rw[Z73] at e;simp only[boL,List.map_nil] at e g ⊢;simp only[SS,Z0k];refine⟨λh=>by omega,λ_=>⟨⟨by simp[Zk],by omega⟩,?_⟩⟩;rw[e];refine⟨ZY (p.acc {a with r:=rs++[coR r []]}) i [[59]] [] (by simp),λh2=>?_,λh2=>?_⟩
  ·simp only[h2,Bool.false_eq_true,if_false];refine psX () (ZG (Qe (p.acc {a with r:=rs++[coR r []]}) i [125])) (λ_ o c=>?_) λb e c=>?_
   ·change Z0 p.ts _ _=_ at c;simp only[c,QY,PR.bind,PR.pos,PR.val];refine psX () (ZG (Qe (p.acc {a with r:=rs++[coR r []]}) o [46])) (λ_ q d=>?_) λb e d=>?_
    ·change Z0 p.ts _ _=_ at d;simp only[d,PR.pos];exact⟨rfl,rfl⟩
    ·change Z0 p.ts _ _=_ at d;simp only[d];exact rfl
   ·change Z0 p.ts _ _=_ at c;simp only[c,QY,PR.bind];exact rfl
  ·simp only[h2,if_true];exact g
 |cons x t =>
  have f:=ZkR p a n rs k r (x::t) j i g _ 1 rfl (by simp);have y:boL (((x::t).take 1).map toBo)=[Bo.cs (toBo x)]:=by simp[boL]
  rw[y] at f;have hx:(ltL (x::t))[0]? = some x.c:=rfl;generalize z:x::t=l at f hx ⊢;obtain⟨lk,m,B,A,s,⟨k1,C,s1,v⟩,⟨k2,D,E,w⟩⟩:=x;have u:0<l.length:=by rw[<- z];simp
  refine At.tree (Z2f Z3 λ_=>(Z4 (Zh _ _) (Z4 (Z2 _ _ _ _) (Z2 _ _ _ _)))) (Z7f p.ts i a.so [] (ltL l) l.length (0:Nat) lk m B (Tm.cellsL A) s k1 C s1 (Tm.cellsL v) k2 D E (Tm.cellsL w) (kT r.w:Nat) (nT r.w) (nmT r.w) (Tm.cellsL (Ps.arT r.w)) (kT r.lv:Nat) (nT r.lv) (nmT r.lv) (Tm.cellsL (Ps.arT r.lv)) (Tm.cellsL r.t) (Z1 p.ts (0) []) ((if Z1 p.ts (0) []=true then 0+1 else 0:Nat):Int) (PR.ok () 0).isOk  (PR.ok () 0).pos (flt (PR.ok () 0)) (PR.ok () 0).isOk  (PR.ok () 0).pos (flt (PR.ok () 0)) (ruL rs) (coL a.c) (shL a.s)) ?_;unfold ZgN;simp only[SS];exact⟨λ_=>⟨⟨by omega,hx⟩,⟨by simp[Zk],by omega⟩,by omega,f⟩,λh=>by omega⟩
theorem ZkV (p:PS) (a:Ac) (n:Nat) (rs:List Ru) (i:Nat) (d: ∀ (rs:List Ru) (i:Nat),rs.length<=400->401<=n+rs.length->At Tryz.prog 10 (cut sc57 0) (Z4i p.ts i a.so (ruL rs) (coL a.c) (shL a.s)) (FM p (QY p.ts a (QG p.ts n rs i)))) (h:401<=n+1+rs.length) :
  At Tryz.prog 10 (cut sc57 0) (Z4i p.ts i a.so (ruL rs) (coL a.c) (shL a.s)) (FM p (QY p.ts a (QG p.ts (n+1) rs i))):=by
 refine At.tree (ZE Z3 λ_=>(Z4 (Z2 _ _ _ _) (Z4 (Z2 _ _ _ _) (Z2 _ _ _ _)))) (ZcB p.ts i a.so  (Ze rs.length i).isOk  (Ze rs.length i).pos (flt (Ze rs.length i)) (Zr p.ts (Ze rs.length i).pos).isOk (kT ((Zr p.ts (Ze rs.length i).pos).val zR).w:Nat) (nT ((Zr p.ts (Ze rs.length i).pos).val zR).w) (nmT ((Zr p.ts (Ze rs.length i).pos).val zR).w) (Tm.cellsL (Ps.arT ((Zr p.ts (Ze rs.length i).pos).val zR).w)) (kT ((Zr p.ts (Ze rs.length i).pos).val zR).lv:Nat) (nT ((Zr p.ts (Ze rs.length i).pos).val zR).lv) (nmT ((Zr p.ts (Ze rs.length i).pos).val zR).lv) (Tm.cellsL (Ps.arT ((Zr p.ts (Ze rs.length i).pos).val zR).lv)) (Tm.cellsL ((Zr p.ts (Ze rs.length i).pos).val zR).t) (Zr p.ts (Ze rs.length i).pos).pos (flt (Zr p.ts (Ze rs.length i).pos)) (Q7 p.ts (Zr p.ts (Ze rs.length i).pos).pos).isOk (ltL ((Q7 p.ts (Zr p.ts (Ze rs.length i).pos).pos).val [])) (Q7 p.ts (Zr p.ts (Ze rs.length i).pos).pos).pos (flt (Q7 p.ts (Zr p.ts (Ze rs.length i).pos).pos)) (ruL rs) (coL a.c) (shL a.s)) ?_;unfold ZjX QG;simp only[SS,Z0k];refine psX () (ZG (Z9a (p.acc {a with r:=rs}) i rs.length)) (λ_ j h1=>?_) λb e h1=>?_
 ·have g:=Z0D h1;simp only[h1,PR.bind,PR.pos,PR.val];refine psX zR (Zih (p.acc {a with r:=rs}) j).1 (λr k h2=>?_) λb e h2=>?_
  ·change Zr p.ts _=_ at h2;have hs:=Z3I p.ts j;rw[h2] at hs;have hs: ∀ b,{r with b:=b}=coR r b:=hs;simp only[h2,PR.bind,PR.pos,PR.val,hs];refine psX [] (Z97 (p.acc {a with r:=rs}) k).1 (λl m c=>?_) λb e c=>?_
   ·change Q7 p.ts _=_ at c;have hv:=Z3t p.hv k;rw[c] at hv;have f:l.length<=64:=hv.2;simp only[c,PR.bind,PR.pos,PR.val]
    have:=ZkT p a n rs (by omega) r l (by omega) m (d _ _ (by simp;omega) (by simp;omega));simp only[Z11];exact this
   ·change Q7 p.ts _=_ at c;simp only[c,QY,PR.bind];exact rfl
  ·change Zr p.ts _=_ at h2;simp only[h2,QY,PR.bind];exact rfl
 ·simp only[h1,QY,PR.bind];exact rfl
theorem ZkW (p:PS) (a:Ac) (n:Nat) (rs:List Ru) (i:Nat) (d: ∀ (rs:List Ru) (i:Nat),rs.length<=400->401<=n+rs.length->At Tryz.prog 10 (cut sc57 0) (Z4i p.ts i a.so (ruL rs) (coL a.c) (shL a.s)) (FM p (QY p.ts a (QG p.ts n rs i)))) (h:401<=n+1+rs.length) :
  At Tryz.prog 10 (cut sc57 0) (ZiE p.ts i a.so (ruL rs) (coL a.c) (shL a.s)) (FM p (QY p.ts a (QG p.ts (n+1) rs i))):=by
 refine At.tree (ZE Z3 λ_=>(Z4 (Z2 _ _ _ _) (Z4 (Z2 _ _ _ _) (Z2 _ _ _ _)))) (ZcC p.ts i a.so  (Ze rs.length i).isOk  (Ze rs.length i).pos (flt (Ze rs.length i)) (Zr p.ts (Ze rs.length i).pos).isOk (kT ((Zr p.ts (Ze rs.length i).pos).val zR).w:Nat) (nT ((Zr p.ts (Ze rs.length i).pos).val zR).w) (nmT ((Zr p.ts (Ze rs.length i).pos).val zR).w) (Tm.cellsL (Ps.arT ((Zr p.ts (Ze rs.length i).pos).val zR).w)) (kT ((Zr p.ts (Ze rs.length i).pos).val zR).lv:Nat) (nT ((Zr p.ts (Ze rs.length i).pos).val zR).lv) (nmT ((Zr p.ts (Ze rs.length i).pos).val zR).lv) (Tm.cellsL (Ps.arT ((Zr p.ts (Ze rs.length i).pos).val zR).lv)) (Tm.cellsL ((Zr p.ts (Ze rs.length i).pos).val zR).t) (Zr p.ts (Ze rs.length i).pos).pos (flt (Zr p.ts (Ze rs.length i).pos)) (Q7 p.ts (Zr p.ts (Ze rs.length i).pos).pos).isOk (ltL ((Q7 p.ts (Zr p.ts (Ze rs.length i).pos).pos).val [])) (Q7 p.ts (Zr p.ts (Ze rs.length i).pos).pos).pos (flt (Q7 p.ts (Zr p.ts (Ze rs.length i).pos).pos)) (ruL rs) (coL a.c) (shL a.s)) ?_;unfold ZjY QG;simp only[SS,Z0k];refine psX () (ZG (Z9a (p.acc {a with r:=rs}) i rs.length)) (λ_ j h1=>?_) λb e h1=>?_
 ·have g:=Z0D h1;simp only[h1,PR.bind,PR.pos,PR.val];refine psX zR (Zih (p.acc {a with r:=rs}) j).1 (λr k h2=>?_) λb e h2=>?_
  ·change Zr p.ts _=_ at h2;have hs:=Z3I p.ts j;rw[h2] at hs;have hs: ∀ b,{r with b:=b}=coR r b:=hs;simp only[h2,PR.bind,PR.pos,PR.val,hs];refine psX [] (Z97 (p.acc {a with r:=rs}) k).1 (λl m c=>?_) λb e c=>?_
   ·change Q7 p.ts _=_ at c;have hv:=Z3t p.hv k;rw[c] at hv;have f:l.length<=64:=hv.2;simp only[c,PR.bind,PR.pos,PR.val]
    have:=ZkU p a n rs (by omega) r l (by omega) m (d _ _ (by simp;omega) (by simp;omega));simp only[Z11];exact this
   ·change Q7 p.ts _=_ at c;simp only[c,QY,PR.bind];exact rfl
  ·change Zr p.ts _=_ at h2;simp only[h2,QY,PR.bind];exact rfl
 ·simp only[h1,QY,PR.bind];exact rfl
theorem qMiB (p:PS) (a:Ac): ∀ (n:Nat) (rs:List Ru) (i:Nat),rs.length<=400->401<=n+rs.length->At Tryz.prog 10 (cut sc57 0) (Z4i p.ts i a.so (ruL rs) (coL a.c) (shL a.s)) (FM p (QY p.ts a (QG p.ts n rs i)))
 |0,rs,i,h,b=>by omega
 |n+1,rs,i,h,b=>ZkV p a n rs i (qMiB p a n) b
theorem ZkQ (p:PS) (a:Ac) (i:Nat):CF 57 [.ptr 0 0] ((p.acc a).o i) (RSa p (Qp p.ts a i)):=by
 refine Z2j (x:=10) (y:=2) (z:=3) (by decide) (by decide) (by decide) (by decide) (by decide) (by decide) ?_;refine CallL.tree Z5 fp57 (ZE Z3 λ_=>(Z4 (Z2 _ _ _ _) (Z2 _ _ _ _))) (ZcA p.ts i a.so  (Z0 p.ts Z3m i).isOk  (Z0 p.ts Z3m i).pos (flt (Z0 p.ts Z3m i)) (Z0 p.ts [123] (Z0 p.ts Z3m i).pos).isOk  (Z0 p.ts [123] (Z0 p.ts Z3m i).pos).pos (flt (Z0 p.ts [123] (Z0 p.ts Z3m i).pos)) (ruL a.r) (coL a.c) (shL a.s)) ?_;unfold ZjW Qp;simp only[SS];refine psX () (ZG (Qe (p.acc a) i Z3m)) (λ_ j h1=>?_) λb e h1=>?_
 ·change Z0 p.ts _ _=_ at h1;simp only[h1,PR.bind,PR.pos,PR.val];refine psX () (ZG (Qe (p.acc a) j [123])) (λ_ k h2=>?_) λb e h2=>?_
  ·change Z0 p.ts _ _=_ at h2;simp only[h2,PR.bind,PR.pos,PR.val];exact ZkW p a 400 a.r k (qMiB p a 400) (by omega)
  ·change Z0 p.ts _ _=_ at h2;simp only[h2];exact rfl
 ·change Z0 p.ts _ _=_ at h1;simp only[h1,PR.bind];exact rfl
end Go.Proofs.YtecgehidegnmnaaGreatDoor
