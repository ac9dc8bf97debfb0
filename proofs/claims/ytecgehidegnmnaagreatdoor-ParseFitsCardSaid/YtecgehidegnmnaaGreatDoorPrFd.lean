/- Own work: a layer over the kit: plain data,a walk over it,its soundness. -/
import Derived.Test.YtecgehidegnmnaaGreatDoorJoinT
set_option linter.all false
set_option maxRecDepth 100000
/- Fits: what is parsed is within the limits. -/
open Go.Sx.Ps (Z0A Zdn Qn)
namespace Go.Proofs.YtecgehidegnmnaaGreatDoor
open Go.Sx
open Go.Sx.Lx (Tk Zo)
open Go.Sx.Ps (BoV HeV RuV AcV ElV CdV LtF TV Vd aRu)
theorem Z6J (p:LU) (a:LD) (h:Lx.ZM p=true) (ha:a.length<=8):FK 19 [.agg [.str p,.slice a []]] (.bool true):=by
 have hp:=Z0A h;have b:=Z0T p (by omega);rw[h] at b;refine FnOK.tree Z5 fp19 (Z0y λ_=>QH _) (ZgJ p a true) ?_;simp only[SS];exact⟨b,by omega,nofun⟩
theorem Zls (l g:Int) (no:Bool) (p:LU) (a:LD) (o n y:Int) (z:LU) (u:LD) (q n6:Int) (A:LU) (v:LD) (bc:List Lt) (d:Bool) (k:Int) (b:List El) (f s n7:Int) (B:LU) (w:LD) (h: ∀ e∈b,ElV e) (hl:b.length<=64): ∀ (m i:Nat),b.length-i=m->i<=b.length →
  At Tryz.prog 0 (cut sc20 0) ⟨[(1,.ptr 0 0),(3,.int .i64 i)],[(0,.cells (xBo l g no p a o n y z u q n6 A v (ltL bc) d k (elL b) f s n7 B w))]⟩ (FinQ true 0 rs20 λr _=>r=.bool true):=by
 intro m;induction m with
 |zero =>
  intro i hm hi;refine At.tree (Z9 Z3 Z8) (Z7j l g no p a o n y z u q n6 A v (ltL bc) d k (elL b) f s n7 B w i [] []) ?_;simp only[SS,Z31];first|exact⟨λh=>by omega,λ_=>rfl⟩|exact⟨λh=>by omega,λ_=>trivial⟩|exact λh=>by omega
 |succ m G =>
  intro i hm hi;have h1:i<b.length:=by omega
  have j:=Za1 h1;have C:=h _ (List.getElem_mem h1);generalize b[i]=x at j C;obtain⟨t,c⟩:=x;obtain⟨D,E,F⟩:=C;simp only at D E F;have t1:=D.2;have t2:=List.length_pos_iff.2 E;have t3:=F.2;refine At.tree (Z9 Z3 Z8) (Z7j l g no p a o n y z u q n6 A v (ltL bc) d k (elL b) f s n7 B w i (Tm.cellsL t) (ltL c)) ?_;simp only[SS,Z31,QI,Z11];exact⟨λ_=>⟨⟨by omega,j⟩,λh=>by omega,λ_=>⟨⟨by omega,j⟩,λh=>by omega,λ_=>⟨⟨by omega,j⟩,λh=>by omega,λ_=>⟨by omega,G (i+1) (by omega) (by omega)⟩⟩⟩⟩,λh=>by omega⟩
theorem Z7W (b:Bo) (h:BoV b):FK 20 [.agg (Bo.cs b)] (.bool true):=by
 obtain⟨A,⟨f,no,p,a,o,⟨t,v,x,j⟩,⟨u,n6,y,k⟩⟩,bc,c,n,m,d,⟨i,n7,z,l⟩⟩:=b;obtain⟨_,_,hc,⟨q,e⟩,r⟩:=h;simp only at hc q e r;have D:=hc.2;refine FnOK.tree Z5 fp20 (Z0y λ_=>QH _) (ZgV A f no p (Tm.cellsL a) o t v x (Tm.cellsL j) u n6 y (Tm.cellsL k) (ltL bc) c n (elL m) d i n7 z (Tm.cellsL l) true) ?_;simp only[SS,Z11,Z31];rcases r with⟨rfl,f1,f2,o1,o2,o3,B,G,E⟩|⟨hf,rfl,hc⟩
 ·have s:=List.length_pos_iff.2 B;have F:i≠0:=E;exact⟨λ_=>⟨λh=>by omega,λ_=>⟨λh=>by omega,λ_=>⟨λh=>by omega,λ_=>⟨λh=>by omega,λ_=>⟨λh=>by omega,λ_=>⟨λh=>by omega,λ_=>⟨λh=>by omega,λ_=>⟨λh=>by omega,λ_=>Zls 3 f no p (Tm.cellsL a) o t v x (Tm.cellsL j) u n6 y (Tm.cellsL k) bc c n m d i n7 z (Tm.cellsL l) q e _ 0 rfl (Nat.zero_le _)⟩⟩⟩⟩⟩⟩⟩⟩,λh=>absurd rfl h⟩
 ·rcases hf with⟨g,hs,ha⟩|⟨g,w,o1,o2⟩
  ·simp only at g hs ha;subst g;have C:=Z6J p (Tm.cellsL a) hs (by rw[QI];exact ha);refine⟨λh=>by omega,λ_=>⟨λ_=>⟨C,?_,nofun⟩,λh=>absurd rfl h⟩⟩;rcases hc with⟨rfl,rfl⟩|⟨rfl,hc⟩
   ·simp
   ·have:=List.length_pos_iff.2 hc;refine⟨λ_=>⟨λh=>by omega,λ_=>⟨λ_=>⟨λ_=>by omega,λh=>by omega⟩,λh=>absurd rfl h⟩⟩,nofun⟩
  ·simp only at g w o1 o2;subst g;subst w;refine⟨λh=>by omega,λ_=>⟨λh=>by omega,λ_=>⟨λ_=>⟨λ_=>⟨λ_=>⟨λ_=>?_,λh=>by omega⟩,λh=>by omega⟩,nofun⟩,λh=>absurd rfl h⟩⟩⟩;rcases hc with⟨rfl,rfl⟩|⟨rfl,hc⟩
   ·simp
   ·have:=List.length_pos_iff.2 hc;refine⟨λ_=>⟨λh=>by omega,λ_=>⟨λ_=>⟨λ_=>by omega,λh=>by omega⟩,λh=>absurd rfl h⟩⟩,nofun⟩
end Go.Proofs.YtecgehidegnmnaaGreatDoor
/- Fits: the statement. -/
namespace Go.Proofs.YtecgehidegnmnaaGreatDoor
open Go.Sx
open Go.Sx.Lx (Tk Zo)
open Go.Sx.Ps (BoV HeV RuV AcV ElV CdV LtF TV Vd aRu)
abbrev FFt:Exit->St->Prop:=FinQ true 0 rs6 λr _=>r=.bool true
theorem Zhn {t:Tm} (h:Vd t):FK 17 [.agg t.cells] (.bool true):=by
 have a:t.depth<=12:=by
  have h':t.valid=true:=h;simp only[Tm.valid,Bool.and_eq_true,decide_eq_true_eq] at h';exact h'.1
 have:=Zbc t (Ps.Zhm h) (by omega);rw[show t.valid=true from h] at this;exact this
theorem Zlq (rl cl sl:LD) (so:Bool) (i:Nat) (hi:i<1000000) (kd:Int) (H:List He) (k1 q:Int) (s1:LU) (f:LD) (k2 r:Int) (s:LU) (g:LD) (B:List Bo) (k3 n3:Int) (t:LU) (j:LD) (e n4:Int) (u:LU) (l ts:LD) (R:B.length<=64) (I: ∀ b∈B,BoV b) (F:At Tryz.prog 0 (cut sc6 1) ⟨[(3,.ptr 0 0),(7,.int .i64 (i+1:Nat))],[(0,.cells [.slice rl [],.slice cl [],.slice sl [],.bool so])]⟩ FFt): ∀ (m k:Nat),B.length-k=m->k<=B.length →
  At Tryz.prog 0 (cut sc6 4) ⟨[(3,.ptr 0 0),(7,.int .i64 i),(8,.ptr 1 0),(12,.int .i64 k)],[(0,.cells [.slice rl [],.slice cl [],.slice sl [],.bool so]),(1,.cells (xRu kd (heL H) k1 q s1 f k2 r s g (boL B) k3 n3 t j e n4 u l ts))]⟩ FFt:=by
 intro m;induction m with
 |zero =>
  intro k hm G;refine At.tree (Z0y λ_=>QH _) (ZaV rl cl sl so i kd (heL H) k1 q s1 f k2 r s g (boL B) k3 n3 t j e n4 u l ts k 0 0 false [] [] 0 0 0 [] [] 0 0 [] [] [] false 0 [] 0 0 0 [] [] true) ?_;simp only[SS,Z2a];exact⟨λh=>by omega,λ_=>⟨by omega,F⟩⟩
 |succ m J =>
  intro k hm G;have h1:k<B.length:=by omega
  have w:=Zap h1;have v:=Z7W _ (I _ (List.getElem_mem h1));generalize B[k]=x at w v;obtain⟨E,⟨n,no,p,a,o,⟨K,N,O,y⟩,⟨L,n6,P,z⟩⟩,bc,c,D,C,d,⟨M,n7,Q,A⟩⟩:=x;refine At.tree (Z0y λ_=>QH _) (ZaV rl cl sl so i kd (heL H) k1 q s1 f k2 r s g (boL B) k3 n3 t j e n4 u l ts k E n no p (Tm.cellsL a) o K N O (Tm.cellsL y) L n6 P (Tm.cellsL z) (ltL bc) c D (elL C) d M n7 Q (Tm.cellsL A) true) ?_;simp only[SS,Z2a];exact⟨λ_=>⟨⟨by omega,w⟩,v,nofun,⟨by omega,J (k+1) (by omega) (by omega)⟩⟩,λh=>by omega⟩
theorem Zlo (rl cl sl:LD) (so:Bool) (i:Nat) (hi:i<1000000) (kd:Int) (H:List He) (k1 n:Int) (s1:LU) (f:LD) (k2 o:Int) (q:LU) (g:LD) (B:List Bo) (k3 n3:Int) (r:LU) (j:LD) (d n4:Int) (s:LU) (l ts:LD) (D:H.length<=64) (A: ∀ h∈H,HeV h) (t:kd=1-> ∀ h∈H,h.c=[]) (y:At Tryz.prog 0 (cut sc6 4) ⟨[(3,.ptr 0 0),(7,.int .i64 i),(8,.ptr 1 0),(12,.int .i64 (0:Nat))],[(0,.cells [.slice rl [],.slice cl [],.slice sl [],.bool so]),(1,.cells (xRu kd (heL H) k1 n s1 f k2 o q g (boL B) k3 n3 r j d n4 s l ts))]⟩ FFt): ∀ (m k:Nat),H.length-k=m->k<=H.length →
  At Tryz.prog 0 (cut sc6 3) ⟨[(3,.ptr 0 0),(7,.int .i64 i),(8,.ptr 1 0),(11,.int .i64 k)],[(0,.cells [.slice rl [],.slice cl [],.slice sl [],.bool so]),(1,.cells (xRu kd (heL H) k1 n s1 f k2 o q g (boL B) k3 n3 r j d n4 s l ts))]⟩ FFt:=by
 intro m;induction m with
 |zero =>
  intro k hm z;refine At.tree (Z0y λ_=>QH _) (ZaT rl cl sl so i kd (heL H) k1 n s1 f k2 o q g (boL B) k3 n3 r j d n4 s l ts k [] [] [] true) ?_;simp only[SS,Z22];exact⟨λh=>by omega,λ_=>y⟩
 |succ m C =>
  intro k hm z;have h1:k<H.length:=by omega
  have b:=Z9H h1;have hv:=A _ (List.getElem_mem h1);have hc:=λe=>t e _ (List.getElem_mem h1);generalize H[k]=x at b hv hc;obtain⟨p,a,c⟩:=x;obtain⟨v1,v,_,v4⟩:=hv;simp only at v1 v v4 hc;have E:=v4.2;have w:=Z6J p (Tm.cellsL a) v1 (by rw[QI];exact v);have u:=C (k+1) (by omega) (by omega);refine At.tree (Z0y λ_=>QH _) (ZaT rl cl sl so i kd (heL H) k1 n s1 f k2 o q g (boL B) k3 n3 r j d n4 s l ts k p (Tm.cellsL a) (ltL c) true) ?_;simp only[SS,Z22,Z11];exact⟨λ_=>⟨⟨by omega,b⟩,w,nofun,⟨⟨by omega,b⟩,λh=>by omega,λ_=>⟨λh=>⟨⟨by omega,b⟩,λh'=>(by rw[hc h] at h';simp at h'),λ_=>⟨by omega,u⟩⟩,λ_=>⟨by omega,u⟩⟩⟩⟩,λh=>by omega⟩
theorem Zlm (rl cl sl:LD) (so:Bool) (i:Nat) (hi:i<1000000) (kd:Int) (H:List He) (k1 f:Int) (s1:LU) (b:LD) (k2 g:Int) (j:LU) (c:LD) (B:List Bo) (k3 n3:Int) (n:LU) (d:LD) (a n4:Int) (o:LU) (e ts:LD) (l:List Tm) (hl:l.length<=100000000) (G: ∀ t∈l,TV t) (E:1<=kd/\kd<=3) (M:H.length<=64) (L:B.length<=64) (F:ts.length<=64) (s:kd=3->H=[]/\k3≠0/\a≠0) (r:kd=2->H≠[]) (p:At Tryz.prog 0 (cut sc6 3) ⟨[(3,.ptr 0 0),(7,.int .i64 i),(8,.ptr 1 0),(11,.int .i64 (0:Nat))],[(0,.cells [.slice rl [],.slice cl [],.slice sl [],.bool so]),(1,.cells (xRu kd (heL H) k1 f s1 b k2 g j c (boL B) k3 n3 n d a n4 o e ts))]⟩ FFt): ∀ (m k:Nat),l.length-k=m->k<=l.length →
  At Tryz.prog 0 (cut sc6 2) ⟨[(3,.ptr 0 0),(7,.int .i64 i),(8,.ptr 1 0),(9,.slice (Tm.cellsL l) []),(10,.int .i64 k)],[(0,.cells [.slice rl [],.slice cl [],.slice sl [],.bool so]),(1,.cells (xRu kd (heL H) k1 f s1 b k2 g j c (boL B) k3 n3 n d a n4 o e ts))]⟩ FFt:=by
 intro m;induction m with
 |zero =>
  intro k hm D;refine At.tree (Z0y λ_=>QH _) (ZaR rl cl sl so i kd (heL H) k1 f s1 b k2 g j c (boL B) k3 n3 n d a n4 o e ts (Tm.cellsL l) k 0 0 [] [] true) ?_;simp only[SS,Z22,Z2a,QI];refine⟨λh=>by omega,λ_=>⟨λh=>by omega,λ_=>⟨λh=>by omega,λ_=>⟨λh=>by omega,λ_=>⟨λh=>by omega,λ_=>⟨λh=>by omega,λ_=>⟨λu=>?_,λu=>⟨λh2=>⟨λh=>?_,λ_=>p⟩,λ_=>p⟩⟩⟩⟩⟩⟩⟩⟩
  ·obtain⟨z,A,C⟩:=s u;exact⟨λh=>(by rw[z] at h;simp at h),λ_=>⟨λh=>absurd h A,λ_=>⟨λh=>absurd h C,λ_=>⟨λh=>by omega,λ_=>p⟩⟩⟩⟩
  ·have:=List.length_pos_iff.2 (r h2);omega
 |succ m I =>
  intro k hm D;have h1:k<l.length:=by omega
  have q:=Zdv h1;have hv:=G _ (List.getElem_mem h1);have v:=I (k+1) (by omega) (by omega);generalize l[k]=x at q hv;obtain⟨w,J,K,y⟩:=x;refine At.tree (Z0y λ_=>QH _) (ZaR rl cl sl so i kd (heL H) k1 f s1 b k2 g j c (boL B) k3 n3 n d a n4 o e ts (Tm.cellsL l) k w J K (Tm.cellsL y) true) ?_;simp only[SS,QI];refine⟨λ_=>⟨⟨by omega,q⟩,λh0=>⟨⟨by omega,q⟩,?_,nofun,⟨by omega,v⟩⟩,λ_=>⟨by omega,v⟩⟩,λh=>by omega⟩;exact Zhn (Ps.Zkz hv (λh=>h0 (by rw[show w=0 from h];rfl)))
theorem Zln (R:List Ru) (cl sl:LD) (so:Bool) (F:R.length<=400) (A: ∀ r∈R,RuV r): ∀ (m i:Nat),R.length-i=m->i<=R.length →
  At Tryz.prog 0 (cut sc6 1) ⟨[(3,.ptr 0 0),(7,.int .i64 i)],[(0,.cells [.slice (ruL R) [],.slice cl [],.slice sl [],.bool so])]⟩ FFt:=by
 intro m;induction m with
 |zero =>
  intro i hm hi;refine At.tree (Z0y λ_=>QH _) (ZaS (ruL R) cl sl so i 0 [] 0 0 [] [] 0 0 [] [] [] 0 0 [] [] 0 0 [] [] [] []) ?_;simp only[SS,Z0k];first|exact⟨λh=>by omega,λ_=>rfl⟩|exact⟨λh=>by omega,λ_=>trivial⟩|exact λh=>by omega
 |succ m C =>
  intro i hm hi;have h1:i<R.length:=by omega
  have w:(ruL R)[i]? = some (Ru.cs R[i]):=by simp[ruL,h1]
  have hv:=A _ (List.getElem_mem h1);have z:=C (i+1) (by omega) (by omega);generalize R[i]=x at w hv;have v:=Zbi x (Ps.ZkL hv) (Nat.le_trans (Zdn hv) (by decide));have hl:=Zdn hv;have y:=Ps.ZkA hv;generalize E:aRu x=L at v hl y;obtain⟨kd,H,⟨k1,o,s1,g⟩,⟨k2,p,q,j⟩,B,⟨k3,n3,s,k⟩,⟨n,n4,t,l⟩,ts⟩:=x;refine At.tree (Z0y λ_=>QH _) (ZaS (ruL R) cl sl so i kd (heL H) k1 o s1 (Tm.cellsL g) k2 p q (Tm.cellsL j) (boL B) k3 n3 s (Tm.cellsL k) n n4 t (Tm.cellsL l) (Tm.cellsL ts) (Tm.cellsL L)) ?_;simp only[SS,Z0k];refine⟨λ_=>⟨⟨by omega,w⟩,v,?_⟩,λh=>by omega⟩;have u:=hv.k;have a:=hv.b.2;have f:=hv.t.2;have d:=hv.k3;have c:=hv.k2;have b:=hv.k1;simp only[Ps.kT] at u a f d c b;refine Zlm (ruL R) cl sl so i (by omega) kd H k1 o s1 (Tm.cellsL g) k2 p q (Tm.cellsL j) B k3 n3 s (Tm.cellsL k) n n4 t (Tm.cellsL l) (Tm.cellsL ts) L hl y (by omega) hv.hl a (by rw[QI];exact f) (λe=>?_) (λe=>c (by omega)) ?_ _ 0 rfl (Nat.zero_le _)
  ·obtain⟨D,G,I⟩:=d (by omega);exact⟨D,by omega,by omega⟩
  refine Zlo (ruL R) cl sl so i (by omega) kd H k1 o s1 (Tm.cellsL g) k2 p q (Tm.cellsL j) B k3 n3 s (Tm.cellsL k) n n4 t (Tm.cellsL l) (Tm.cellsL ts) hv.hl hv.h (λe=>b (by omega)) ?_ _ 0 rfl (Nat.zero_le _);exact Zlq (ruL R) cl sl so i (by omega) kd H k1 o s1 (Tm.cellsL g) k2 p q (Tm.cellsL j) B k3 n3 s (Tm.cellsL k) n n4 t (Tm.cellsL l) (Tm.cellsL ts) a hv.b.1 z _ 0 rfl (Nat.zero_le _)
theorem Zlp (R:List Ru) (C:List Co) (sl:LD) (so:Bool) (e:R.length<=400) (g: ∀ r∈R,RuV r) (o:C.length<=400) (hc: ∀ x∈C,Lx.ZM x.n=true/\Vd x.v): ∀ (m i:Nat),C.length-i=m->i<=C.length →
  At Tryz.prog 0 (cut sc6 0) ⟨[(3,.ptr 0 0),(6,.int .i64 i)],[(0,.cells [.slice (ruL R) [],.slice (coL C) [],.slice sl [],.bool so])]⟩ FFt:=by
 intro m;induction m with
 |zero =>
  intro i hm hi;refine At.tree (Z0y λ_=>QH _) (ZaU (ruL R) (coL C) sl so i [] 0 0 [] [] true true) ?_;simp only[SS,Z4q];exact⟨λh=>by omega,λ_=>Zln R (coL C) sl so e g _ 0 rfl (Nat.zero_le _)⟩
 |succ m j =>
  intro i hm hi;have h1:i<C.length:=by omega
  have a:=Zgb h1;have hv:=hc _ (List.getElem_mem h1);have d:=j (i+1) (by omega) (by omega);generalize C[i]=x at a hv;have f:=Zhn hv.2;have hs:=hv.1;obtain⟨p,⟨k,l,n,c⟩⟩:=x;have b:=Z0T p (Nat.le_trans (Z0A hs) (by decide));rw[show Lx.ZM p=true from hs] at b;refine At.tree (Z0y λ_=>QH _) (ZaU (ruL R) (coL C) sl so i p k l n (Tm.cellsL c) true true) ?_;simp only[SS,Z4q];exact⟨λ_=>⟨⟨by omega,a⟩,b,nofun,⟨⟨by omega,a⟩,f,nofun,⟨by omega,d⟩⟩⟩,λh=>by omega⟩
theorem Z4R {src:LU} (h:(Qn src).2.2≠0):(Qn src).1=⟨[],[],[],false⟩:=by
 unfold Qn Ps.Zhg at h ⊢;split
 ·rename_i hl;rw[if_pos hl] at h;cases hp:Ps.Qi (Lx.Qh src).1 with
  |ok b j=>rw[Ps.Z4S hp] at h;exact absurd rfl h
  |bad k e=>rfl
 ·rfl
theorem ZfZ (d:FK 8 [] (.bool true)) (src:LU):FK 6 [.str src] (.bool true):=by
 have f:=Z9P src;have hv:=pv src;have v1:=hv.rl;have g:=hv.cl;have j:=hv.sl;refine FnOK.tree Z5 fp6 (Z0y λ_=>QH _) (ZgS src (ruL (Qn src).1.r) (coL (Qn src).1.c) (shL (Qn src).1.s) (Qn src).1.so (Qn src).2.1 (Qn src).2.2) ?_;simp only[SS,Z0k,Z4q,Z2G];have c:=Zlp (Qn src).1.r (Qn src).1.c (shL (Qn src).1.s) (Qn src).1.so v1 hv.r g hv.c _ 0 rfl (Nat.zero_le _);refine⟨d,λ_=>trivial,λi=>⟨f,λb=>⟨by omega,by omega,λ_=>?_,λh=>?_⟩,λb=>⟨λh=>by omega,λ_=>⟨λh=>by omega,λ_=>⟨λh=>by omega,λ_=>⟨λh=>⟨λa=>?_,λ_=>c⟩,λ_=>c⟩⟩⟩⟩⟩⟩
 ·rw[Z4R b]
 ·rw[Z4R b] at h;simp at h
 ·have:=hv.so (λe=>by rw[e] at h;simp at h);rw[this] at a;cases a
end Go.Proofs.YtecgehidegnmnaaGreatDoor
