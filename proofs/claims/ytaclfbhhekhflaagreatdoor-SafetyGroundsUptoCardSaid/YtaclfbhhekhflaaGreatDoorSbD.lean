/- Own work: a layer over the kit: plain data,a walk over it,its soundness. -/
import Derived.Test.YtaclfbhhekhflaaGreatDoorSafW
import Derived.Test.YtaclfbhhekhflaaGreatDoorSx10
set_option linter.all false
set_option maxRecDepth 100000
/- SizeRule,proved. -/
noncomputable section
namespace Go.Proofs.YtaclfbhhekhflaaGreatDoor.S
open Go.Sx Go.RowKit
section
variable (k:Nat) (hs:List He) (a1:Nat) (a2:Int) (a3:Nm) (a4:List Tm) (b1:Nat) (b2:Int) (b3:Nm) (b4:List Tm) (bs:List Bo) (c1:Nat) (c2:Int) (c3:Nm) (c4:List Tm) (d1:Nat) (d2:Int) (d3:Nm) (d4:List Tm) (ts:List Tm) (M:Int)
abbrev obR:Obs:=[(0,.cells (rC k (heL hs) (boL bs) (Tm.cellsL ts) a1 a2 a3 (Tm.cellsL a4) b1 b2 b3 (Tm.cellsL b4) c1 c2 c3 (Tm.cellsL c4) d1 d2 d3 (Tm.cellsL d4)))]
abbrev QR (v:Int):Exit->St->Prop:=FinQ true 0 rs7 λr _=>r=.int .i64 v
variable (hw:Ru.wf 281474976710656 ⟨k,hs,.mk a1 a2 a3 a4,.mk b1 b2 b3 b4,bs,.mk c1 c2 c3 c4,.mk d1 d2 d3 d4,ts⟩) (hM:0<=M/\M<=1000000)
include hw hM
theorem Zob (i:Nat) (hi:i<bs.length) (K: ∀ n:Int,0<=n->n<=10*M+1000->At Tryz.prog 0 (cut sc7 1) ⟨tmR M n [(7,.int .i64 (i+1))],obR k hs a1 a2 a3 a4 b1 b2 b3 b4 bs c1 c2 c3 c4 d1 d2 d3 d4 ts⟩ (QR (Z1N (bs.drop (i+1)) M n))): ∀ (q j:Nat) (n:Int),bs[i].e.length-j=q->j<=bs[i].e.length->0<=n->n<=10*M+1000 →
  At Tryz.prog 0 (cut sc7 2) ⟨tmR M n [(7,.int .i64 i),(8,.ptr 1 0),(9,.int .i64 j)],obR k hs a1 a2 a3 a4 b1 b2 b3 b4 bs c1 c2 c3 c4 d1 d2 d3 d4 ts++[(1,.cells bs[i].cs)]⟩ (QR (Z1N (bs.drop (i+1)) M (Z2C (bs[i].e.drop j) M n))):=by
 have v:=hw.bl;simp only at v;have I:=hw.b _ (List.getElem_mem hi);have g:=I.el;have d:=I.e;generalize bs[i]=x at g d ⊢;obtain⟨s,⟨lk,ln,B,A,lo,⟨C,D,E,F⟩,⟨G,H,y3,y4⟩⟩,bc,b,r,a,c,⟨t1,t2,t3,t4⟩⟩:=x;simp only at g d ⊢;intro q;induction q with
 |zero =>
  intro j n hm R z f;have o:=K n z f;refine At.tree (Z9 Z0) (Z8G k (heL hs) (boL bs) (Tm.cellsL ts) a1 a2 a3 (Tm.cellsL a4) b1 b2 b3 (Tm.cellsL b4) c1 c2 c3 (Tm.cellsL c4) d1 d2 d3 (Tm.cellsL d4) M n i j 0 0 s lk ln B (Tm.cellsL A) lo C D E (Tm.cellsL F) G H y3 (Tm.cellsL y4) (ltL bc) b r (elL a) c t1 t2 t3 (Tm.cellsL t4) [] []) ?_;rw[List.drop_eq_nil_of_le (show a.length<=j by omega)];simp only[SS,Z5S];exact⟨λh=>by omega,λ_=>⟨by omega,o⟩⟩
 |succ q S =>
  intro j n hm R z f;have h1:j<a.length:=by omega
  have w:=ZdM h1;have p:=d _ (List.getElem_mem h1);rw[Zc h1];simp only[Z2C];by_cases l:n<=M
  ·rw[if_pos l];have t:=Z8Y a[j].t p.tl (λx hx=>Z3v x (Z3r p.t hx)) (M-n) (by omega);have u:=Z8Z a[j].c [] p.cl p.c (M-n) (by omega);have N:=Qh a[j].t (M-n) 0;have O:=Z26 a[j].t (M-n) 0 (by omega);have P:=ZQ a[j].c (M-n) 0;have Q:=Z25 a[j].c (M-n) 0 (by omega) (by omega) (by omega);have e:szEl a[j] (M-n)=1+Tm.szL a[j].t (M-n) 0+ZW a[j].c (M-n) 0:=rfl;have m:=S (j+1) (n+szEl a[j] (M-n)) (by omega) (by omega) (by omega) (by omega);rw[e] at m ⊢;generalize Tm.szL a[j].t (M-n) 0=T at t m N O ⊢;generalize ZW a[j].c (M-n) 0=U at u m P Q ⊢;generalize a[j]=y at w t u;obtain⟨L,J⟩:=y;refine At.tree (Z9 Z0) (Z8G k (heL hs) (boL bs) (Tm.cellsL ts) a1 a2 a3 (Tm.cellsL a4) b1 b2 b3 (Tm.cellsL b4) c1 c2 c3 (Tm.cellsL c4) d1 d2 d3 (Tm.cellsL d4) M n i j T U s lk ln B (Tm.cellsL A) lo C D E (Tm.cellsL F) G H y3 (Tm.cellsL y4) (ltL bc) b r (elL a) c t1 t2 t3 (Tm.cellsL t4) (Tm.cellsL L) (ltL J)) ?_;simp only[SS,Z5S];exact⟨λ_=>⟨λ_=>⟨⟨by omega,w⟩,by omega,t,by omega,⟨by omega,w⟩,by omega,u,by omega,by omega,by omega,m⟩,λh=>by omega⟩,λh=>by omega⟩
  ·rw[if_neg l];have o:=K n z f;refine At.tree (Z9 Z0) (Z8G k (heL hs) (boL bs) (Tm.cellsL ts) a1 a2 a3 (Tm.cellsL a4) b1 b2 b3 (Tm.cellsL b4) c1 c2 c3 (Tm.cellsL c4) d1 d2 d3 (Tm.cellsL d4) M n i j 0 0 s lk ln B (Tm.cellsL A) lo C D E (Tm.cellsL F) G H y3 (Tm.cellsL y4) (ltL bc) b r (elL a) c t1 t2 t3 (Tm.cellsL t4) [] []) ?_;simp only[SS,Z5S];exact⟨λ_=>⟨λh=>by omega,λ_=>⟨by omega,o⟩⟩,λ_=>⟨by omega,o⟩⟩
theorem Zoc: ∀ (q i:Nat) (n:Int),bs.length-i=q->i<=bs.length->0<=n->n<=10*M+1000 →
  At Tryz.prog 0 (cut sc7 1) ⟨tmR M n [(7,.int .i64 i)],obR k hs a1 a2 a3 a4 b1 b2 b3 b4 bs c1 c2 c3 c4 d1 d2 d3 d4 ts⟩ (QR (Z1N (bs.drop i) M n)):=by
 intro q;induction q with
 |zero =>
  intro i n hm hi o a;refine At.tree (Z9 Z0) (Z8H k (heL hs) (boL bs) (Tm.cellsL ts) a1 a2 a3 (Tm.cellsL a4) b1 b2 b3 (Tm.cellsL b4) c1 c2 c3 (Tm.cellsL c4) d1 d2 d3 (Tm.cellsL d4) M n i 0 0 0 0 0 true [] [] 0 0 0 [] [] 0 0 [] [] [] true 0 [] 0 0 0 [] []) ?_;rw[List.drop_eq_nil_of_le (show bs.length<=i by omega)];simp only[SS,Q6];exact⟨λh=>by omega,λ_=>rfl⟩
 |succ q C =>
  intro i n hm hi o a;have h1:i<bs.length:=by omega
  have p:=Z8w h1;have d:=hw.b _ (List.getElem_mem h1);rw[Zc h1];simp only[Z1N];by_cases c:n<=M
  ·rw[if_pos c];have j:=Z8Z [bs[i].l] [] (by simp) (λx hx=>by rw[List.mem_singleton] at hx;exact hx ▸ d.l) (M-n) (by omega);have l:=Z8Z bs[i].c [] d.cl d.c (M-n) (by omega);have m:=Z3v bs[i].b d.b (M-n) (by omega) (by omega);have u:=ZQ [bs[i].l] (M-n) 0;have v:=Z25 [bs[i].l] (M-n) 0 (by omega) (by omega) (by omega);have w:=ZQ bs[i].c (M-n) 0;have z:=Z25 bs[i].c (M-n) 0 (by omega) (by omega) (by omega);have A:=Qg bs[i].b (M-n);have B:=Z3w bs[i].b (M-n) (by omega);have e:szBo bs[i] (M-n)=1+ZW [bs[i].l] (M-n) 0+ZW bs[i].c (M-n) 0+bs[i].b.sz (M-n):=rfl;have b:=Zob k hs a1 a2 a3 a4 b1 b2 b3 b4 bs c1 c2 c3 c4 d1 d2 d3 d4 ts M hw hM i h1 (λn o a=>C (i+1) n (by omega) (by omega) o a) _ 0 (n+szBo bs[i] (M-n)) rfl (Nat.zero_le _) (by omega) (by omega);rw[e,List.drop_zero] at b;rw[e];generalize ZW [bs[i].l] (M-n) 0=L at j b u v ⊢;generalize ZW bs[i].c (M-n) 0=N at l b w z ⊢;generalize bs[i].b.sz (M-n)=O at m b A B ⊢;generalize bs[i]=y at p j l m b ⊢;obtain⟨t,⟨lk,ln,E,D,lo,⟨F,G,H,I⟩,⟨J,K,y3,y4⟩⟩,bc,f,s,r,g,⟨t1,t2,t3,t4⟩⟩:=y;refine At.tree (Z9 Z0) (Z8H k (heL hs) (boL bs) (Tm.cellsL ts) a1 a2 a3 (Tm.cellsL a4) b1 b2 b3 (Tm.cellsL b4) c1 c2 c3 (Tm.cellsL c4) d1 d2 d3 (Tm.cellsL d4) M n i L N O t lk ln E (Tm.cellsL D) lo F G H (Tm.cellsL I) J K y3 (Tm.cellsL y4) (ltL bc) f s (elL r) g t1 t2 t3 (Tm.cellsL t4)) ?_;simp only[SS,Q6];exact⟨λ_=>⟨λ_=>⟨⟨by omega,p⟩,by omega,j,by omega,by omega,l,by omega,by omega,m,by omega,by omega,b⟩,λh=>by omega⟩,λh=>by omega⟩
  ·rw[if_neg c];refine At.tree (Z9 Z0) (Z8H k (heL hs) (boL bs) (Tm.cellsL ts) a1 a2 a3 (Tm.cellsL a4) b1 b2 b3 (Tm.cellsL b4) c1 c2 c3 (Tm.cellsL c4) d1 d2 d3 (Tm.cellsL d4) M n i 0 0 0 0 0 true [] [] 0 0 0 [] [] 0 0 [] [] [] true 0 [] 0 0 0 [] []) ?_;simp only[SS,Q6];exact⟨λ_=>⟨λh=>by omega,λ_=>trivial⟩,λ_=>trivial⟩
theorem Zoa: ∀ (q i:Nat) (n:Int),hs.length-i=q->i<=hs.length->0<=n->n<=10*M+1000 →
  At Tryz.prog 0 (cut sc7 0) ⟨tmR M n [(6,.int .i64 i)],obR k hs a1 a2 a3 a4 b1 b2 b3 b4 bs c1 c2 c3 c4 d1 d2 d3 d4 ts⟩ (QR (Z1N bs M (Z2B (hs.drop i) M n))):=by
 have a:=λn c b=>Zoc k hs a1 a2 a3 a4 b1 b2 b3 b4 bs c1 c2 c3 c4 d1 d2 d3 d4 ts M hw hM _ 0 n rfl (Nat.zero_le _) c b;have m:=hw.hl;simp only at m;simp only[List.drop_zero] at a;intro q;induction q with
 |zero =>
  intro i n hm hi c b;have a:=a n c b;refine At.tree (Z9 Z0) (Z8F k (heL hs) (boL bs) (Tm.cellsL ts) a1 a2 a3 (Tm.cellsL a4) b1 b2 b3 (Tm.cellsL b4) c1 c2 c3 (Tm.cellsL c4) d1 d2 d3 (Tm.cellsL d4) M n i 0 0 [] [] []) ?_;rw[List.drop_eq_nil_of_le (show hs.length<=i by omega)];simp only[SS,Z3V];exact⟨λh=>by omega,λ_=>a⟩
 |succ q u =>
  intro i n hm hi c b;have h1:i<hs.length:=by omega
  have l:=Z87 h1;have g:=hw.h _ (List.getElem_mem h1);rw[Zc h1];simp only[Z2B];by_cases d:n<=M
  ·rw[if_pos d];have j:=Zhm hs[i].p hs[i].a g.al g.a (M-n) (by omega) (by omega);have a:=Z8Z hs[i].c [] g.cl g.c (M-n) (by omega);have o:=Qh hs[i].a (M-n-1) 0;have r:=Z26 hs[i].a (M-n-1) 0 (by omega);have s:=ZQ hs[i].c (M-n) 0;have t:=Z25 hs[i].c (M-n) 0 (by omega) (by omega) (by omega);have e:szHe hs[i] (M-n)=(1+Tm.szL hs[i].a (M-n-1) 0)+ZW hs[i].c (M-n) 0:=rfl;have f:=u (i+1) (n+szHe hs[i] (M-n)) (by omega) (by omega) (by omega) (by omega);rw[e] at f ⊢;generalize Tm.szL hs[i].a (M-n-1) 0=v at j f o r ⊢;generalize ZW hs[i].c (M-n) 0=w at a f s t ⊢;generalize hs[i]=y at l j a;obtain⟨p,ha,hc⟩:=y;refine At.tree (Z9 Z0) (Z8F k (heL hs) (boL bs) (Tm.cellsL ts) a1 a2 a3 (Tm.cellsL a4) b1 b2 b3 (Tm.cellsL b4) c1 c2 c3 (Tm.cellsL c4) d1 d2 d3 (Tm.cellsL d4) M n i (1+v) w p (Tm.cellsL ha) (ltL hc)) ?_;simp only[SS,Z3V];exact⟨λ_=>⟨λ_=>⟨⟨by omega,l⟩,by omega,j,⟨by omega,l⟩,by omega,a,by omega,by omega,by omega,f⟩,λh=>by omega⟩,λh=>by omega⟩
  ·rw[if_neg d];have a:=a n c b;refine At.tree (Z9 Z0) (Z8F k (heL hs) (boL bs) (Tm.cellsL ts) a1 a2 a3 (Tm.cellsL a4) b1 b2 b3 (Tm.cellsL b4) c1 c2 c3 (Tm.cellsL c4) d1 d2 d3 (Tm.cellsL d4) M n i 0 0 [] [] []) ?_;simp only[SS,Z3V];exact⟨λ_=>⟨λh=>by omega,λ_=>a⟩,λ_=>a⟩
theorem ZiO:FK 7 [.agg (rC k (heL hs) (boL bs) (Tm.cellsL ts) a1 a2 a3 (Tm.cellsL a4) b1 b2 b3 (Tm.cellsL b4) c1 c2 c3 (Tm.cellsL c4) d1 d2 d3 (Tm.cellsL d4)),.int .i64 M] (.int .i64 (szRu ⟨k,hs,.mk a1 a2 a3 a4,.mk b1 b2 b3 b4,bs,.mk c1 c2 c3 c4,.mk d1 d2 d3 d4,ts⟩ M)):=by
 have h1:=Z3v _ hw.lo M hM.1 hM.2;have h2:=Z3v _ hw.up M hM.1 hM.2;have b:=Z3v _ hw.w M hM.1 hM.2;have c:=Z3v _ hw.lv M hM.1 hM.2;have d:=Z8Y ts hw.tl (λx hx=>Z3v x (Z3r hw.t hx)) M (by omega);have hH:=Zoa k hs a1 a2 a3 a4 b1 b2 b3 b4 bs c1 c2 c3 c4 d1 d2 d3 d4 ts M hw hM _ 0 (szR0 ⟨k,hs,.mk a1 a2 a3 a4,.mk b1 b2 b3 b4,bs,.mk c1 c2 c3 c4,.mk d1 d2 d3 d4,ts⟩ M) rfl (Nat.zero_le _);unfold szRu;have e:szR0 ⟨k,hs,.mk a1 a2 a3 a4,.mk b1 b2 b3 b4,bs,.mk c1 c2 c3 c4,.mk d1 d2 d3 d4,ts⟩ M=1+Tm.sz (.mk a1 a2 a3 a4) M+Tm.sz (.mk b1 b2 b3 b4) M+Tm.sz (.mk c1 c2 c3 c4) M+Tm.sz (.mk d1 d2 d3 d4) M+Tm.szL ts M 0:=rfl;rw[e] at hH ⊢;have f:=Qg (.mk a1 a2 a3 a4) M;have g:=Z3w (.mk a1 a2 a3 a4) M hM.1;have h:=Qg (.mk b1 b2 b3 b4) M;have i:=Z3w (.mk b1 b2 b3 b4) M hM.1;have j:=Qg (.mk c1 c2 c3 c4) M;have l:=Z3w (.mk c1 c2 c3 c4) M hM.1;have m:=Qg (.mk d1 d2 d3 d4) M;have n:=Z3w (.mk d1 d2 d3 d4) M hM.1;have o:=Qh ts M 0;have a:=Z26 ts M 0 (by omega);simp only at h1 h2 b c;generalize Tm.sz (.mk a1 a2 a3 a4) M=p at h1 hH f g ⊢;generalize Tm.sz (.mk b1 b2 b3 b4) M=q at h2 hH h i ⊢;generalize Tm.sz (.mk c1 c2 c3 c4) M=r at b hH j l ⊢;generalize Tm.sz (.mk d1 d2 d3 d4) M=s at c hH m n ⊢;generalize Tm.szL ts M 0=t at d hH o a ⊢;have hH:=hH (by omega) (by omega);refine FnOK.tree Z3 fp7 (Z9 Z0) (Zsn k (heL hs) (boL bs) (Tm.cellsL ts) a1 a2 a3 (Tm.cellsL a4) b1 b2 b3 (Tm.cellsL b4) c1 c2 c3 (Tm.cellsL c4) d1 d2 d3 (Tm.cellsL d4) M p q r s t) ?_;simp only[SS];exact⟨h1,by omega,h2,by omega,b,by omega,c,by omega,d,by omega,hH⟩
end
theorem szr_ok (r:Ru) (hw:r.wf 281474976710656) (M:Int) (hM:0<=M/\M<=1000000):FK 7 [.agg r.cs,.int .i64 M] (.int .i64 (szRu r M)):=by
 obtain⟨k,hs,⟨a1,a2,a3,a4⟩,⟨b1,b2,b3,b4⟩,bs,⟨c1,c2,c3,c4⟩,⟨d1,d2,d3,d4⟩,ts⟩:=r;exact ZiO k hs a1 a2 a3 a4 b1 b2 b3 b4 bs c1 c2 c3 c4 d1 d2 d3 d4 ts M hw hM
end Go.Proofs.YtaclfbhhekhflaaGreatDoor.S
/- A rule of a modest size. -/
namespace Go.Proofs.YtaclfbhhekhflaaGreatDoor.S
open Go.Sx Go.RowKit
theorem Z3L {t:Tm} (h:t.wf 281474976710656) (hf:(t.vs.length:Int)<=1000000):okt t:=⟨h,by omega⟩
theorem ZcH {l:List Tm} (h: ∀ x∈l,x.wf 281474976710656) (hf:fewT 1000000 l):okT l :=
 ⟨by have:=hf.1;omega,λx hx=>⟨h x hx,by have:=hf.2;have:=Z59 hx;omega⟩⟩
theorem okL_of {x:Lt} (h:x.wf 281474976710656) (hf:x.few 1000000):okL x:=by
 obtain⟨_,_,a,b,_,c,d⟩:=h;obtain⟨f1,f2,f3⟩:=hf;exact⟨a,b,by omega,Z3L c f2,Z3L d f3⟩
theorem Z9n {l:List Lt} (h: ∀ x∈l,x.wf 281474976710656) (hf:fewC 1000000 l):okC l :=
 ⟨by have:=hf.1;omega,λx hx=>okL_of (h x hx) (hf.2.1 x hx),by have:=hf.2.2.1;omega⟩
theorem okR_of {r:Ru} (h:r.wf 281474976710656) (hf:fewR 1000000 r):okR r:=by
 obtain⟨t1,t2,t3,t4⟩:=hf.t4;refine⟨⟨by simp,λx hx=>?_⟩,ZcH (λx hx=>Qe.1 h.t x hx) hf.tt,h.hl,λx hx=>⟨ZcH (λy a=>Qe.1 (h.h x hx).a y a) (hf.h x hx).1,Z9n (h.h x hx).c (hf.h x hx).2⟩,by have:=hf.bl;omega,λx hx=>?_⟩
 ·simp only[List.mem_cons,List.not_mem_nil,or_false] at hx;rcases hx with rfl|rfl|rfl|rfl
  ·exact Z3L h.lo t1
  ·exact Z3L h.up t2
  ·exact Z3L h.w t3
  ·exact Z3L h.lv t4
 ·obtain⟨c,d,e,g,b⟩:=hf.b x hx;have hw:=h.b x hx;refine⟨Z9n (λy a=>by rw[List.mem_singleton] at a;exact a ▸ hw.l) c,⟨by simp,λy a=>?_⟩,Z9n hw.c d,hw.el,λy a=>⟨ZcH (λz f=>Qe.1 (hw.e y a).t z f) (b y a).1,Z9n (hw.e y a).c (b y a).2⟩⟩;rw[List.mem_singleton] at a;subst a;exact Z3L hw.b e
end Go.Proofs.YtaclfbhhekhflaaGreatDoor.S
/- reversed,Pick,Global,proved. -/
namespace Go.Proofs.YtaclfbhhekhflaaGreatDoor.S
open Go.Sx Go.RowKit
def pkI (x n:Int):Int:=if x.tmod n<0 then x.tmod n+n else x.tmod n
theorem pkI_lt {x n:Int} (h:1<=n):0<=pkI x n/\pkI x n<n:=by
 have h1:=Int.tmod_lt_of_pos x (show 0<n by omega);have h2:=Int.lt_tmod_of_pos x (show 0<n by omega);unfold pkI;split<;>omega
theorem pick_ok (x n:Int) (h:1<=n) (a:n<=1000000000):FK 11 [.int .i64 x,.int .i64 n] (.int .i64 (pkI x n)):=by
 have h1:=Int.tmod_lt_of_pos x (show 0<n by omega);have h2:=Int.lt_tmod_of_pos x (show 0<n by omega);refine FnOK.tree Z3 fp11 (Z9 Z0) (Zsr x n) ?_;unfold PPk pkI;simp only[SS];refine⟨λh=>by omega,λ_=>⟨by omega,λh=>?_,λh=>?_⟩⟩
 ·rw[if_pos h];exact⟨by omega,rfl⟩
 ·rw[if_neg h]
theorem Global_ok (r:Ru) (hr:okR r) (d:(Zq r).length<=1073741823):FK 5 [.agg r.cs] (.slice (strC (srt (Zq r))) []):=by
 obtain⟨k,hs,⟨a1,a2,a3,a4⟩,⟨b1,b2,b3,b4⟩,bs,⟨c1,c2,c3,c4⟩,⟨d1,d2,d3,d4⟩,ts⟩:=r;have b:=Z6O k hs a1 a2 a3 a4 b1 b2 b3 b4 bs c1 c2 c3 c4 d1 d2 d3 d4 ts hr;have a:=Z3E _ d (Z1A _);generalize Zq ⟨k,hs,.mk a1 a2 a3 a4,.mk b1 b2 b3 b4,bs,.mk c1 c2 c3 c4,.mk d1 d2 d3 d4,ts⟩=F at b a ⊢;generalize srt F=z at a ⊢;cases z with
 |nil =>
  refine FnOK.tree Z3 fp5 (Z2 Z1 (QT.or_ok (Z16 (Zw _ _)) (Zw _ _))) (ZmJ k (heL hs) (boL bs) (Tm.cellsL ts) a1 a2 a3 (Tm.cellsL a4) b1 b2 b3 (Tm.cellsL b4) c1 c2 c3 (Tm.cellsL c4) d1 d2 d3 (Tm.cellsL d4) (kS F) (uS F)) ?_;rw[Z4,Z4,Z7];exact⟨b,a,rfl⟩
 |cons c e =>
  refine FnOK.freezeT (ty:=9) (FnOK.tree Z3 fp5 (Z2 Z1 (QT.or_ok (Z16 (Zw _ _)) (Zw _ _))) (ZmK k (heL hs) (boL bs) (Tm.cellsL ts) a1 a2 a3 (Tm.cellsL a4) b1 b2 b3 (Tm.cellsL b4) c1 c2 c3 (Tm.cellsL c4) d1 d2 d3 (Tm.cellsL d4) (kS F) (uS F) (strC (c::e))) ?_);rw[Z4,Z4,Z7];exact⟨b,a,rfl⟩
end Go.Proofs.YtaclfbhhekhflaaGreatDoor.S
