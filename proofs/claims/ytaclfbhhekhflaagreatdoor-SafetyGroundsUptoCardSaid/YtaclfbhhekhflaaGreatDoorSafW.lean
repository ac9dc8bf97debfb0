/- Own work: a layer over the kit: plain data,a walk over it,its soundness. -/
import Derived.Test.YtaclfbhhekhflaaGreatDoorSafP
import Derived.Test.YtaclfbhhekhflaaGreatDoorSx10
set_option linter.all false
set_option maxRecDepth 100000
/- global,unsafe,proved. -/
noncomputable section
namespace Go.Proofs.YtaclfbhhekhflaaGreatDoor.S
open Go.Sx Go.RowKit
section
variable (k:Nat) (hs:List He) (a1:Nat) (a2:Int) (a3:Nm) (a4:List Tm) (b1:Nat) (b2:Int) (b3:Nm) (b4:List Tm) (bs:List Bo) (c1:Nat) (c2:Int) (c3:Nm) (c4:List Tm) (d1:Nat) (d2:Int) (d3:Nm) (d4:List Tm) (ts:List Tm)
theorem Zgm (hr:okR ⟨k,hs,.mk a1 a2 a3 a4,.mk b1 b2 b3 b4,bs,.mk c1 c2 c3 c4,.mk d1 d2 d3 d4,ts⟩): ∀ (m i:Nat) (S:List Nm),hs.length-i=m->i<=hs.length →
  At Tryz.prog 0 (cut sc17 0) (hdGh (rC k (heL hs) (boL bs) (Tm.cellsL ts) a1 a2 a3 (Tm.cellsL a4) b1 b2 b3 (Tm.cellsL b4) c1 c2 c3 (Tm.cellsL c4) d1 d2 d3 (Tm.cellsL d4)) (heL hs) hs.length i (kS S) (uS S)) (FinQ false 0 rs17 λr ob=>r=.map 0/\ob=[(0,setO (bs.foldl Z40 ((hs.drop i).foldl (Z3Z k) S)))]):=by
 have e: ∀ (o vc wk q:List D) (w:LD),∀ x∈[((40:Nat),varQ),(41,asmA (.tuple []) (updM o vc)),(45,asmW w),(46,asmA (.tuple []) (updM wk q))],x.2.OK:=λo vc wk q w x hx=>by
  simp only[List.mem_cons,List.not_mem_nil,or_false] at hx;rcases hx with rfl|rfl|rfl|rfl
  ·exact Z0W
  ·exact Za _ _
  ·exact Z62 _
  ·exact Za _ _
 have d:=hr.bl;have j:=hr.hl;have f:=hr.h;simp only at d j f;intro m;induction m with
 |zero =>
  intro i S hm hi;have s:=Zgn bs d (λx hx=>⟨(hr.b x hx).1,(hr.b x hx).2.1⟩) _ 0 S rfl (Nat.zero_le _);refine At.tree (Qf Z1 (Z0c (e _ _ _ _ _))) (Ziv k (heL hs) (boL bs) (Tm.cellsL ts) a1 a2 a3 (Tm.cellsL a4) b1 b2 b3 (Tm.cellsL b4) c1 c2 c3 (Tm.cellsL c4) d1 d2 d3 (Tm.cellsL d4) (kS S) (uS S) [] [] [] [] hs.length i [] [] [] []) ?_;rw[List.drop_eq_nil_of_le (by omega:hs.length<=i)];simp only[SS,Q6];exact⟨λh=>by omega,λ_=>s⟩
 |succ m t =>
  intro i S hm hi;have h1:i<hs.length:=by omega
  have n:=Z87 h1;obtain⟨o1,o2⟩:=f _ (List.getElem_mem h1);rw[Zc h1,List.foldl_cons];have g:=t (i+1) (Z3Z k S hs[i]) (by omega) (by omega);have l:=Z1Z hs[i].c o2;have a:=Z2V hs[i].a o1 S;have b:=Z2V (Zb hs[i].c) (Zg2 o2) (addS S (Zj hs[i].a));have c:Z3Z k S hs[i]=if k=2 then S else addS (addS S (Zj hs[i].a)) (Zj (Zb hs[i].c)):=rfl;generalize Z3Z k S hs[i]=S2 at g c ⊢;generalize hs[i]=x at n c l a b;obtain⟨p,ha,hc⟩:=x;simp only at c l a b;refine At.tree (Qf Z1 (Z0c (e _ _ _ _ _))) (Ziv k (heL hs) (boL bs) (Tm.cellsL ts) a1 a2 a3 (Tm.cellsL a4) b1 b2 b3 (Tm.cellsL b4) c1 c2 c3 (Tm.cellsL c4) d1 d2 d3 (Tm.cellsL d4) (kS S) (uS S) (kS (addS S (Zj ha))) (uS (addS S (Zj ha))) (kS (addS (addS S (Zj ha)) (Zj (Zb hc)))) (uS (addS (addS S (Zj ha)) (Zj (Zb hc)))) hs.length i p (Tm.cellsL ha) (ltL hc) (Tm.cellsL (Zb hc))) ?_;simp only[SS];refine⟨λ_=>⟨⟨by omega,n⟩,λh=>?_,λh=>?_⟩,λh=>by omega⟩
  ·rw[if_neg (by omega)] at c;subst c;exact⟨a,l,b,by omega,g⟩
  ·rw[if_pos (by omega)] at c;subst c;exact⟨by omega,g⟩
theorem Z6O (hr:okR ⟨k,hs,.mk a1 a2 a3 a4,.mk b1 b2 b3 b4,bs,.mk c1 c2 c3 c4,.mk d1 d2 d3 d4,ts⟩):CF 17 [.agg (rC k (heL hs) (boL bs) (Tm.cellsL ts) a1 a2 a3 (Tm.cellsL a4) b1 b2 b3 (Tm.cellsL b4) c1 c2 c3 (Tm.cellsL c4) d1 d2 d3 (Tm.cellsL d4))] [] λr ob=>r=.map 0/\ob=[(0,setO (Zq ⟨k,hs,.mk a1 a2 a3 a4,.mk b1 b2 b3 b4,bs,.mk c1 c2 c3 c4,.mk d1 d2 d3 d4,ts⟩))]:=by
 have h1:=Z2V [.mk a1 a2 a3 a4,.mk b1 b2 b3 b4,.mk c1 c2 c3 c4,.mk d1 d2 d3 d4] hr.t4 [];have h2:=Z2V ts hr.tt (addS [] (Zj [.mk a1 a2 a3 a4,.mk b1 b2 b3 b4,.mk c1 c2 c3 c4,.mk d1 d2 d3 d4]));have hH:=Zgm k hs a1 a2 a3 a4 b1 b2 b3 b4 bs c1 c2 c3 c4 d1 d2 d3 d4 ts hr _ 0 (addS (addS [] (Zj [.mk a1 a2 a3 a4,.mk b1 b2 b3 b4,.mk c1 c2 c3 c4,.mk d1 d2 d3 d4])) (Zj ts)) rfl (Nat.zero_le _);unfold Zq;simp only;generalize addS [] (Zj [.mk a1 a2 a3 a4,.mk b1 b2 b3 b4,.mk c1 c2 c3 c4,.mk d1 d2 d3 d4])=S1 at h1 h2 hH ⊢;generalize addS S1 (Zj ts)=S2 at h2 hH ⊢;refine CallL.tree Z3 fp17 (Qf Z1 (Z0c ?_)) (Ztz k (heL hs) (boL bs) (Tm.cellsL ts) a1 a2 a3 (Tm.cellsL a4) b1 b2 b3 (Tm.cellsL b4) c1 c2 c3 (Tm.cellsL c4) d1 d2 d3 (Tm.cellsL d4) (kS S1) (uS S1) (kS S2) (uS S2)) ?_
 ·intro x hx;simp only[List.mem_cons,List.not_mem_nil,or_false] at hx;rcases hx with rfl|rfl|rfl|rfl
  ·exact Z0W
  ·exact Z0W
  ·exact Za _ _
  ·exact Za _ _
 ·unfold CGl;simp only[SS,Z3V];exact⟨h1,h2,hH⟩
abbrev endO (F:List Nm):Ob:=.gen (.mapS (kS F) (.agg [])) []
abbrev QU (F:List Nm):Exit->St->Prop:=FinQ false 0 rs19 λr ob=>r=.map 0/\ob=[(0,endO F)]
variable (hr:okR ⟨k,hs,.mk a1 a2 a3 a4,.mk b1 b2 b3 b4,bs,.mk c1 c2 c3 c4,.mk d1 d2 d3 d4,ts⟩) (G:List Nm) (hG:G.Nodup)
include hr hG
theorem ZtO (body:List Lt) (j:body.length<=281474976710656) (l: ∀ x∈body,okL x): ∀ (m i:Nat) (U:List Nm),U.Nodup->hs.length-i=m->i<=hs.length →
  At Tryz.prog 0 (cut sc19 2) ⟨tmU++[(60,.slice (heL hs) []),(61,.int .i64 hs.length),(62,.int .i64 i)],obU (rC k (heL hs) (boL bs) (Tm.cellsL ts) a1 a2 a3 (Tm.cellsL a4) b1 b2 b3 (Tm.cellsL b4) c1 c2 c3 (Tm.cellsL c4) d1 d2 d3 (Tm.cellsL d4)) (kS G) (uS G) (kS U) (uS U) (ltL body)⟩ (QU (ckS ((hs.drop i).foldl (Z2A k G) U) G (ZF [] body))):=by
 have c: ∀ (t vc s r u:List D),∀ x∈[((75:Nat),varQ),(76,asmA (.tuple []) (updK 1 (mO t vc))),(81,keyQ),(84,asmO (.map 1) [(0,mO [] []),(1,mO s r)]),(85,asmA (.tuple []) (updK 1 (.gen (.mapS u (.agg [])) [])))],x.2.OK:=λt vc s r u x hx=>by
  simp only[List.mem_cons,List.not_mem_nil,or_false] at hx;rcases hx with rfl|rfl|rfl|rfl|rfl
  ·exact Z0W
  ·exact Za _ _
  ·exact Z80
  ·exact Zw _ _
  ·exact Za _ _
 have d:=hr.h;have n:=hr.hl;simp only at d n;have o:=Z5Z body j l [] List.nodup_nil;generalize ZF [] body=B at o ⊢;intro m;induction m with
 |zero =>
  intro i U f hm hi;have hc:=Ze4 G U B f;refine At.tree (Qf Z1 (Z0c (c _ _ _ _ _))) (Zir k (heL hs) (boL bs) (Tm.cellsL ts) a1 a2 a3 (Tm.cellsL a4) b1 b2 b3 (Tm.cellsL b4) c1 c2 c3 (Tm.cellsL c4) d1 d2 d3 (Tm.cellsL d4) (kS G) (uS G) (kS U) (uS U) [] [] (kS B) (uS B) (kS (ckS U G B)) (ltL body) hs.length i [] [] []) ?_;rw[List.drop_eq_nil_of_le (by omega:hs.length<=i)];simp only[SS];exact⟨λh=>by omega,λ_=>⟨o,hc,rfl⟩⟩
 |succ m v =>
  intro i U f hm hi;have h1:i<hs.length:=by omega
  have q:=Z87 h1;obtain⟨o1,o2⟩:=d _ (List.getElem_mem h1);rw[Zc h1,List.foldl_cons];have g:(Z2A k G U hs[i]).Nodup:=Z8V k G [hs[i]] f;have e:=v (i+1) (Z2A k G U hs[i]) g (by omega) (by omega);have a:=Z2P G U hs[i].c hs[i].a o2 o1 hG;have b:Z2A k G U hs[i]=if k=2 then Z2q G U hs[i].c (Zj hs[i].a) else U:=rfl;generalize Z2A k G U hs[i]=U2 at e b ⊢;generalize hs[i]=x at q b a;obtain⟨p,ha,hc⟩:=x;simp only at b a;generalize Z2q G U hc (Zj ha)=U3 at b a;refine At.tree (Qf Z1 (Z0c (c _ _ _ _ _))) (Zir k (heL hs) (boL bs) (Tm.cellsL ts) a1 a2 a3 (Tm.cellsL a4) b1 b2 b3 (Tm.cellsL b4) c1 c2 c3 (Tm.cellsL c4) d1 d2 d3 (Tm.cellsL d4) (kS G) (uS G) (kS U) (uS U) (kS U3) (uS U3) (kS B) (uS B) (kS (ckS U G B)) (ltL body) hs.length i p (Tm.cellsL ha) (ltL hc)) ?_;simp only[SS];refine⟨λ_=>⟨⟨by omega,q⟩,λh=>?_,λh=>?_⟩,λh=>by omega⟩
  ·rw[if_pos (by omega)] at b;subst b;exact⟨a,by omega,e⟩
  ·rw[if_neg (by omega)] at b;subst b;exact⟨by omega,e⟩
theorem ZtP (body:List Lt) (i:Nat) (hi:(i:Int)+1<=9223372036854775807) (es:List El) (p:es.length<=281474976710656) (e: ∀ y∈es,okT y.t/\okC y.c) (F T:List Nm) (K:At Tryz.prog 0 (cut sc19 0) ⟨tmUb (boL bs) bs.length (i+1),obU (rC k (heL hs) (boL bs) (Tm.cellsL ts) a1 a2 a3 (Tm.cellsL a4) b1 b2 b3 (Tm.cellsL b4) c1 c2 c3 (Tm.cellsL c4) d1 d2 d3 (Tm.cellsL d4)) (kS G) (uS G) (kS T) (uS T) (ltL body)⟩ (QU F)): ∀ (m j:Nat) (U:List Nm),es.length-j=m->j<=es.length->(es.drop j).foldl (Z5d G) U=T →
  At Tryz.prog 0 (cut sc19 1) ⟨tmUb (boL bs) bs.length i++[(44,.slice (elL es) []),(45,.int .i64 es.length),(46,.int .i64 j)],obU (rC k (heL hs) (boL bs) (Tm.cellsL ts) a1 a2 a3 (Tm.cellsL a4) b1 b2 b3 (Tm.cellsL b4) c1 c2 c3 (Tm.cellsL c4) d1 d2 d3 (Tm.cellsL d4)) (kS G) (uS G) (kS U) (uS U) (ltL body)⟩ (QU F):=by
 have c: ∀ (n vc:List D),∀ x∈[((55:Nat),varQ),(56,asmA (.tuple []) (updK 1 (mO n vc)))],x.2.OK:=λn vc x hx=>by
  simp only[List.mem_cons,List.not_mem_nil,or_false] at hx;rcases hx with rfl|rfl
  ·exact Z0W
  ·exact Za _ _
 intro m;induction m with
 |zero =>
  intro j U hm q a;rw[List.drop_eq_nil_of_le (by omega:es.length<=j)] at a;have a:U=T:=a;subst a;refine At.tree (Qf Z1 (Z0c (c _ _))) (Zis k (heL hs) (boL bs) (Tm.cellsL ts) a1 a2 a3 (Tm.cellsL a4) b1 b2 b3 (Tm.cellsL b4) c1 c2 c3 (Tm.cellsL c4) d1 d2 d3 (Tm.cellsL d4) (kS G) (uS G) (kS U) (uS U) [] [] (ltL body) bs.length i (elL es) es.length j [] []) ?_;simp only[SS];exact⟨λh=>by omega,λ_=>⟨by omega,K⟩⟩
 |succ m r =>
  intro j U hm q a;have h1:j<es.length:=by omega
  have l:=ZdM h1;obtain⟨o1,o2⟩:=e _ (List.getElem_mem h1);rw[Zc h1,List.foldl_cons] at a;have b:=r (j+1) (Z5d G U es[j]) (by omega) (by omega) a;have d:=Z2P G U es[j].c es[j].t o2 o1 hG;have o:Z5d G U es[j]=Z2q G U es[j].c (Zj es[j].t):=rfl;rw[o] at b;generalize es[j]=x at l b d;obtain⟨g,f⟩:=x;simp only at b d;generalize Z2q G U f (Zj g)=U3 at b d;refine At.tree (Qf Z1 (Z0c (c _ _))) (Zis k (heL hs) (boL bs) (Tm.cellsL ts) a1 a2 a3 (Tm.cellsL a4) b1 b2 b3 (Tm.cellsL b4) c1 c2 c3 (Tm.cellsL c4) d1 d2 d3 (Tm.cellsL d4) (kS G) (uS G) (kS U) (uS U) (kS U3) (uS U3) (ltL body) bs.length i (elL es) es.length j (Tm.cellsL g) (ltL f)) ?_;simp only[SS];exact⟨λ_=>⟨⟨by omega,l⟩,d,by omega,b⟩,λh=>by omega⟩
theorem ZtQ: ∀ (m i:Nat) (U:List Nm) (body:List Lt),U.Nodup->body.length<=i->(∀ x∈body,okL x)->bs.length-i=m->i<=bs.length →
  At Tryz.prog 0 (cut sc19 0) ⟨tmUb (boL bs) bs.length i,obU (rC k (heL hs) (boL bs) (Tm.cellsL ts) a1 a2 a3 (Tm.cellsL a4) b1 b2 b3 (Tm.cellsL b4) c1 c2 c3 (Tm.cellsL c4) d1 d2 d3 (Tm.cellsL d4)) (kS G) (uS G) (kS U) (uS U) (ltL body)⟩ (QU (ckS (hs.foldl (Z2A k G) ((bs.drop i).foldl (Z0E G) (U,body)).1) G (ZF [] ((bs.drop i).foldl (Z0E G) (U,body)).2))):=by
 have y: ∀ (N vc:List D) (w:LD),∀ x∈[((39:Nat),asmW w),(40,asmA (.tuple []) (updK 1 (mO N vc)))],x.2.OK:=λN vc w x hx=>by
  simp only[List.mem_cons,List.not_mem_nil,or_false] at hx;rcases hx with rfl|rfl
  ·exact Z62 _
  ·exact Za _ _
 have v:=hr.b;have I:=hr.bl;have J:=hr.hl;simp only at v I J;intro m;induction m with
 |zero =>
  intro i U body C H a hm hi;have hH:=ZtO k hs a1 a2 a3 a4 b1 b2 b3 b4 bs c1 c2 c3 c4 d1 d2 d3 d4 ts hr G hG body (by omega) a _ 0 U C rfl (Nat.zero_le _);refine At.tree (Qf Z1 (Z0c (y _ _ _))) (Zit k (heL hs) (boL bs) (Tm.cellsL ts) a1 a2 a3 (Tm.cellsL a4) b1 b2 b3 (Tm.cellsL b4) c1 c2 c3 (Tm.cellsL c4) d1 d2 d3 (Tm.cellsL d4) (kS G) (uS G) (kS U) (uS U) [] [] (ltL body) bs.length i 0 0 true [] [] 0 0 0 [] [] 0 0 [] [] [] true 0 [] 0 0 0 [] [] []) ?_;rw[List.drop_eq_nil_of_le (by omega:bs.length<=i)];simp only[SS,Z3V];exact⟨λh=>by omega,λ_=>hH⟩
 |succ m X =>
  intro i U body C H a hm hi;have h1:i<bs.length:=by omega
  have M:=Z8w h1;obtain⟨o1,o2,o3,Y,o5⟩:=v _ (List.getElem_mem h1);rw[Zc h1,List.foldl_cons];have E:(Z0E G (U,body) bs[i]).1.Nodup:=Z5e G [bs[i]] C;have L:=Z1Z [bs[i].l] o1;have z:=Z2P G U bs[i].c (Zb [bs[i].l]) o3 (Zg2 o1) hG;have b:Z0E G (U,body) bs[i]=if bs[i].k=1 then (U,body++[bs[i].l]) else if bs[i].k=2 then (Z2q G U bs[i].c (Zj (Zb [bs[i].l])),body) else if bs[i].k=3 then (bs[i].e.foldl (Z5d G) U,body) else (U,body):=rfl;have c:(Z0E G (U,body) bs[i]).2.length<=i+1/\ ∀ x∈(Z0E G (U,body) bs[i]).2,okL x:=by
   rw[b];split
   ·refine⟨by simp only[List.length_append,List.length_cons,List.length_nil];omega,λx hx=>?_⟩;rcases List.mem_append.1 hx with hx|hx
    ·exact a x hx
    ·rw[List.mem_singleton] at hx;exact hx ▸ o1.2.1 _ (List.mem_cons_self ..)
   ·split
    ·exact⟨by simp only;omega,a⟩
    ·split
     ·exact⟨by simp only;omega,a⟩
     ·exact⟨by simp only;omega,a⟩
  have f:=X (i+1) (Z0E G (U,body) bs[i]).1 (Z0E G (U,body) bs[i]).2 E c.1 c.2 (by omega) (by omega);have d: ∀ (F T:List Nm) (K:At Tryz.prog 0 (cut sc19 0) ⟨tmUb (boL bs) bs.length (i+1),obU (rC k (heL hs) (boL bs) (Tm.cellsL ts) a1 a2 a3 (Tm.cellsL a4) b1 b2 b3 (Tm.cellsL b4) c1 c2 c3 (Tm.cellsL c4) d1 d2 d3 (Tm.cellsL d4)) (kS G) (uS G) (kS T) (uS T) (ltL body)⟩ (QU F)),bs[i].e.foldl (Z5d G) U=T->_:=λF T K S=>ZtP k hs a1 a2 a3 a4 b1 b2 b3 b4 bs c1 c2 c3 c4 d1 d2 d3 d4 ts hr G hG body i (by omega) bs[i].e Y o5 F T K _ 0 U rfl (Nat.zero_le _) S;generalize Z0E G (U,body) bs[i]=p at f b ⊢;generalize bs[i]=x at M b L z d;obtain⟨Q,⟨lk,ln,j,g,lo,⟨l,n,o,r⟩,⟨s,u,y3,y4⟩⟩,bc,A,P,O,B,⟨t1,t2,t3,t4⟩⟩:=x;simp only at b L z d;generalize V:Z2q G U bc (Zj (Zb [⟨lk,ln,j,g,lo,.mk l n o r,.mk s u y3 y4⟩]))=U3 at b z;refine At.tree (Qf Z1 (Z0c (y _ _ _))) (Zit k (heL hs) (boL bs) (Tm.cellsL ts) a1 a2 a3 (Tm.cellsL a4) b1 b2 b3 (Tm.cellsL b4) c1 c2 c3 (Tm.cellsL c4) d1 d2 d3 (Tm.cellsL d4) (kS G) (uS G) (kS U) (uS U) (kS U3) (uS U3) (ltL body) bs.length i Q lk ln j (Tm.cellsL g) lo l n o (Tm.cellsL r) s u y3 (Tm.cellsL y4) (ltL bc) A P (elL O) B t1 t2 t3 (Tm.cellsL t4) (Tm.cellsL (Zb [⟨lk,ln,j,g,lo,.mk l n o r,.mk s u y3 y4⟩]))) ?_;simp only[SS,Z5S,Z0I];refine⟨λ_=>⟨⟨by omega,M⟩,λh=>?_,λh=>⟨λh2=>?_,λh2=>⟨λR=>?_,λR=>?_⟩⟩⟩,λh=>by omega⟩
  ·rw[if_pos (by omega)] at b;subst b;have e:ltL (body++[⟨lk,ln,j,g,lo,.mk l n o r,.mk s u y3 y4⟩])=ltL body++ltL [⟨lk,ln,j,g,lo,.mk l n o r,.mk s u y3 y4⟩]:=by simp[ltL]
   simp only at f;rw[e] at f;have al:Ze 13 (ltL [⟨lk,ln,j,g,lo,.mk l n o r,.mk s u y3 y4⟩]):=λq W=>by
    obtain⟨t,_,rfl⟩:=List.mem_map.1 W;exact ZkP t
   exact⟨⟨al,by omega⟩,by omega,f⟩
  ·rw[if_neg (by omega),if_pos (by omega)] at b;subst b;exact⟨L,z,by omega,f⟩
  ·rw[if_neg (by omega),if_neg (by omega),if_pos (by omega)] at b;subst b;exact d _ _ f rfl
  ·rw[if_neg (by omega),if_neg (by omega),if_neg (by omega)] at b;subst b;exact⟨by omega,f⟩
omit hG in
theorem ZbB:CF 19 [.agg (rC k (heL hs) (boL bs) (Tm.cellsL ts) a1 a2 a3 (Tm.cellsL a4) b1 b2 b3 (Tm.cellsL b4) c1 c2 c3 (Tm.cellsL c4) d1 d2 d3 (Tm.cellsL d4))] [] λr ob=>r=.map 0/\ob=[(0,endO (ZV ⟨k,hs,.mk a1 a2 a3 a4,.mk b1 b2 b3 b4,bs,.mk c1 c2 c3 c4,.mk d1 d2 d3 d4,ts⟩))]:=by
 have b:=Z6O k hs a1 a2 a3 a4 b1 b2 b3 b4 bs c1 c2 c3 c4 d1 d2 d3 d4 ts hr;have a:=Z1A ⟨k,hs,.mk a1 a2 a3 a4,.mk b1 b2 b3 b4,bs,.mk c1 c2 c3 c4,.mk d1 d2 d3 d4,ts⟩;unfold ZV;generalize Zq ⟨k,hs,.mk a1 a2 a3 a4,.mk b1 b2 b3 b4,bs,.mk c1 c2 c3 c4,.mk d1 d2 d3 d4,ts⟩=G at b a ⊢;have c:=ZtQ k hs a1 a2 a3 a4 b1 b2 b3 b4 bs c1 c2 c3 c4 d1 d2 d3 d4 ts hr G a _ 0 [] [] List.nodup_nil (Nat.le_refl _) (λx hx=>by cases hx) rfl (Nat.zero_le _);refine CallL.tree Z3 fp19 (Qf Z1 (Z0c ?_)) (Ztg k (heL hs) (boL bs) (Tm.cellsL ts) a1 a2 a3 (Tm.cellsL a4) b1 b2 b3 (Tm.cellsL b4) c1 c2 c3 (Tm.cellsL c4) d1 d2 d3 (Tm.cellsL d4) (kS G) (uS G)) ?_
 ·intro x hx;simp only[List.mem_cons,List.not_mem_nil,or_false] at hx;subst hx;exact Zw _ _
 ·unfold CUn;simp only[SS,Q6];exact⟨b,c⟩
end
end Go.Proofs.YtaclfbhhekhflaaGreatDoor.S
/- Unsafe,proved;closed rules are of a modest size. -/
namespace Go.Proofs.YtaclfbhhekhflaaGreatDoor.S
open Go.Sx Go.RowKit
theorem Zmj (k:Int) (hs bs ts:LD) (a1 a2:Int) (a3:LU) (a4:LD) (b1 b2:Int) (b3:LU) (b4:LD) (c1 c2:Int) (c3:LU) (c4:LD) (d1 d2:Int) (d3:LU) (d4:LD) (a:List D):let A:=[(0,Ob.gen (Gen.mapS a (dA [])) [])];let B:=[dA (rC k hs bs ts a1 a2 a3 a4 b1 b2 b3 b4 c1 c2 c3 c4 d1 d2 d3 d4)];gP (ctr libT (QT.or (onF 19 (asmO (D.map 0) A)) (asmO D.nils A))) rs6 sc6 B=(Ow (CQ 19 B [] (D.map 0) A) (Ow (CQ 18 [D.map 0] A (D.nils) A) (Rt (dL [] []) [])):Tr):=by intro A B;kernel_rfl
theorem Zmk (k:Int) (hs bs ts:LD) (a1 a2:Int) (a3:LU) (a4:LD) (b1 b2:Int) (b3:LU) (b4:LD) (c1 c2:Int) (c3:LU) (c4:LD) (d1 d2:Int) (d3:LU) (d4:LD) (a:List D) (q:LD):let A:=(0,Ob.gen (Gen.mapS a (dA [])) []);let B:=[dA (rC k hs bs ts a1 a2 a3 a4 b1 b2 b3 b4 c1 c2 c3 c4 d1 d2 d3 d4)];let C:=[A,(1,oR false 1 9 q)];gP (ctr libT (QT.or (onF 19 (asmO (D.map 0) [A])) (asmO (dV 1) C))) rs6 sc6 B=(Ow (CQ 19 B [] (D.map 0) [A]) (Ow (CQ 18 [D.map 0] [A] (dV 1) C) (Rt (D.own 1 9 q) [])):Tr):=by intro A B C;kernel_rfl
def deK:D->Nm
 |.str s=>s
 |_=>[]
theorem Zl0 {F:List Nm} {ks:List D} (h:ks.Perm (kS F)): ∃ S:List Nm,S.Perm F/\ks=kS S:=by
 refine⟨ks.map deK,?_,?_⟩
 ·have:=h.map deK;have e:(kS F).map deK=F:=by
   unfold kS;rw[List.map_map];exact (List.map_congr_left λx _=>rfl).trans (List.map_id F)
  rwa [e] at this
 ·unfold kS;rw[List.map_map];refine (List.map_id ks).symm.trans (List.map_congr_left λx hx=>?_);have hx:=h.mem_iff.1 hx;obtain⟨s,_,rfl⟩:=List.mem_map.1 hx;rfl
theorem ZbF (S:List Nm):uS S=(kS S).map λ_=>dA []:=by simp[uS,kS]
def outE (F:List Nm):List Nm->D × Obs
 |[]=>(.nils,[(0,endO F)])
 |c::r=>(.vec 1,[(0,endO F),(1,.arr false 1 9 (strC (c::r)))])
theorem Zax (F:List Nm) (i:F.length<=1073741823) (b:F.Nodup):CF 18 [.map 0] [(0,endO F)] λr ob=>r=(outE F (srt F)).1/\ob=(outE F (srt F)).2:=by
 refine CallL.ofS λks hp=>?_;obtain⟨S,d,rfl⟩:=Zl0 hp;have a:=d.nodup_iff.2 b;have h:=Z3E S (by rw[d.length_eq];exact i) a;have e:srt S=srt F:=Z97 a b λx=>d.mem_iff;rw[e] at h;unfold setO at h;rw[ZbF] at h;refine h.wk λr o ⟨hr,f⟩=>?_;have g:(Ob.gen (.mapC (kS S) ((kS S).map λ_=>dA [])) []).wk (endO F):=Zhh (d.map _);generalize srt F=z at hr f ⊢;cases z with
 |nil =>
  refine⟨[(0,endO F)],⟨hr,rfl⟩,?_⟩;subst f;unfold outO setO;rw[ZbF];exact Obs.wk_cons g (Obs.wk_refl _)
 |cons c j =>
  refine⟨[(0,endO F),(1,.arr false 1 9 (strC (c::j)))],⟨hr,rfl⟩,?_⟩;subst f;unfold outO setO;rw[ZbF];exact Obs.wk_cons g (Obs.wk_cons (Ob.wk_refl _) (Obs.wk_refl _))
theorem Unsafe_ok (r:Ru) (hr:okR r) (d:(ZV r).length<=1073741823):FK 6 [.agg r.cs] (.slice (strC (srt (ZV r))) []):=by
 obtain⟨k,hs,⟨a1,a2,a3,a4⟩,⟨b1,b2,b3,b4⟩,bs,⟨c1,c2,c3,c4⟩,⟨d1,d2,d3,d4⟩,ts⟩:=r;have b:=ZbB k hs a1 a2 a3 a4 b1 b2 b3 b4 bs c1 c2 c3 c4 d1 d2 d3 d4 ts hr;have a:=Zax _ d (QW _);generalize ZV ⟨k,hs,.mk a1 a2 a3 a4,.mk b1 b2 b3 b4,bs,.mk c1 c2 c3 c4,.mk d1 d2 d3 d4,ts⟩=F at b a ⊢;generalize srt F=z at a ⊢;cases z with
 |nil =>
  refine FnOK.tree Z3 fp6 (Z2 Z1 (QT.or_ok (Z16 (Zw _ _)) (Zw _ _))) (Zmj k (heL hs) (boL bs) (Tm.cellsL ts) a1 a2 a3 (Tm.cellsL a4) b1 b2 b3 (Tm.cellsL b4) c1 c2 c3 (Tm.cellsL c4) d1 d2 d3 (Tm.cellsL d4) (kS F)) ?_;rw[Z4,Z4,Z7];exact⟨b,a,rfl⟩
 |cons c e =>
  refine FnOK.freezeT (ty:=9) (FnOK.tree Z3 fp6 (Z2 Z1 (QT.or_ok (Z16 (Zw _ _)) (Zw _ _))) (Zmk k (heL hs) (boL bs) (Tm.cellsL ts) a1 a2 a3 (Tm.cellsL a4) b1 b2 b3 (Tm.cellsL b4) c1 c2 c3 (Tm.cellsL c4) d1 d2 d3 (Tm.cellsL d4) (kS F) (strC (c::e))) ?_);rw[Z4,Z4,Z7];exact⟨b,a,rfl⟩
mutual
def smB:Tm->Bool
 |.mk k n s l=>decide (k<=255) && (decide (-1000000<=n) && (decide (n<=1000000) && (decide (s.length<=1000) && (decide (l.length<=1000) && smBL l))))
def smBL:List Tm->Bool
 |[]=>true
 |a::r=>smB a && smBL r
end
mutual
theorem Zhr: ∀ t:Tm,smB t=true->t.wf 281474976710656
 |.mk k n s l,h=>by
  simp only[smB,Bool.and_eq_true,decide_eq_true_eq] at h;obtain⟨h1,h2,b,c,d,a⟩:=h;exact⟨h1,by omega,by omega,by omega,by omega,Z7C l a⟩
theorem Z7C: ∀ l:List Tm,smBL l=true->Tm.wfL 281474976710656 l
 |[],_=>trivial
 |a::r,h=>by
  simp only[smBL,Bool.and_eq_true] at h;exact⟨Zhr a h.1,Z7C r h.2⟩
end
def tmB (t:Tm):Bool:=smB t && decide (t.vs.length<=1000)
theorem ZbJ {t:Tm} (h:tmB t=true):okt t:=by
 simp only[tmB,Bool.and_eq_true,decide_eq_true_eq] at h;exact⟨Zhr t h.1,by omega⟩
def tsB (l:List Tm):Bool:=decide (l.length<=1000) && l.all tmB
theorem Z6d {l:List Tm} (h:tsB l=true):okT l:=by
 simp only[tsB,Bool.and_eq_true,decide_eq_true_eq,List.all_eq_true] at h;exact⟨by omega,λx hx=>ZbJ (h.2 x hx)⟩
def ltB (x:Lt):Bool:=decide (x.a.length<=1000) && (smBL x.a && (decide ((Tm.vsL x.a).length<=1000) && (tmB x.l && tmB x.r)))
theorem ZhK {x:Lt} (h:ltB x=true):okL x:=by
 simp only[ltB,Bool.and_eq_true,decide_eq_true_eq] at h;obtain⟨h1,h2,c,a,b⟩:=h;exact⟨by omega,Z7C _ h2,by omega,ZbJ a,ZbJ b⟩
def lsB (l:List Lt):Bool:=decide (l.length<=1000) && (l.all ltB && decide ((Zb l).length<=1000))
theorem Z9z {l:List Lt} (h:lsB l=true):okC l:=by
 simp only[lsB,Bool.and_eq_true,decide_eq_true_eq,List.all_eq_true] at h;exact⟨by omega,λx hx=>ZhK (h.2.1 x hx),by omega⟩
def boB (x:Bo):Bool:=lsB [x.l] && (tsB [x.b] && (lsB x.c && (decide (x.e.length<=1000) && x.e.all λy=>tsB y.t && lsB y.c)))
def ruB (r:Ru):Bool:=tsB [r.lo,r.up,r.w,r.lv] && (tsB r.t && (decide (r.h.length<=1000) && ((r.h.all λx=>tsB x.a && lsB x.c) && (decide (r.b.length<=1000) && r.b.all boB))))
theorem Z9d {r:Ru} (h:ruB r=true):okR r:=by
 simp only[ruB,Bool.and_eq_true,decide_eq_true_eq,List.all_eq_true] at h;obtain⟨h1,h2,j,b,l,g⟩:=h;refine⟨Z6d h1,Z6d h2,by omega,λx hx=>⟨Z6d (b x hx).1,Z9z (b x hx).2⟩,by omega,λx hx=>?_⟩
 have:=g x hx;simp only[boB,Bool.and_eq_true,decide_eq_true_eq,List.all_eq_true] at this;obtain⟨d,e,f,i,a⟩:=this;exact⟨Z9z d,Z6d e,Z9z f,by omega,λy c=>⟨Z6d (a y c).1,Z9z (a y c).2⟩⟩
end Go.Proofs.YtaclfbhhekhflaaGreatDoor.S
/- SafetyOrder: trees. -/
namespace Go.Proofs.YtaclfbhhekhflaaGreatDoor.S
open Go.Sx Go.RowKit
def PPk (x n:Int):Tr:=brT (decide (n<(1:Int))) (Rt (dI 0) []) (Ow (n≠(0:Int)) (brT (decide (Int.tmod x n<(0:Int))) (I8 (Int.tmod x n+n) (Rt (dI (Int.tmod x n+n)) [])) (Rt (dI (Int.tmod x n)) [])))
theorem Zsr (x n:Int):gP (dCtr []) rs11 sc11 [dI x,dI n]=PPk x n:=by kernel_rfl
abbrev xC (k:Int) (a X:D) (ts:LD) (a1 a2:Int) (a3:LU) (a4:LD) (b1 b2:Int) (b3:LU) (b4:LD) (c1 c2:Int) (c3:LU) (c4:LD) (d1 d2:Int) (d3:LU) (d4:LD):List D:=[.int .u8 k,a,.int .u8 a1,.int .i64 a2,.str a3,.slice a4 [],.int .u8 b1,.int .i64 b2,.str b3,.slice b4 [],X,.int .u8 c1,.int .i64 c2,.str c3,.slice c4 [],.int .u8 d1,.int .i64 d2,.str d3,.slice d4 [],.slice ts []]
abbrev obO (R X:List D) (a:LD):Obs:=[(0,.cells R),(1,.cells X),(2,.arr false 23 45 a)]
abbrev obO2 (R X:List D) (es a:LD):Obs:=[(0,.cells R),(1,.cells X),(2,.arr true 2 67 es),(3,.arr false 23 45 a)]
theorem ZmJ (k:Int) (hs bs ts:LD) (a1 a2:Int) (a3:LU) (a4:LD) (b1 b2:Int) (b3:LU) (b4:LD) (c1 c2:Int) (c3:LU) (c4:LD) (d1 d2:Int) (d3:LU) (d4:LD) (b a:List D):let A:=[dA (rC k hs bs ts a1 a2 a3 a4 b1 b2 b3 b4 c1 c2 c3 c4 d1 d2 d3 d4)];let B:=[(0,Ob.gen (Gen.mapC b a) [])];let C:=[(0,mO b a)];gP (ctr libT (QT.or (onF 17 (asmO (D.map 0) C)) (asmO D.nils C))) rs5 sc5 A=(Ow (CQ 17 A [] (D.map 0) B) (Ow (CQ 18 [D.map 0] B (D.nils) B) (Rt (dL [] []) [])):Tr):=by intro A B C;kernel_rfl
theorem ZmK (k:Int) (hs bs ts:LD) (a1 a2:Int) (a3:LU) (a4:LD) (b1 b2:Int) (b3:LU) (b4:LD) (c1 c2:Int) (c3:LU) (c4:LD) (d1 d2:Int) (d3:LU) (d4:LD) (b a:List D) (q:LD):let A:=[dA (rC k hs bs ts a1 a2 a3 a4 b1 b2 b3 b4 c1 c2 c3 c4 d1 d2 d3 d4)];let B:=(0,Ob.gen (Gen.mapC b a) []);let C:=(1,oR false 1 9 q);let E:=(0,mO b a);gP (ctr libT (QT.or (onF 17 (asmO (D.map 0) [E])) (asmO (dV 1) [E,C]))) rs5 sc5 A=(Ow (CQ 17 A [] (D.map 0) [B]) (Ow (CQ 18 [D.map 0] [B] (dV 1) [B,C]) (Rt (D.own 1 9 q) [])):Tr):=by intro A B C E;kernel_rfl
end Go.Proofs.YtaclfbhhekhflaaGreatDoor.S
/- SizeRule,Safe: trees. -/
namespace Go.Proofs.YtaclfbhhekhflaaGreatDoor.S
open Go.Sx Go.RowKit
theorem Zsn (k:Int) (hs bs ts:LD) (a1 a2:Int) (a3:LU) (a4:LD) (b1 b2:Int) (b3:LU) (b4:LD) (c1 c2:Int) (c3:LU) (c4:LD) (d1 d2:Int) (d3:LU) (d4:LD) (m a b c d e:Int):let A:=rC k hs bs ts a1 a2 a3 a4 b1 b2 b3 b4 c1 c2 c3 c4 d1 d2 d3 d4;let B:=((1:Int)+a+b+c+d+e);gP (dCtr [(13,dI a),(18,dI b),(23,dI c),(28,dI d),(33,dI e)]) rs7 sc7 [dA A,dI m]=(Ow (FK 20 [dA (tC a1 a2 a3 a4),dI m] (dI a)) (I8 ((1:Int)+a) (Ow (FK 20 [dA (tC b1 b2 b3 b4),dI m] (dI b)) (I8 ((1:Int)+a+b) (Ow (FK 20 [dA (tC c1 c2 c3 c4),dI m] (dI c)) (I8 ((1:Int)+a+b+c) (Ow (FK 20 [dA (tC d1 d2 d3 d4),dI m] (dI d)) (I8 ((1:Int)+a+b+c+d) (Ow (FK 21 [dL ts [],dI m] (dI e)) (I8 B (Jm (cut sc7 0) {tm:=[(1,dI m),(2,dP 0 0),(5,dI B),(6,dI 0)],ob:=[(0,oC A)]})))))))))):Tr):=by intro A B;kernel_rfl
abbrev tmR (m n:Int) (e:Env):Env:=[(1,.int .i64 m),(2,.ptr 0 0),(5,.int .i64 n)]++e
theorem Z8F (k:Int) (hs bs ts:LD) (a1 a2:Int) (a3:LU) (a4:LD) (b1 b2:Int) (b3:LU) (b4:LD) (c1 c2:Int) (c3:LU) (c4:LD) (d1 d2:Int) (d3:LU) (d4:LD) (m n i a b:Int) (p:LU) (ha hc:LD):let A:=[(0,oC (rC k hs bs ts a1 a2 a3 a4 b1 b2 b3 b4 c1 c2 c3 c4 d1 d2 d3 d4))];let B:=[dS p,dL ha [],dL hc []];let C:=[(1,dI m),(2,dP 0 0),(5,dI n),(7,dI 0)];let E:=cut sc7 0;let F:=n+(a+b);let G:=(i+(1:Int));let H:=cut sc7 1;gH (dCtr [(57,dI a),(67,dI b)] [(51,B),(61,B)]) 0 true rs7 E {tm:=tmR m n [(6,dI i)],ob:=A}=(brT (decide (i<(↑(List.length hs):Int))) (brT (decide (n<=m)) (Ow ((0:Int)<=i/\hs[Int.toNat i]? = some B) (I8 (m-n) (Ow (FK 22 [dA [dS p,dL ha []],dI (m-n)] (dI a)) (Ow ((0:Int)<=i/\hs[Int.toNat i]? = some B) (I8 (m-n) (Ow (FK 23 [dL hc [],dI (m-n)] (dI b)) (I8 (a+b) (I8 F (I8 G (Jm E {tm:=[(1,dI m),(2,dP 0 0),(5,dI F),(6,dI G)],ob:=A})))))))))) (Jm H {tm:=C,ob:=A})) (Jm H {tm:=C,ob:=A}):Tr):=by intro A B C E F G H;kernel_rfl
theorem Z8H (k:Int) (hs bs ts:LD) (a1 a2:Int) (a3:LU) (a4:LD) (b1 b2:Int) (b3:LU) (b4:LD) (c1 c2:Int) (c3:LU) (c4:LD) (d1 d2:Int) (d3:LU) (d4:LD) (m n i g h v y j:Int) (l:Bool) (o:LU) (p:LD) (q r s:Int) (t:LU) (u:LD) (l10 b:Int) (c:LU) (d a:LD) (e:Bool) (x:Int) (w:LD) (f t1 t2:Int) (t3:LU) (t4:LD):let A:=bC y j l o p q r s t u l10 b c d a e x w f t1 t2 t3 t4;let B:=(0,oC (rC k hs bs ts a1 a2 a3 a4 b1 b2 b3 b4 c1 c2 c3 c4 d1 d2 d3 d4));let C:=((1:Int)+g+h+v);let E:=Rt (dI n) [];gH (dCtr [(94,dI g),(101,dI h),(108,dI v)] [(85,bC y j l o p q r s t u l10 b c d a e x w f t1 t2 t3 t4)]) 0 true rs7 (cut sc7 1) {tm:=tmR m n [(7,dI i)],ob:=[B]}=(brT (decide (i<(↑(List.length bs):Int))) (brT (decide (n<=m)) (Ow ((0:Int)<=i/\bs[Int.toNat i]? = some A) (I8 (m-n) (Ow (FK 23 [dL [[dU j,dB l,dS o,dL p [],dU q,dU r,dI s,dS t,dL u [],dU l10,dI b,dS c,dL d []]] [],dI (m-n)] (dI g)) (I8 ((1:Int)+g) (I8 (m-n) (Ow (FK 23 [dL a [],dI (m-n)] (dI h)) (I8 ((1:Int)+g+h) (I8 (m-n) (Ow (FK 20 [dA (tC t1 t2 t3 t4),dI (m-n)] (dI v)) (I8 C (I8 (n+C) (Jm (cut sc7 2) {tm:=[(1,dI m),(2,dP 0 0),(5,dI (n+C)),(7,dI i),(8,dP 1 0),(9,dI 0)],ob:=[B,(1,oC A)]})))))))))))) E) E:Tr):=by intro A B C E;kernel_rfl
theorem Z8G (k:Int) (hs bs ts:LD) (a1 a2:Int) (a3:LU) (a4:LD) (b1 b2:Int) (b3:LU) (b4:LD) (c1 c2:Int) (c3:LU) (c4:LD) (d1 d2:Int) (d3:LU) (d4:LD) (m n i j b l r s:Int) (t:Bool) (u:LU) (v:LD) (w x y:Int) (z:LU) (D:LD) (l10 f:Int) (g:LU) (h c:LD) (d:Bool) (q:Int) (a:LD) (e t1 t2:Int) (t3:LU) (t4 p o:LD):let A:=(0,oC (rC k hs bs ts a1 a2 a3 a4 b1 b2 b3 b4 c1 c2 c3 c4 d1 d2 d3 d4));let B:=[A,(1,oC (bC r s t u v w x y z D l10 f g h c d q a e t1 t2 t3 t4))];let C:=[dL p [],dL o []];let E:=[(1,dI m),(2,dP 0 0),(5,dI n),(7,dI (i+(1:Int)))];let F:=((1:Int)+b+l);let G:=cut sc7 2;let H:=(j+(1:Int));let I:=(i+(1:Int));let J:=cut sc7 1;gH (dCtr [(133,dI b),(144,dI l)] [(127,C),(138,C)]) 0 true rs7 G {tm:=tmR m n [(7,dI i),(8,dP 1 0),(9,dI j)],ob:=B}=(brT (decide (j<(↑(List.length a):Int))) (brT (decide (n<=m)) (Ow ((0:Int)<=j/\a[Int.toNat j]? = some C) (I8 (m-n) (Ow (FK 21 [dL p [],dI (m-n)] (dI b)) (I8 ((1:Int)+b) (Ow ((0:Int)<=j/\a[Int.toNat j]? = some C) (I8 (m-n) (Ow (FK 23 [dL o [],dI (m-n)] (dI l)) (I8 F (I8 (n+F) (I8 H (Jm G {tm:=[(1,dI m),(2,dP 0 0),(5,dI (n+F)),(7,dI i),(8,dP 1 0),(9,dI H)],ob:=B}))))))))))) (I8 I (Jm J {tm:=E,ob:=[A]}))) (I8 I (Jm J {tm:=E,ob:=[A]})):Tr):=by intro A B C E F G H I J;kernel_rfl
end Go.Proofs.YtaclfbhhekhflaaGreatDoor.S
