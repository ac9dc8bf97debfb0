/- Own work: a layer over the kit: plain data,a walk over it,its soundness. -/
import Derived.Test.YtaclfbhhekhflaaGreatDoorSafJ
set_option linter.all false
set_option maxRecDepth 100000
/- check,proved. -/
noncomputable section
namespace Go.Proofs.YtaclfbhhekhflaaGreatDoor.S
open Go.Sx Go.RowKit
theorem ckYT (x:Nm) (es:LD) (G U B:List Nm):CallL Tryz.prog (.yld 0) [.str x] ((0,Z5r (dsCk fT 1 2 3 4 5 6))::ZkH es (setO G) (setO U) (setO B)) λr ob=>r=.bool true/\ob=(0,Z5r (dsCk fT 1 2 3 4 5 6))::ZkH es (setO G) (setO (ckS U [x] B)) (setO B):=by
 have hh:=Zdi B x;have ha:=Z4s [x] (by simp) U;have e:ckS U [x] B=if x∈B then U else insS U x:=Za2 U x [] B;rw[e];refine CallL.yldT Z3 (Z2 Z1 (ZhZ _ _ _)) rfl (Zh5 x es (kS G) (uS G) (kS U) (uS U) (kS B) (uS B) (kS (insS U x)) (uS (insS U x)) (decide (x∈B))) ?_;rw[Z4,Zs];refine⟨hh,λh=>?_,λh=>?_⟩
 ·rw[Z4,Z4,Z7,if_neg (by simpa using h)];exact⟨trivial,ha,rfl,rfl⟩
 ·rw[Z7,if_pos (by simpa using h)];exact⟨rfl,rfl⟩
theorem ckYY (x:Nm) (G U B:List Nm) (l:List Nat) (cl:Nat):CallL Tryz.prog (.yld 0) [.str x] ((0,Z5r (dsCk fY 1 2 3 4 5 6))::ZkG (mbO (kS G) (uS G) l cl) (setO U) (setO B)) λr ob=>r=.bool true/\ob=(0,Z5r (dsCk fY 1 2 3 4 5 6))::ZkG (mbO (kS G) (uS G) l cl) (setO (ckS U [x] B)) (setO B):=by
 have hh:=Zdi B x;have ha:=Z4s [x] (by simp) U;have e:ckS U [x] B=if x∈B then U else insS U x:=Za2 U x [] B;rw[e];refine CallL.yldT Z3 (Z2 Z1 (ZhZ _ _ _)) rfl (Zh4 x (kS G) (uS G) (kS U) (uS U) (kS B) (uS B) (kS (insS U x)) (uS (insS U x)) l cl (decide (x∈B))) ?_;rw[Z4,Zs];refine⟨hh,λh=>?_,λh=>?_⟩
 ·rw[Z4,Z4,Z7,if_neg (by simpa using h)];exact⟨trivial,ha,rfl,rfl⟩
 ·rw[Z7,if_pos (by simpa using h)];exact⟨rfl,rfl⟩
theorem ZlI (es:LD) (V:List Nm) (mm b:Int) (G B:List Nm) (j:V.length<=1073741824) (R:D->Obs->Prop)
  (hi: -9223372036854775808<=b+1/\b+1<=9223372036854775807) (T:List Nm) (K:At Tryz.prog 7 (cut sc69 0) (hdVr es mm (b+1) (Z7R es (setO G) (setO T) (setO B))) (FinQ false 7 rs69 R)): ∀ (m i:Nat) (S:List Nm),V.length-i=m->i<=V.length->ckS S (V.drop i) B=T →
  At Tryz.prog 7 (cut sc69 1) (hdVj es (strC V) mm b V.length i (Z7R es (setO G) (setO S) (setO B))) (FinQ false 7 rs69 R):=by
 intro m;induction m with
 |zero =>
  intro i S hm c a;refine At.tree (Z2 Z1 (Za _ _)) (Zf0 es (strC V) (kS G) (uS G) (kS S) (uS S) (kS B) (uS B) [] [] mm b V.length i []) ?_;rw[List.drop_eq_nil_of_le (by omega:V.length<=i)] at a;have a:S=T:=a;subst a;rw[Zs];refine⟨λh=>?_,λ_=>?_⟩
  ·have:=of_decide_eq_true h;omega
  ·rw[Z4,Z6];exact⟨hi,K⟩
 |succ m g =>
  intro i S hm c a;have h1:i<V.length:=by omega
  have e:ckS S (V.drop i) B=ckS (ckS S [V[i]] B) (V.drop (i+1)) B:=by rw[<- Z8t,Zc h1];rfl
  rw[e] at a;have d:=g (i+1) (ckS S [V[i]] B) (by omega) (by omega) a;have f:=ckYT V[i] es G S B;generalize ckS S [V[i]] B=S2 at d f;refine At.tree (Z2 Z1 (Za _ _)) (Zf0 es (strC V) (kS G) (uS G) (kS S) (uS S) (kS B) (uS B) (kS S2) (uS S2) mm b V.length i V[i]) ?_;rw[Zs];refine⟨λ_=>?_,λh=>?_⟩
  ·rw[Z4,Int.toNat_natCast,Z4,Z4,Z6];exact⟨⟨by omega,Z1O h1⟩,f,by omega,d⟩
  ·have:=of_decide_eq_false h;omega
theorem ZrY (l:List Tm) (hl:okT l) (G B:List Nm): ∀ (m i:Nat) (S:List Nm),l.length-i=m->i<=l.length →
  At Tryz.prog 7 (cut sc69 0) (hdVr (Tm.cellsL l) l.length i (Z7R (Tm.cellsL l) (setO G) (setO S) (setO B))) (FinQ false 7 rs69 λr ob=>r=.tuple []/\ob=Z7R (Tm.cellsL l) (setO G) (setO (ckS S (Zj (l.drop i)) B)) (setO B)):=by
 intro m;have g:=hl.1;induction m with
 |zero =>
  intro i S hm hi;refine At.tree (Z2 (Zm _) Z0) (Zf1 (Tm.cellsL l) [] (kS G) (uS G) (kS S) (uS S) (kS B) (uS B) l.length i 0 0 [] []) ?_;rw[List.drop_eq_nil_of_le (by omega:l.length<=i),Zs];refine⟨λh=>?_,λ_=>⟨rfl,rfl⟩⟩
  have:=of_decide_eq_true h;omega
 |succ m j =>
  intro i S hm hi;have h1:i<l.length:=by omega
  have hx:(Tm.cellsL l)[i]? = some l[i].cells:=by rw[Zn];simp[h1]
  have c:=hl.2 _ (List.getElem_mem h1);have hv:=Z7r l[i] c.1 c.2;have e:=Zm6 l[i];have d:=j (i+1) (ckS S l[i].W B) (by omega) (by omega);have f:ckS S (Zj (l.drop i)) B=ckS (ckS S l[i].W B) (Zj (l.drop (i+1))) B:=by
   rw[Zc h1];unfold Zj;rw[List.flatMap_cons,Z8t]
  rw[f];have b:=ZlI (Tm.cellsL l) l[i].W l.length i G B (by omega) _ (by omega) _ d _ 0 S rfl (Nat.zero_le _) rfl;generalize Tm.W l[i]=V at hv b;generalize l[i]=x at hx hv;obtain⟨k,n,s,a⟩:=x;refine At.tree (Z2 (Zm _) Z0) (Zf1 (Tm.cellsL l) (strC V) (kS G) (uS G) (kS S) (uS S) (kS B) (uS B) l.length i k n s (Tm.cellsL a)) ?_;rw[Zs];refine⟨λ_=>?_,λh=>?_⟩
  ·rw[Z4,Int.toNat_natCast,Z4,Z6,Zp];exact⟨⟨by omega,hx⟩,hv,b⟩
  ·have:=of_decide_eq_false h;omega
theorem Z76 (l:List Tm) (hl:okT l) (G U B:List Nm):CF 47 [.agg [.map 0,.map 1],.func (.func fT) [] [.ptr 2 0],.map 3] [(0,setO G),(1,setO U),(2,.cells [.slice (Tm.cellsL l) []]),(3,setO B)] λr ob=>r=.tuple []/\ob=[(0,setO G),(1,setO (ckS U (Zj l) B)),(2,.cells [.slice (Tm.cellsL l) []]),(3,setO B)]:=by
 refine CallL.tree Z3 fp47 (Z2 Z1 (Za _ _)) (ZnP (kS G) (uS G) (kS U) (uS U) (kS B) (uS B) (kS (ckS U (Zj l) B)) (uS (ckS U (Zj l) B)) (Tm.cellsL l)) ?_;rw[Z4];refine⟨?_,rfl,rfl⟩;refine CallL.tree Z3 fp69 (Z2 Z1 Z0) (Ztd (Tm.cellsL l) (kS G) (uS G) (kS U) (uS U) (kS B) (uS B)) ?_;rw[Z6,Z5];exact ZrY l hl G B _ 0 U rfl (Nat.zero_le _)
theorem ZrZ (G U B:List Nm) (l:List Nat) (hl:l.length=G.length) (cl:Nat): ∀ (m:Nat) (ix:List Nat),ix.Nodup->(∀ i∈ix,i<G.length)->G.length-ix.length=m →
  swF Tryz.prog (6001+4001*m) 7 (cut sc73 0) ⟨[(0,.yld 1),(5,.ptr 7 0)],Z7Q (mbO (kS G) (uS G) l cl) (setO (ckS U (QG G ix) B)) (setO B)++[(7,itO l ix cl 2)]⟩ (FinQ false 7 rs73 λr ob=>r=.tuple []/\ ∃ q:List Nm,q.Perm G/\ob=Z7Q (setO G) (setO (ckS U q B)) (setO B)):=by
 intro m;induction m with
 |zero =>
  intro ix d c hm;have k:=Zgb d c;refine swF.tree (n0:=4001) (n:=2000) (Z2 Z1 Z0) (Zf5 (kS G) (uS G) (kS (ckS U (QG G ix) B)) (uS (ckS U (QG G ix) B)) (kS B) (uS B) l ix cl) ?_;rw[Z6,spc1];refine Qs ⟨7,l,ix,cl,2,kS G,uS G,rfl,rfl,rfl,by decide,λf=>⟨rfl,?_⟩,λi hi s=>⟨rfl,?_⟩⟩
  ·refine swF.tree (n0:=2000) (n:=2000) (Z2 Z1 Z0) (ZnJ (kS G) (uS G) (kS (ckS U (QG G ix) B)) (uS (ckS U (QG G ix) B)) (kS B) (uS B) l ix cl) ?_;rw[Z7];exact⟨rfl,_,Z2k d c λi hi=>f i (by omega),rfl⟩
  ·exact absurd (Z8e d c (by omega) i (by omega)) s
 |succ m u =>
  intro ix d c hm;have k:=Zgb d c;rw[show 6001+4001*(m+1)=(4000+4001*(m+1)+1)+2000 by omega];refine swF.tree (n0:=4000+4001*(m+1)+1) (n:=2000) (Z2 Z1 Z0) (Zf5 (kS G) (uS G) (kS (ckS U (QG G ix) B)) (uS (ckS U (QG G ix) B)) (kS B) (uS B) l ix cl) ?_;rw[Z6,spc1];refine Qs ⟨7,l,ix,cl,2,kS G,uS G,rfl,rfl,rfl,by decide,λf=>⟨rfl,?_⟩,λi hi s=>⟨rfl,?_⟩⟩
  ·have hp:=Z2k d c λi hi=>f i (by omega)
   have:=hp.length_eq;simp only[QG,List.length_map] at this;omega
  ·have g:i<G.length:=by omega
   have o:=u (ix++[i]) (by rw[List.nodup_append];exact⟨d,by simp,λa ha b t e=>by simp at t;subst t;subst e;exact s ha⟩) (λj h=>by
    rcases List.mem_append.1 h with h|h
    ·exact c j h
    ·simp at h;omega) (by simp;omega)
   have e:ckS U (QG G (ix++[i])) B=ckS (ckS U (QG G ix) B) [G.getD i []] B:=by rw[<- Z8t];simp[QG]
   rw[e] at o;have p:=ckYY (G.getD i []) G (ckS U (QG G ix) B) B l cl;have h1:=Zd9 g;have h2:=ZbG g;generalize ckS (ckS U (QG G ix) B) [G.getD i []] B=U2 at o p;generalize ckS U (QG G ix) B=U1 at p ⊢;rw[show 4000+4001*(m+1)=(6001+4001*m)+2000 by omega];refine swF.tree (n0:=6001+4001*m) (n:=2000) (Z2 Z1 (Za _ _)) (ZnI (kS G) (uS G) (kS U1) (uS U1) (kS B) (uS B) (kS U2) (uS U2) l (ix++[i]) cl (G.getD i [])) ?_;rw[Z4,Z4,Z6];refine⟨?_,p,o⟩;simp[extD,lk,h1,h2,kOK]
theorem Ze4 (G U B:List Nm) (b:U.Nodup):CF 47 [.agg [.map 0,.map 1],.func (.func fY) [] [.ptr 2 0],.map 3] [(0,setO G),(1,setO U),(2,.cells [.map 0]),(3,setO B)] λr ob=>r=.tuple []/\ob=[(0,setO G),(1,.gen (.mapS (kS (ckS U G B)) (.agg [])) []),(2,.cells [.map 0]),(3,setO B)]:=by
 refine CallL.tree Z3 fp47 (Z2 Z1 (Za _ _)) (ZnO (kS G) (uS G) (kS U) (uS U) (kS B) (uS B) (kS (ckS U G B))) ?_;rw[Z4];refine⟨?_,rfl,rfl⟩;have a:CallL Tryz.prog (.func (.func fY) [] [.ptr 0 0]) [.yld 1] (Z7Q (setO G) (setO U) (setO B)) λr ob=>r=.tuple []/\ ∃ q:List Nm,q.Perm G/\ob=Z7Q (setO G) (setO (ckS U q B)) (setO B):=by
  refine CallL.tree Z3 fp73 (Z2 Z1 Z0) (Ztv (kS G) (uS G) (kS U) (uS U) (kS B) (uS B)) ?_;rw[Z6,spc0];refine⟨_,Qs (n:=6001+4001*G.length+2000) ⟨2,kS G,uS G,rfl,rfl,rfl,(by show (2:Nat)≠12;decide),λl cl h1 h2 g=>⟨rfl,?_⟩⟩⟩;refine swF.tree (n0:=6001+4001*G.length) (n:=2000) (Z2 Z1 Z0) (ZnK (kS G) (uS G) (kS U) (uS U) (kS B) (uS B) l cl) ?_;rw[Z6];exact ZrZ G U B l (by rw[h1,Z9E]) cl _ [] List.nodup_nil (λi hi=>by simp at hi) rfl
 refine a.wk λr o ⟨hr,q,d,c⟩=>⟨Z7Q (setO G) (.gen (.mapS (kS (ckS U G B)) (.agg [])) []) (setO B),⟨hr,rfl⟩,?_⟩;subst c;have e: ∀ S:List Nm,uS S=(kS S).map λ_=>dA []:=λS=>by simp[uS,kS]
 have f:(setO (ckS U q B)).wk (.gen (.mapS (kS (ckS U G B)) (.agg [])) []):=by
  unfold setO;rw[e];exact Zhh ((ZgM b d).map _)
 exact Obs.wk_cons (Ob.wk_refl _) (Obs.wk_cons (Ob.wk_refl _) (Obs.wk_cons (Ob.wk_refl _) (Obs.wk_cons (Ob.wk_refl _) (Obs.wk_cons (Ob.wk_refl _) (Obs.wk_cons f (Obs.wk_cons (Ob.wk_refl _) (Obs.wk_refl _)))))))
end Go.Proofs.YtaclfbhhekhflaaGreatDoor.S
/- within,element,global,unsafe: trees. -/
namespace Go.Proofs.YtaclfbhhekhflaaGreatDoor.S
open Go.Sx Go.RowKit
theorem Zt9 (es ext:LD):gC (ctr libT) 0 rs43 sc43 [] [dL es ext] [] []=(Jm (cut sc43 0) {tm:=[(3,dV 0),(6,dL es ext),(7,dI (↑(List.length es):Int)),(8,dI 0)],ob:=[(0,oR true 4 25 [])]}:Tr):=by kernel_rfl
def hdWi (es ext rs:LD) (m i:Int):St:=⟨[(3,.vec 0),(6,.slice es ext),(7,.int .i64 m),(8,.int .i64 i)],[(0,.arr true 4 25 rs)]⟩
theorem ZeW (es ext rs:LD) (m i k:Int) (no:Bool) (p:LU) (a:LD) (op d nx:Int) (g:LU) (b:LD) (e f:Int) (h:LU) (c:LD):let A:=[(tC d nx g b),(tC e f h c)];let B:=cut sc43 0;let C:=(i+(1:Int));gH (ctr libT varQ (eOne (lC k no p a op d nx g b e f h c))) 0 false rs43 B (hdWi es ext rs m i)=(brT (decide (i<m)) (Ow ((0:Int)<=i/\es[Int.toNat i]? = some [dU k,dB no,dS p,dL a [],dU op,dU d,dI nx,dS g,dL b [],dU e,dI f,dS h,dL c []]) (Ow (Ze 4 a/\List.length rs+List.length a<=1073741824) (Ow (Ze 4 A/\List.length (rs++a)+2<=1073741824) (I8 C (Jm B {tm:=[(3,dV 0),(6,dL es ext),(7,dI m),(8,dI C)],ob:=[(0,oR true 4 25 (rs++a++A))]}))))) (Ow True (Rt (dF 69 [] [dP 0 0]) [(0,oC [dL rs []])])):Tr):=by intro A B C;kernel_rfl
def byT (l:List (Nat × QT)):Nat->QT:=λt=>match lk l t with
 |some q=>q
 |none=>Qr
theorem Z0c: ∀ {l:List (Nat × QT)},(∀ x∈l,x.2.OK)-> ∀ t,(byT l t).OK
 |[],_,t=>by unfold byT lk;exact Z0
 |(j,q)::r,h,t=>by
  have a:=Z0c (l:=r) (λx hx=>h x (List.mem_cons_of_mem _ hx)) t;unfold byT lk;by_cases e:t=j
  ·rw[if_pos e];exact h _ (List.mem_cons_self ..)
  ·rw[if_neg e];exact a
def asmW (w:LD):QT:=asmO (.func (.func fT) [] [.ptr 0 0]) [(0,.cells [.slice w []])]
theorem Z62 (w:LD):(asmW w).OK:=Zw _ _
def CEl (a gc g f b bc d vc wk e:List D) (c names w:LD):Tr:=Ow (CQ 31 [D.map 0,dL c []] [(0,Ob.gen (Gen.mapC a gc) [])] (D.map 1) [(0,Ob.gen (Gen.mapC a gc) []),(1,Ob.gen (Gen.mapC b bc) [])]) (Ow (CQ 47 [dA [D.map 0,D.map 1],dF 69 [] [dP 2 0],D.map 3] [(0,Ob.gen (Gen.mapC a gc) []),(1,Ob.gen (Gen.mapC g f) []),(2,oC [dL names []]),(3,Ob.gen (Gen.mapC b bc) [])] (D.tuple []) [(0,Ob.gen (Gen.mapC a gc) []),(1,Ob.gen (Gen.mapC d vc) []),(2,oC [dL names []]),(3,Ob.gen (Gen.mapC b bc) [])]) (Ow (CQ 43 [dL c []] [] (dF 69 [] [dP 0 0]) [(0,oC [dL w []])]) (Ow (CQ 47 [dA [D.map 0,D.map 1],dF 69 [] [dP 2 0],D.map 3] [(0,Ob.gen (Gen.mapC a gc) []),(1,Ob.gen (Gen.mapC d vc) []),(2,oC [dL w []]),(3,Ob.gen (Gen.mapC b bc) [])] (D.tuple []) [(0,Ob.gen (Gen.mapC a gc) []),(1,Ob.gen (Gen.mapC wk e) []),(2,oC [dL w []]),(3,Ob.gen (Gen.mapC b bc) [])]) (Rt (D.tuple []) [(0,Ob.gen (Gen.mapC a gc) []),(1,Ob.gen (Gen.mapC wk e) []),(2,oC [dL names []])]))))
theorem ZtD (a gc e d b bc f vc wk g:List D) (c names w:LD):gC (ctrS libT (byT [(10,asmO (D.map 1) [(0,mO a gc),(1,mO b bc)]),(14,asmA (D.tuple []) (updK 1 (mO f vc))),(17,asmW w),(19,asmA (D.tuple []) (updK 1 (mO wk g)))])) 3 rs46 sc46 [] [dA [D.map 0,D.map 1],dL c [],dF fT [] [dP 2 0]] [] [(0,mO a gc),(1,mO e d),(2,oC [dL names []])]=CEl a gc e d b bc f vc wk g c names w:=by kernel_rfl
abbrev rC (k:Int) (hs bs ts:LD) (a b:Int) (c:LU) (d:LD) (e f:Int) (g:LU) (h:LD) (c1 c2:Int) (c3:LU) (i:LD) (d1 d2:Int) (d3:LU) (d4:LD):List D:=[.int .u8 k,.slice hs [],.int .u8 a,.int .i64 b,.str c,.slice d [],.int .u8 e,.int .i64 f,.str g,.slice h [],.slice bs [],.int .u8 c1,.int .i64 c2,.str c3,.slice i [],.int .u8 d1,.int .i64 d2,.str d3,.slice d4 [],.slice ts []]
def CGl (k:Int) (hs bs ts:LD) (a b:Int) (c:LU) (d:LD) (e f:Int) (g:LU) (h:LD) (c1 c2:Int) (c3:LU) (i:LD) (d1 d2:Int) (d3:LU) (d4:LD) (l j m vc:List D):Tr:=Ow True (Ow (CQ 29 [D.map 0,dF 69 [] [dP 1 0]] [(0,Ob.gen (Gen.mapC [] []) []),(1,oC [dL [(tC a b c d),(tC e f g h),(tC c1 c2 c3 i),(tC d1 d2 d3 d4)] []])] (D.tuple []) [(0,Ob.gen (Gen.mapC l j) []),(1,oC [dL [(tC a b c d),(tC e f g h),(tC c1 c2 c3 i),(tC d1 d2 d3 d4)] []])]) (Ow True (Ow (CQ 29 [D.map 0,dF 69 [] [dP 1 0]] [(0,Ob.gen (Gen.mapC l j) []),(1,oC [dL ts []])] (D.tuple []) [(0,Ob.gen (Gen.mapC m vc) []),(1,oC [dL ts []])]) (Jm (cut sc17 0) {tm:=[(1,dP 0 0),(3,D.map 1),(27,dL hs []),(28,dI (↑(List.length hs):Int)),(29,dI 0)],ob:=[(0,oC (rC k hs bs ts a b c d e f g h c1 c2 c3 i d1 d2 d3 d4)),(1,Ob.gen (Gen.mapC m vc) [])]}))))
theorem Ztz (k:Int) (hs bs ts:LD) (a b:Int) (c:LU) (d:LD) (e f:Int) (g:LU) (h:LD) (c1 c2:Int) (c3:LU) (i:LD) (d1 d2:Int) (d3:LU) (d4:LD) (l j m vc:List D):gC (ctrS libT (byT [(19,varQ),(24,varQ),(20,asmA (D.tuple []) (updM l j)),(25,asmA (D.tuple []) (updM m vc))])) 0 rs17 sc17 [] [dA (rC k hs bs ts a b c d e f g h c1 c2 c3 i d1 d2 d3 d4)] [] []=CGl k hs bs ts a b c d e f g h c1 c2 c3 i d1 d2 d3 d4 l j m vc:=by kernel_rfl
def hdGh (R:List D) (hs:LD) (m i:Int) (b a:List D):St:=⟨[(1,.ptr 0 0),(3,.map 1),(27,.slice hs []),(28,.int .i64 m),(29,.int .i64 i)],[(0,.cells R),(1,mO b a)]⟩
theorem Ziv (k:Int) (hs bs ts:LD) (e f:Int) (g:LU) (h:LD) (j l:Int) (n:LU) (o:LD) (c1 c2:Int) (c3:LU) (q:LD) (d1 d2:Int) (d3:LU) (d4:LD) (b a c vc wk d:List D) (m i:Int) (p:LU) (ha hc w:LD):let A:=rC k hs bs ts e f g h j l n o c1 c2 c3 q d1 d2 d3 d4;let B:=[(1,dP 0 0),(3,D.map 1),(27,dL hs []),(28,dI m),(29,dI (i+(1:Int)))];let C:=D.tuple [];let E:=Gen.mapC b a;let F:=(0,Ob.gen (Gen.mapC c vc) []);let G:=[D.map 0,dF 69 [] [dP 1 0]];let H:=[dS p,dL ha [],dL hc []];let I:=cut sc17 0;let J:=(1,oC [dL ha []]);let K:=[dL w []];let L:=Gen.mapC wk d;let M:=(0,Ob.gen E []);let N:=(i+(1:Int));gH (ctrS libT (byT [(40,varQ),(41,asmA C (updM c vc)),(45,asmW w),(46,asmA C (updM wk d))]) (eOne H)) 0 false rs17 I (hdGh A hs m i b a)=(brT (decide (i<m)) (Ow ((0:Int)<=i/\hs[Int.toNat i]? = some H) (brT (!decide (k=(2:Int))) (Ow True (Ow (CQ 29 G [M,J] C [F,J]) (Ow (CQ 43 [dL hc []] [] (dF 69 [] [dP 0 0]) [(0,oC K)]) (Ow (CQ 29 G [F,(1,oC K)] C [(0,Ob.gen L []),(1,oC K)]) (I8 N (Jm I {tm:=B,ob:=[(0,oC A),(1,Ob.gen L [])]})))))) (I8 N (Jm I {tm:=B,ob:=[(0,oC A),(1,Ob.gen E [])]})))) (Jm (cut sc17 1) {tm:=[(3,D.map 0),(49,dL bs []),(50,dI (↑(List.length bs):Int)),(51,dI 0)],ob:=[M]}):Tr):=by intro A B C E F G H I J K L M N;kernel_rfl
def hdGb (bs:LD) (m i:Int) (b a:List D):St:=⟨[(3,.map 0),(49,.slice bs []),(50,.int .i64 m),(51,.int .i64 i)],[(0,mO b a)]⟩
abbrev bC (k:Int) (g:Int) (h:Bool) (i:LU) (j:LD) (l:Int) (m n:Int) (o:LU) (p:LD) (l10 a:Int) (b:LU) (d:LD) (c:LD) (no:Bool) (f:Int) (e:LD) (op:Int) (t1 t2:Int) (t3:LU) (t4:LD):List D:=[.int .u8 k,.int .u8 g,.bool h,.str i,.slice j [],.int .u8 l,.int .u8 m,.int .i64 n,.str o,.slice p [],.int .u8 l10,.int .i64 a,.str b,.slice d [],.slice c [],.bool no,.int .u8 f,.slice e [],.int .u8 op,.int .u8 t1,.int .i64 t2,.str t3,.slice t4 []]
theorem Zf7 (bs:LD) (t s u vc:List D) (m i k g:Int) (h:Bool) (j:LU) (l:LD) (n o p:Int) (q:LU) (r:LD) (l10 a:Int) (b:LU) (d c:LD) (no:Bool) (f:Int) (e:LD) (op t1 t2:Int) (t3:LU) (t4 w:LD):let A:=[(3,D.map 0),(49,dL bs []),(50,dI m),(51,dI (i+(1:Int)))];let B:=(0,Ob.gen (Gen.mapC t s) []);let C:=(0,Ob.gen (Gen.mapC u vc) []);let E:=D.tuple [];let F:=cut sc17 1;let G:=(1,oC [dL [(tC t1 t2 t3 t4)] []]);let H:=[D.map 0,dF 69 [] [dP 1 0]];let I:=(i+(1:Int));let J:=[dL w []];let K:=updM u vc;gH (ctrS libT (byT [(63,asmW w),(64,asmA E K),(71,varQ),(72,asmA E K)]) (eOne (bC k g h j l n o p q r l10 a b d c no f e op t1 t2 t3 t4))) 0 false rs17 F (hdGb bs m i t s)=(brT (decide (i<m)) (Ow ((0:Int)<=i/\bs[Int.toNat i]? = some [dU k,dU g,dB h,dS j,dL l [],dU n,dU o,dI p,dS q,dL r [],dU l10,dI a,dS b,dL d [],dL c [],dB no,dU f,dL e [],dU op,dU t1,dI t2,dS t3,dL t4 []]) (brT (decide (k=(1:Int))) (Ow (CQ 43 [dL [[dU g,dB h,dS j,dL l [],dU n,dU o,dI p,dS q,dL r [],dU l10,dI a,dS b,dL d []]] []] [] (dF 69 [] [dP 0 0]) [(0,oC J)]) (Ow (CQ 29 H [B,(1,oC J)] E [C,(1,oC J)]) (I8 I (Jm F {tm:=A,ob:=[C]})))) (brT (decide (k=(3:Int))) (Ow True (Ow (CQ 29 H [B,G] E [C,G]) (I8 I (Jm F {tm:=A,ob:=[C]})))) (I8 I (Jm F {tm:=A,ob:=[B]}))))) (Rt (D.map 0) [B]):Tr):=by intro A B C E F G H I J K;kernel_rfl
end Go.Proofs.YtaclfbhhekhflaaGreatDoor.S
/- unsafe: trees. -/
namespace Go.Proofs.YtaclfbhhekhflaaGreatDoor.S
open Go.Sx Go.RowKit
def CUn (k:Int) (hs bs ts:LD) (a b:Int) (c:LU) (d:LD) (e f:Int) (g:LU) (h:LD) (c1 c2:Int) (c3:LU) (i:LD) (d1 d2:Int) (d3:LU) (d4:LD) (j gc:List D):Tr:=Ow (CQ 17 [dA (rC k hs bs ts a b c d e f g h c1 c2 c3 i d1 d2 d3 d4)] [] (D.map 0) [(0,Ob.gen (Gen.mapC j gc) [])]) (Jm (cut sc19 0) {tm:=[(1,dP 0 0),(3,dP 1 0),(4,dV 2),(16,dL bs []),(17,dI (↑(List.length bs):Int)),(18,dI 0)],ob:=[(0,oC (rC k hs bs ts a b c d e f g h c1 c2 c3 i d1 d2 d3 d4)),(1,oC [D.map 3,D.map 4]),(2,oR true 13 41 []),(3,Ob.gen (Gen.mapC j gc) []),(4,Ob.gen (Gen.mapC [] []) [])]})
theorem Ztg (k:Int) (hs bs ts:LD) (a b:Int) (c:LU) (d:LD) (e f:Int) (g:LU) (h:LD) (c1 c2:Int) (c3:LU) (i:LD) (d1 d2:Int) (d3:LU) (d4:LD) (j gc:List D):gC (ctrS libT (byT [(12,asmO (D.map 0) [(0,mO j gc)])])) 0 rs19 sc19 [] [dA (rC k hs bs ts a b c d e f g h c1 c2 c3 i d1 d2 d3 d4)] [] []=CUn k hs bs ts a b c d e f g h c1 c2 c3 i d1 d2 d3 d4 j gc:=by kernel_rfl
def obU (R:List D) (a gc c b:List D) (body:LD):Obs:=[(0,.cells R),(1,.cells [.map 3,.map 4]),(2,.arr true 13 41 body),(3,mO a gc),(4,mO c b)]
def tmU:Env:=[(1,.ptr 0 0),(3,.ptr 1 0),(4,.vec 2)]
def tmUb (bs:LD) (m i:Int):Env:=tmU++[(16,.slice bs []),(17,.int .i64 m),(18,.int .i64 i)]
theorem Zit (k:Int) (hs bs ts:LD) (o p:Int) (q:LU) (r:LD) (s t:Int) (u:LU) (v:LD) (c1 c2:Int) (c3:LU) (x:LD) (d1 d2:Int) (d3:LU) (d4:LD) (j gc n l X vc:List D) (body:LD) (m i e y:Int) (z:Bool) (Q:LU) (R:LD) (S T U:Int) (V:LU) (W:LD) (l10 b:Int) (c:LU) (d a:LD) (g:Bool) (Y:Int) (f:LD) (h t1 t2:Int) (t3:LU) (t4 w:LD):let A:=[(0,oC (rC k hs bs ts o p q r s t u v c1 c2 c3 x d1 d2 d3 d4)),(1,oC [D.map 3,D.map 4]),(2,oR true 13 41 body),(3,Ob.gen (Gen.mapC j gc) []),(4,Ob.gen (Gen.mapC n l) [])];let B:=[[dU y,dB z,dS Q,dL R [],dU S,dU T,dI U,dS V,dL W [],dU l10,dI b,dS c,dL d []]];let C:=[(1,dP 0 0),(3,dP 1 0),(4,dV 2),(16,dL bs []),(17,dI m),(18,dI (i+(1:Int)))];let E:=rC k hs bs ts o p q r s t u v c1 c2 c3 x d1 d2 d3 d4;let F:=bC e y z Q R S T U V W l10 b c d a g Y f h t1 t2 t3 t4;let G:=Gen.mapC j gc;let H:=cut sc19 0;let I:=(1,oC [D.map 3,D.map 4]);let J:=(i+(1:Int));let K:=[dL w []];let L:=Gen.mapC n l;let M:=Gen.mapC X vc;let N:=(3,Ob.gen G []);let O:=(0,Ob.gen G []);let P:=D.tuple [];gH (ctrS libT (byT [(39,asmW w),(40,asmA P (updK 1 (mO X vc)))]) (eOne F)) 0 false rs19 H {tm:=tmUb bs m i,ob:=obU E j gc n l body}=(brT (decide (i<m)) (Ow ((0:Int)<=i/\bs[Int.toNat i]? = some F) (brT (decide (e=(1:Int))) (Ow (Ze 13 B/\List.length body+1<=1073741824) (I8 J (Jm H {tm:=C,ob:=[(0,oC E),I,(2,oR true 13 41 (body++B)),N,(4,Ob.gen L [])]}))) (brT (decide (e=(2:Int))) (Ow (CQ 43 [dL B []] [] (dF 69 [] [dP 0 0]) [(0,oC K)]) (Ow (CQ 46 [dA [D.map 0,D.map 1],dL a [],dF 69 [] [dP 2 0]] [O,(1,Ob.gen L []),(2,oC K)] P [O,(1,Ob.gen M []),(2,oC K)]) (I8 J (Jm H {tm:=C,ob:=[(0,oC E),I,(2,oR true 13 41 body),N,(4,Ob.gen M [])]})))) (brT (decide (e=(3:Int))) (Jm (cut sc19 1) {tm:=[(1,dP 0 0),(3,dP 1 0),(4,dV 2),(16,dL bs []),(17,dI m),(18,dI i),(44,dL f []),(45,dI (↑(List.length f):Int)),(46,dI 0)],ob:=A}) (I8 J (Jm H {tm:=C,ob:=A})))))) (Jm (cut sc19 2) {tm:=[(1,dP 0 0),(3,dP 1 0),(4,dV 2),(60,dL hs []),(61,dI (↑(List.length hs):Int)),(62,dI 0)],ob:=A}):Tr):=by intro A B C E F G H I J K L M N O P;kernel_rfl
theorem Zis (k:Int) (hs bs ts:LD) (j l:Int) (n:LU) (o:LD) (p q:Int) (r:LU) (s:LD) (c1 c2:Int) (c3:LU) (t:LD) (d1 d2:Int) (d3:LU) (d4:LD) (e gc g f h vc:List D) (body:LD) (m i:Int) (es:LD) (b a:Int) (d c:LD):let A:=rC k hs bs ts j l n o p q r s c1 c2 c3 t d1 d2 d3 d4;let B:=Gen.mapC e gc;let C:=(1,oC [D.map 3,D.map 4]);let E:=(2,oR true 13 41 body);let F:=[dL d [],dL c []];let G:=(2,oC [dL d []]);let H:=Gen.mapC g f;let I:=Gen.mapC h vc;let J:=(0,Ob.gen B []);let K:=(3,Ob.gen B []);let L:=(44,dL es []);let M:=(16,dL bs []);let N:=D.tuple [];let O:=cut sc19 1;let P:=(a+(1:Int));let Q:=(i+(1:Int));gH (ctrS libT (byT [(55,varQ),(56,asmA N (updK 1 (mO h vc)))]) (eOne F)) 0 false rs19 O {tm:=tmUb bs m i++[L,(45,dI b),(46,dI a)],ob:=obU A e gc g f body}=(brT (decide (a<b)) (Ow ((0:Int)<=a/\es[Int.toNat a]? = some F) (Ow True (Ow (CQ 46 [dA [D.map 0,D.map 1],dL c [],dF 69 [] [dP 2 0]] [J,(1,Ob.gen H []),G] N [J,(1,Ob.gen I []),G]) (I8 P (Jm O {tm:=[(1,dP 0 0),(3,dP 1 0),(4,dV 2),M,(17,dI m),(18,dI i),L,(45,dI b),(46,dI P)],ob:=[(0,oC A),C,E,K,(4,Ob.gen I [])]}))))) (I8 Q (Jm (cut sc19 0) {tm:=[(1,dP 0 0),(3,dP 1 0),(4,dV 2),M,(17,dI m),(18,dI Q)],ob:=[(0,oC A),C,E,K,(4,Ob.gen H [])]})):Tr):=by intro A B C E F G H I J K L M N O P Q;kernel_rfl
theorem Zir (k:Int) (hs bs ts:LD) (g h:Int) (j:LU) (l:LD) (n o:Int) (q:LU) (r:LD) (c1 c2:Int) (c3:LU) (s:LD) (d1 d2:Int) (d3:LU) (d4:LD) (a gc e d f vc c b t:List D) (body:LD) (m i:Int) (p:LU) (ha hc:LD):let A:=rC k hs bs ts g h j l n o q r c1 c2 c3 s d1 d2 d3 d4;let B:=(0,Ob.gen (Gen.mapC a gc) []);let C:=[(1,dP 0 0),(3,dP 1 0),(4,dV 2),(60,dL hs []),(61,dI m),(62,dI (i+(1:Int)))];let E:=Gen.mapS t (dA []);let F:=D.tuple [];let G:=Gen.mapC e d;let H:=Gen.mapC c b;let I:=(3,Ob.gen (Gen.mapC a gc) []);let J:=(0,Ob.gen (Gen.mapC [] []) []);let K:=[dS p,dL ha [],dL hc []];let L:=(1,oC [D.map 3,D.map 4]);let M:=cut sc19 2;let N:=(2,oR true 13 41 body);let O:=[D.map 0,D.map 1];let P:=(2,oC [dL ha []]);let Q:=Gen.mapC f vc;let R:=(2,oC [D.map 0]);let S:=(1,Ob.gen G []);let T:=(3,Ob.gen H []);let U:=(i+(1:Int));gH (ctrS libT (byT [(75,varQ),(76,asmA F (updK 1 (mO f vc))),(81,keyQ),(84,asmO (D.map 1) [(0,mO [] []),(1,mO c b)]),(85,asmA F (updK 1 (Ob.gen E [])))]) (eOne K)) 0 false rs19 M {tm:=tmU++[(60,dL hs []),(61,dI m),(62,dI i)],ob:=obU A a gc e d body}=(brT (decide (i<m)) (Ow ((0:Int)<=i/\hs[Int.toNat i]? = some K) (brT (decide (k=(2:Int))) (Ow True (Ow (CQ 46 [dA O,dL hc [],dF 69 [] [dP 2 0]] [B,S,P] F [B,(1,Ob.gen Q []),P]) (I8 U (Jm M {tm:=C,ob:=[(0,oC A),L,N,I,(4,Ob.gen Q [])]})))) (I8 U (Jm M {tm:=C,ob:=[(0,oC A),L,N,I,(4,Ob.gen G [])]})))) (Ow True (Ow (CQ 31 [D.map 0,dL body []] [J] (D.map 1) [J,(1,Ob.gen H [])]) (Ow (CQ 47 [dA O,dF 73 [] [dP 2 0],D.map 3] [B,S,R,T] F [B,(1,Ob.gen E []),R,T]) (Rt (D.map 0) [(0,Ob.gen E [])])))):Tr):=by intro A B C E F G H I J K L M N O P Q R S T U;kernel_rfl
end Go.Proofs.YtaclfbhhekhflaaGreatDoor.S
/- within,element,global,proved. -/
namespace Go.Proofs.YtaclfbhhekhflaaGreatDoor.S
open Go.Sx Go.RowKit
theorem Z3q (a b:List Lt):Zb (a++b)=Zb a++Zb b:=by simp[Zb]
theorem al4 (l:List Tm):Ze 4 (Tm.cellsL l):=by
 intro q a;rw[Zn] at a;obtain⟨t,_,rfl⟩:=List.mem_map.1 a;exact Qq t
theorem Qc (a b:List Tm):Tm.cellsL (a++b)=Tm.cellsL a++Tm.cellsL b:=by simp[Zn]
theorem Zbw (l:List Lt) (hl:l.length<=281474976710656) (u:(Zb l).length<=1073741824): ∀ (m i:Nat),l.length-i=m->i<=l.length →
  At Tryz.prog 0 (cut sc43 0) (hdWi (ltL l) [] (Tm.cellsL (Zb (l.take i))) l.length i) (FinQ false 0 rs43 λr ob=>r=.func (.func fT) [] [.ptr 0 0]/\ob=[(0,.cells [.slice (Tm.cellsL (Zb l)) []])]):=by
 intro m;induction m with
 |zero =>
  intro i hm hi;refine At.tree (Z2 Z1 Z0W) (ZeW (ltL l) [] (Tm.cellsL (Zb (l.take i))) l.length i 0 true [] [] 0 0 0 [] [] 0 0 [] []) ?_;rw[List.take_of_length_le (by omega:l.length<=i),Zs];refine⟨λh=>?_,λ_=>?_⟩
  ·have:=of_decide_eq_true h;omega
  ·rw[Z4,Z7];exact⟨trivial,rfl,rfl⟩
 |succ m v =>
  intro i hm hi;have h1:i<l.length:=by omega
  have c:=v (i+1) (by omega) (by omega);have g:=Z7T h1;have t:Zb (l.take (i+1))=Zb (l.take i)++(l[i].a++[l[i].l,l[i].r]):=by
   rw[List.take_add_one,List.getElem?_eq_getElem h1,Z3q];simp[Zb]
  have b:(Zb (l.take (i+1))).length<=1073741824:=by
   have e:Zb l=Zb (l.take (i+1))++Zb (l.drop (i+1)):=by rw[<- Z3q,List.take_append_drop]
   rw[e,List.length_append] at u;omega
  rw[t] at c b;generalize Zb (l.take i)=R at c b ⊢;generalize l[i]=x at g c b;obtain⟨k,no,p,a,op,⟨j,nx,q,d⟩,⟨n,o,s,f⟩⟩:=x;simp only[List.length_append,List.length_cons,List.length_nil] at b;rw[<- List.append_assoc,Qc,Qc] at c;refine At.tree (Z2 Z1 Z0W) (ZeW (ltL l) [] (Tm.cellsL R) l.length i k no p (Tm.cellsL a) op j nx q (Tm.cellsL d) n o s (Tm.cellsL f)) ?_;rw[Zs];refine⟨λ_=>?_,λh=>?_⟩
  ·rw[Z4,Int.toNat_natCast,Z4,Z4,Z4,Z6,List.length_append,Z5,Z5];exact⟨⟨by omega,g⟩,⟨al4 a,by omega⟩,⟨al4 [.mk j nx q d,.mk n o s f],by omega⟩,by omega,c⟩
  ·have:=of_decide_eq_false h;omega
def okC (l:List Lt):Prop:=l.length<=1000000/\(∀ x∈l,okL x)/\(Zb l).length<=1073741824
theorem Zg2 {l:List Lt} (h:okC l):okT (Zb l):=by
 refine⟨by have:=h.2.2;omega,λt a=>?_⟩;obtain⟨x,hx,a⟩:=List.mem_flatMap.1 a;obtain⟨h1,h2,b,c,d⟩:=h.2.1 x hx;rcases List.mem_append.1 a with a|a
 ·exact⟨Qe.1 h2 t a,Nat.le_trans (Z59 a) b⟩
 ·rcases List.mem_cons.1 a with rfl|a
  ·exact c
  ·rw[List.mem_singleton] at a;exact a ▸ d
theorem Z1Z (l:List Lt) (hc:okC l):CF 43 [.slice (ltL l) []] [] λr ob=>r=.func (.func fT) [] [.ptr 0 0]/\ob=[(0,.cells [.slice (Tm.cellsL (Zb l)) []])]:=by
 have h1:=hc.1;refine CallL.tree Z3 fp43 (Z2 Z1 Z0) (Zt9 (ltL l) []) ?_;rw[Z6,Z0I];exact Zbw l (by omega) hc.2.2 _ 0 rfl (Nat.zero_le _)
theorem Z2P (G U:List Nm) (c:List Lt) (names:List Tm) (hc:okC c) (d:okT names) (b:G.Nodup):CF 46 [.agg [.map 0,.map 1],.slice (ltL c) [],.func (.func fT) [] [.ptr 2 0]] [(0,setO G),(1,setO U),(2,.cells [.slice (Tm.cellsL names) []])] λr ob=>r=.tuple []/\ob=[(0,setO G),(1,setO (Z2q G U c (Zj names))),(2,.cells [.slice (Tm.cellsL names) []])]:=by
 have a:=Z5Z c (by have:=hc.1;omega) hc.2.1 G b;have h1:=Z76 names d G U (ZF G c);have e:=Z1Z c hc;have h2:=Z76 (Zb c) (Zg2 hc) G (ckS U (Zj names) (ZF G c)) (ZF G c);show CallL _ _ _ _ λr ob=>r=.tuple []/\ob=[(0,setO G),(1,setO (ckS (ckS U (Zj names) (ZF G c)) (Zj (Zb c)) (ZF G c))),(2,.cells [.slice (Tm.cellsL names) []])];generalize ZF G c=B at a h1 h2 ⊢;generalize ckS U (Zj names) B=U1 at h1 h2 ⊢;generalize ckS U1 (Zj (Zb c)) B=U2 at h2 ⊢;refine CallL.tree Z3 fp46 (Qf Z1 (Z0c ?_)) (ZtD (kS G) (uS G) (kS U) (uS U) (kS B) (uS B) (kS U1) (uS U1) (kS U2) (uS U2) (ltL c) (Tm.cellsL names) (Tm.cellsL (Zb c))) ?_
 ·intro x hx;simp only[List.mem_cons,List.not_mem_nil,or_false] at hx;rcases hx with rfl|rfl|rfl|rfl
  ·exact Zw _ _
  ·exact Za _ _
  ·exact Z62 _
  ·exact Za _ _
 ·unfold CEl;rw[Z4,Z4,Z4,Z4,Z7];exact⟨a,h1,e,h2,rfl,rfl⟩
structure okR (r:Ru):Prop where
 t4:okT [r.lo,r.up,r.w,r.lv]
 tt:okT r.t
 hl:r.h.length<=281474976710656
 h: ∀ x∈r.h,okT x.a/\okC x.c
 bl:r.b.length<=1000000
 b: ∀ x∈r.b,okC [x.l]/\okT [x.b]/\okC x.c/\x.e.length<=281474976710656/\ ∀ y∈x.e,okT y.t/\okC y.c
theorem Zgn (bs:List Bo) (hl:bs.length<=1000000) (B: ∀ x∈bs,okC [x.l]/\okT [x.b]): ∀ (m i:Nat) (S:List Nm),bs.length-i=m->i<=bs.length →
  At Tryz.prog 0 (cut sc17 1) (hdGb (boL bs) bs.length i (kS S) (uS S)) (FinQ false 0 rs17 λr ob=>r=.map 0/\ob=[(0,setO ((bs.drop i).foldl Z40 S))]):=by
 have b: ∀ (y vc:List D) (w:LD),∀ x∈[((63:Nat),asmW w),(64,asmA (.tuple []) (updM y vc)),(71,varQ),(72,asmA (.tuple []) (updM y vc))],x.2.OK:=λy vc w x hx=>by
  simp only[List.mem_cons,List.not_mem_nil,or_false] at hx;rcases hx with rfl|rfl|rfl|rfl
  ·exact Z62 _
  ·exact Za _ _
  ·exact Z0W
  ·exact Za _ _
 intro m;induction m with
 |zero =>
  intro i S hm hi;refine At.tree (Qf Z1 (Z0c (b _ _ _))) (Zf7 (boL bs) (kS S) (uS S) [] [] bs.length i 0 0 true [] [] 0 0 0 [] [] 0 0 [] [] [] true 0 [] 0 0 0 [] [] []) ?_;rw[List.drop_eq_nil_of_le (by omega:bs.length<=i),Zs];refine⟨λh=>?_,λ_=>⟨rfl,rfl⟩⟩
  have:=of_decide_eq_true h;omega
 |succ m C =>
  intro i S hm hi;have h1:i<bs.length:=by omega
  have v:=Z8w h1;obtain⟨o1,o2⟩:=B _ (List.getElem_mem h1);rw[Zc h1,List.foldl_cons];have u:=C (i+1) (Z40 S bs[i]) (by omega) (by omega);have z:=Z1Z [bs[i].l] o1;have d:=Z2V (Zb [bs[i].l]) (Zg2 o1) S;have g:=Z2V [bs[i].b] o2 S;have a:Z40 S bs[i]=if bs[i].k=1 then addS S (Zj (Zb [bs[i].l])) else if bs[i].k=3 then addS S (Zj [bs[i].b]) else S:=rfl;generalize Z40 S bs[i]=S2 at u a ⊢;generalize bs[i]=x at v a z d g;obtain⟨k,⟨lk,ln,l,j,lo,⟨n,o,p,q⟩,⟨s,t,y3,y4⟩⟩,c,no,f,e,op,⟨t1,t2,t3,t4⟩⟩:=x;simp only at a;by_cases hk:k=1
  ·rw[if_pos hk] at a;subst a;refine At.tree (Qf Z1 (Z0c (b _ _ _))) (Zf7 (boL bs) (kS S) (uS S) (kS (addS S (Zj (Zb [⟨lk,ln,l,j,lo,.mk n o p q,.mk s t y3 y4⟩])))) (uS (addS S (Zj (Zb [⟨lk,ln,l,j,lo,.mk n o p q,.mk s t y3 y4⟩])))) bs.length i k lk ln l (Tm.cellsL j) lo n o p (Tm.cellsL q) s t y3 (Tm.cellsL y4) (ltL c) no f (elL e) op t1 t2 t3 (Tm.cellsL t4) (Tm.cellsL (Zb [⟨lk,ln,l,j,lo,.mk n o p q,.mk s t y3 y4⟩]))) ?_;simp only[SS];exact⟨λ_=>⟨⟨by omega,v⟩,λ_=>⟨z,d,by omega,u⟩,λh=>absurd (by omega) h⟩,λh=>by omega⟩
  ·rw[if_neg hk] at a;refine At.tree (Qf Z1 (Z0c (b _ _ _))) (Zf7 (boL bs) (kS S) (uS S) (kS (addS S (Zj [.mk t1 t2 t3 t4]))) (uS (addS S (Zj [.mk t1 t2 t3 t4]))) bs.length i k lk ln l (Tm.cellsL j) lo n o p (Tm.cellsL q) s t y3 (Tm.cellsL y4) (ltL c) no f (elL e) op t1 t2 t3 (Tm.cellsL t4) []) ?_;simp only[SS];refine⟨λ_=>⟨⟨by omega,v⟩,λh=>absurd (by omega) hk,λ_=>⟨λA=>?_,λA=>?_⟩⟩,λh=>by omega⟩
   ·rw[if_pos (by omega)] at a;subst a;exact⟨g,by omega,u⟩
   ·rw[if_neg (by omega)] at a;subst a;exact⟨by omega,u⟩
end Go.Proofs.YtaclfbhhekhflaaGreatDoor.S
