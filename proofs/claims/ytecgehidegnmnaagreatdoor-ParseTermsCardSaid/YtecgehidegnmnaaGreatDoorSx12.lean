/- Own work: a layer over the kit: plain data,a walk over it,its soundness. -/
import Derived.Test.YtecgehidegnmnaaGreatDoorSx11
set_option linter.all false
namespace Go.Sx.Ps
open Go.Sx
open Go.Sx.Lx (Tk tok Zl Zz Q4 ZQ)
open Go.Sx.Pa (cls fol)
theorem Zef {ts:List Tk} {i n:Nat} {K:List KT} (a:n<=2147483647) (h:Tks ts i ((3,Lib.decDigits n)::K)):Z1z ts i=.ok n (i+1):=by
 obtain⟨k1,k2,-,-⟩:=h.hd;unfold Z1z Zu;rw[if_pos k1,k2];simp only[PR.bind];rw[ZmL a]
theorem ZjC {n:Nat} (a:n<=2147483647):Rd 3 (Lib.decDigits n) (.mk 1 n [] []) [(3,Lib.decDigits n)]:=by
 refine .of3 ⟨3,_,_,rfl,.inl (by decide),λh=>?_⟩ (λu K g c=>Zei a g c) λts f i K hf d c=>?_
 ·obtain⟨-,-,b,r,hs,e⟩:=Lx.Z60 a;rw[hs] at h;exact absurd (h.symm.trans e) (by decide)
 ·obtain⟨f,rfl⟩: ∃ m,f=m+1:=⟨f-1,by simp at hf;omega⟩;unfold Zd;rw[if_pos d.hd.1,Zef a d];rfl
theorem ZjD {n:Nat} (d:n<=2147483647):Rd 3 (45::Lib.decDigits n) (.mk 1 (-n) [] []) [(6,[45]),(3,Lib.decDigits n)]:=by
 refine .of3 ⟨6,_,_,rfl,.inr (.inr rfl),λh=>by decide⟩ (λu K e c=>Z2D (by decide) (Zei d e c)) λts f i K hf b c=>?_;obtain⟨f,rfl⟩: ∃ m,f=m+1:=⟨f-1,by simp at hf;omega⟩;obtain⟨k1,k2,a,-⟩:=Tks.hd b;unfold Zd;rw[if_neg (by rw[k1];decide),if_neg (by rw[k1];decide),if_neg (by rw[nope b (by decide)];simp),if_pos (see b (by simp)),if_pos (Tks.hd a).1,Zef d a];rfl
theorem Zci {v:List UInt8} {y:Tm} {Y:List KT} (h:Rd 3 v y Y) (hv:Pa.Z0b v=false):Rd 3 (45::v) (.mk 5 0 [45] [y]) ((6,[45])::Y):=by
 refine .of3 ⟨6,_,_,rfl,.inr (.inr rfl),λh=>by decide⟩ (λu K g c=>Z2D (by decide) (h.l u K g c)) λts f i K hf b c=>?_;obtain⟨f,rfl⟩: ∃ m,f=m+1:=⟨f-1,by simp at hf;omega⟩;rw[List.cons_append] at b;rw[List.length_cons] at hf ⊢;obtain⟨k1,k2,a,-⟩:=b.hd;have d:(Zf ts (i+1)).1≠3:=by
  obtain⟨k,x,r,rfl,-,e⟩:=h.h;rw[(Tks.hd a).1];exact e hv
 unfold Zd;rw[if_neg (by rw[k1];decide),if_neg (by rw[k1];decide),if_neg (by rw[nope b (by decide)];simp),if_pos (see b (by simp)),if_neg d,h.a rfl ts f (i+1) K (by omega) a c];simp only[PR.bind,PR.ok.injEq,true_and];omega
theorem Z9H {w:List UInt8} {k:Int} {q:Nat} (j:w.all Zl=true/\ ∃ b r,w=b::r/\(Q4 b ||ZQ b)=true) (e:Lx.Z03 w=(k,0)) (g:k=1/\q=2\/k=2/\q=3):Rd 3 w (.mk q 0 w []) [(k,w)]:=by
 refine .of3 ⟨k,_,_,rfl,.inl (by omega),λ_=>by omega⟩ (λu K h a=>Za5 j e h a) λts f i K hf c a=>?_;obtain⟨f,rfl⟩: ∃ m,f=m+1:=⟨f-1,by simp at hf;omega⟩;obtain⟨k1,k2,d,-⟩:=Tks.hd c;unfold Zd;rw[if_neg (by rw[k1];omega)];rcases g with⟨rfl,rfl⟩|⟨rfl,rfl⟩
 ·rw[if_neg (by rw[k1];decide),if_neg (by rw[low c (by decide)];simp),if_neg (by rw[low c (by decide)];simp)];unfold ZZ Zu;rw[if_pos k1,k2];simp only[PR.bind];rw[if_neg (by rw[nsee d a (by decide)];simp)];rfl
 ·rw[if_pos k1];unfold Zu;rw[if_pos k1,k2];rfl
theorem rdL: ∀ (l:List Tm),l≠[]->(∀ y∈l,∃ T,Rd (cls y) y.text y T)-> ∃ T,(∀ u K,LxOK u K->LxOK (Lib.join (Tm.texts l) [44]++41::u) (T++(6,[41])::K)) ∧
  ∀ ts n i K out m,T.length<=n->Tks ts i (T++(6,[41])::K)->out.length+l.length<=8->l.length<=m->Z0s ts 8 [44] (ZN ts (Zd ts n)) m out i=.ok (out++l) (i+T.length)
 |[],h,_=>absurd rfl h
 |[a],_,H=>by
  obtain⟨T,h⟩:=H a (by simp);refine⟨T,λu K g=>?_,λts n i K out m j c f hm=>?_⟩
  ·rw[Q8,List.map_cons,List.map_nil,Lib.join_one];exact h.l _ _ (Pa.QL (by decide)) (Z2D (by decide) g)
  ·obtain⟨m,rfl⟩: ∃ q,m=q+1:=⟨m-1,by simp at hm;omega⟩;simp only[List.length_cons,List.length_nil] at f;unfold Z0s;rw[if_neg (by omega),h.r ts n i _ j c (Z17 (by decide))];simp only[PR.bind];rw[if_neg (by rw[nope c.app (by decide)];simp)]
 |a::b::r,_,H=>by
  obtain⟨X,hx⟩:=H a (by simp);obtain⟨T,h1,h2⟩:=rdL (b::r) (by simp) λy k=>H y (List.mem_cons_of_mem _ k);refine⟨X++(6,[44])::T,λu K g=>?_,λts n i K out m j c f hm=>?_⟩
  ·have e:Lib.join (Tm.texts (a::b::r)) [44]=a.text++44::Lib.join (Tm.texts (b::r)) [44]:=by
    rw[Q8,Q8,List.map_cons,List.map_cons,Lib.join_cons,Lib.join_cons];simp[Lib.joinTail]
   rw[e]
   have:=hx.l (44::(Lib.join (Tm.texts (b::r)) [44]++41::u)) _ (Pa.QL (by decide)) (Z2D (by decide) (h1 u K g));simpa using this
  ·obtain⟨m,rfl⟩: ∃ q,m=q+1:=⟨m-1,by simp at hm;omega⟩;rw[List.append_assoc,List.cons_append] at c;rw[List.length_append,List.length_cons] at j ⊢;rw[List.length_cons] at f hm;have d:=c.app;unfold Z0s;rw[if_neg (by omega),hx.r ts n i _ (by omega) c (Z17 (by decide))];simp only[PR.bind];rw[if_pos (see d (by simp)),h2 ts n _ K (out++[a]) m (by omega) d.hd.2.2.1 (by rw[List.length_append];simp at f ⊢;omega) (by omega)];simp only[List.append_assoc,List.singleton_append,PR.ok.injEq,true_and];omega
theorem Zeb {s:List UInt8} {l:List Tm} (hs:Lx.ZA s=true) (hl:l≠[]) (e:l.length<=8) (H: ∀ y∈l,∃ T,Rd (cls y) y.text y T): ∃ T,Rd 3 (s++[40]++Lib.join (Tm.texts l) [44]++[41]) (.mk 4 0 s l) ((1,s)::T):=by
 obtain⟨T,h1,h2⟩:=rdL l hl H;have g:=Lx.Z1J hs;refine⟨(6,[40])::(T++[(6,[41])]),.of3 ⟨1,_,_,rfl,.inl (by decide),λ_=>by decide⟩ (λu K h d=>?_) λts n i K f c d=>?_⟩
 ·have:=Za5 g (Lx.Z4K hs) (u:=40::(Lib.join (Tm.texts l) [44]++41::u)) (Pa.QL (by decide)) (Z2D (by decide) (h1 u K d));simpa using this
 ·simp only[List.length_cons,List.length_append,List.length_nil,List.cons_append,List.append_assoc,List.nil_append] at f c ⊢;obtain⟨n,rfl⟩: ∃ m,n=m+1:=⟨n-1,by omega⟩;obtain⟨k1,k2,a,-⟩:=c.hd;have b:=a.hd.2.2.1;unfold Zd;rw[if_neg (by rw[k1];decide),if_neg (by rw[k1];decide),if_neg (by rw[low c (by decide)];simp),if_neg (by rw[low c (by decide)];simp)];unfold ZZ Zu Qk;rw[if_pos k1,k2];simp only[PR.bind];rw[if_pos (see a (by simp)),h2 ts n _ K [] 9 (by omega) b (by simpa using e) (by omega)];simp only;rw[must b.app];simp only[List.nil_append,PR.ok.injEq,true_and];omega
theorem rd: ∀ t:Tm,t.all Tm.shape=true-> ∃ T,Rd (cls t) t.text t T
 |.mk k n s l,h=>by
  simp only[Tm.all,Bool.and_eq_true,Tm.shape] at h;obtain⟨hs,h2⟩:=h;have IH: ∀ y∈l,∃ T,Rd (cls y) y.text y T:=λy f=>rd y (Z1Y h2 f);have AL: ∀ y∈l,y.all Tm.shape=true:=λy f=>Z1Y h2 f;clear h2;unfold Qd at hs;by_cases J:k=1
  ·subst J;simp at hs;obtain⟨⟨V,rfl⟩,rfl⟩:=hs;rw[show cls (.mk 1 n [] [])=3 from rfl];simp only[Tm.text,if_true,Lib.itoa];by_cases m:n<0
   ·rw[if_pos m]
    have:=ZjD (n:=n.natAbs) (by omega);rw[show (-((n.natAbs:Nat):Int))=n by omega] at this;exact⟨_,this⟩
   ·rw[if_neg m]
    have:=ZjC (n:=n.toNat) (by omega);rw[show (((n.toNat:Nat):Int))=n by omega] at this;exact⟨_,this⟩
  by_cases L:k=2
  ·subst L;simp at hs;obtain⟨⟨rfl,f⟩,rfl⟩:=hs;exact⟨_,Z9H (Lx.Z1J f) (Lx.Z4K f) (.inl ⟨rfl,rfl⟩)⟩
  by_cases N:k=3
  ·subst N;simp at hs;obtain⟨⟨rfl,f⟩,rfl⟩:=hs;exact⟨_,Z9H (Lx.Z4O f) (Lx.Z8L f) (.inr ⟨rfl,rfl⟩)⟩
  by_cases O:k=4
  ·subst O;simp at hs;obtain⟨⟨⟨rfl,f⟩,j⟩,C⟩:=hs;obtain⟨T,S⟩:=Zeb f (by intro e;rw[e] at j;simp at j) C IH;exact⟨_,S⟩
  by_cases P:k=5
  ·subst P;simp at hs;obtain⟨⟨rfl,D⟩,hl⟩:=hs;by_cases j:l.length=1
   ·have B:s=[45]:=by
     rcases hl with h|h
     ·omega
     ·exact h.1
    subst B;obtain⟨a,rfl⟩:=Pa.ZgM j;have G:=AL a (List.mem_cons_self ..);obtain⟨X,ha⟩:=IH a (List.mem_cons_self ..);obtain⟨Y,f⟩:=opR (k:=5) (s:=[45]) (len:=1) (r:=false) ha;have e:Tm.text (.mk 5 0 [45] [a])=45::opdT 5 [45] 1 a a.text false:=by simp[Tm.text,Tm.texts]
    rw[e];have hc:(if Q6 5 [45] 1 a.kd a.nm a.as'.length false=true then 3 else cls a)=3:=by
     split
     ·rfl
     ·rename_i h;exact (Pa.Zn7 (by simpa using h)).2
    rw[hc] at f;refine⟨_,Zci f ?_⟩;unfold opdT;cases hc:Q6 5 [45] 1 a.kd a.nm a.as'.length false with
    |true=>rfl
    |false=>have:=Pa.Z7Y G (Pa.Zn7 hc).2 (Pa.Zn7 hc).1 [];rwa [List.append_nil] at this
   ·obtain⟨a,b,rfl⟩:=Pa.ZdX (l:=l) (by
     rcases hl with h|h
     ·exact h
     ·exact absurd h.2 j)
    obtain⟨X,ha⟩:=IH a (by simp);obtain⟨Y,g⟩:=IH b (by simp);obtain⟨X,ha⟩:=opR (k:=5) (s:=s) (len:=2) (r:=false) ha;obtain⟨Y,g⟩:=opR (k:=5) (s:=s) (len:=2) (r:=true) g;have e:Tm.text (.mk 5 0 s [a,b])=opdT 5 s 2 a a.text false++(s++opdT 5 s 2 b b.text true):=by simp[Tm.text,Tm.texts]
    rw[e,Pa.Zes];have E:1<=(if Q6 5 s 2 a.kd a.nm a.as'.length false=true then 3 else cls a)/\(Qt s=2->2<=(if Q6 5 s 2 a.kd a.nm a.as'.length false=true then 3 else cls a)):=by
     split
     ·exact⟨by decide,λ_=>by decide⟩
     ·rename_i h;have:=Pa.Znb (Bool.eq_false_iff.2 h);exact⟨this.1,this.2.1⟩
    have F:(Qt s=1->2<=(if Q6 5 s 2 b.kd b.nm b.as'.length true=true then 3 else cls b))/\(Qt s=2->(if Q6 5 s 2 b.kd b.nm b.as'.length true=true then 3 else cls b)=3):=by
     split
     ·exact⟨λ_=>by decide,λ_=>rfl⟩
     ·rename_i h;have:=Pa.Znb (Bool.eq_false_iff.2 h);exact⟨λh=>this.2.2.1 h rfl,λh=>this.2.2.2 h rfl⟩
    generalize (if Q6 5 s 2 a.kd a.nm a.as'.length false=true then 3 else cls a)=c at ha E;generalize (if Q6 5 s 2 b.kd b.nm b.as'.length true=true then 3 else cls b)=d at g F;generalize opdT 5 s 2 a a.text false=w at ha ⊢;generalize opdT 5 s 2 b b.text true=v at g ⊢;have A: ∀ o,s=[o]->sg1 o=true->Zl o=false->Qt [o]=1->[o]∈addL-> ∃ T,Rd (if 5=6 then 0 else if 5=5/\[a,b].length≠1 then (if Qt s=1 then 1 else 2) else 3) (w++(s++v)) (.mk 5 0 s [a,b]) T:=λo e h1 h2 p z=>by
     subst e;rw[if_neg (by decide),if_pos ⟨rfl,by simp⟩,if_pos p];exact⟨_,.of1 (ha.hd _ _) (ha.lx g h1 h2) (ha.add E.1 g (F.1 p) z)⟩
    have M: ∀ o,s=[o]->sg1 o=true->Zl o=false->Qt [o]=2->[o]∈mulL-> ∃ T,Rd (if 5=6 then 0 else if 5=5/\[a,b].length≠1 then (if Qt s=1 then 1 else 2) else 3) (w++(s++v)) (.mk 5 0 s [a,b]) T:=λo e h1 h2 p z=>by
     subst e;rw[if_neg (by decide),if_pos ⟨rfl,by simp⟩,if_neg (by rw[p];decide)];have hd:=F.2 p;subst hd;exact⟨_,.of2 (ha.hd _ _) (ha.lx g h1 h2) (ha.mul (E.2 p) g z)⟩
    rcases D with (((rfl|rfl)|rfl)|rfl)|rfl
    ·exact A 43 rfl (by decide) (by decide) (by decide) (by decide)
    ·exact A 45 rfl (by decide) (by decide) (by decide) (by decide)
    ·exact M 42 rfl (by decide) (by decide) (by decide) (by decide)
    ·exact M 47 rfl (by decide) (by decide) (by decide) (by decide)
    ·exact M 92 rfl (by decide) (by decide) (by decide) (by decide)
  by_cases Q:k=6
  ·subst Q;simp at hs;obtain⟨⟨rfl,rfl⟩,hl⟩:=hs;obtain⟨a,b,rfl⟩:=Pa.ZdX hl;obtain⟨X,ha⟩:=IH a (by simp);obtain⟨Y,g⟩:=IH b (by simp);obtain⟨X,ha⟩:=opR (k:=6) (s:=[]) (len:=2) (r:=false) ha;obtain⟨Y,g⟩:=opR (k:=6) (s:=[]) (len:=2) (r:=true) g;have e:Tm.text (.mk 6 0 [] [a,b])=opdT 6 [] 2 a a.text false++(46::46::opdT 6 [] 2 b b.text true):=by simp[Tm.text,Tm.texts]
   have q: ∀ (x:Tm) r,1<=(if Q6 6 [] 2 x.kd x.nm x.as'.length r=true then 3 else cls x):=λx r=>by
    split
    ·decide
    ·rename_i h;exact Pa.ZhD (Pa.cl6 (Bool.eq_false_iff.2 h))
   rw[e,show cls (.mk 6 0 [] [a,b])=0 from rfl];refine⟨X++(6,[46,46])::Y,ha.hd _ _,λu K U R=>?_,λh=>by omega,λh=>by omega,λh=>by omega,ha.rng (q a _) g (q b _)⟩
   have:=ha.l (46::46::(opdT 6 [] 2 b b.text true++u)) _ (Pa.QL (by decide)) (ZmN (g.l u K U R));simpa using this
  ·exfalso;have c1: ¬ (k:Int)=1:=by omega
   have c2: ¬ (k:Int)=2:=by omega
   have c3: ¬ (k:Int)=3:=by omega
   have H: ¬ (k:Int)=4:=by omega
   have c5: ¬ (k:Int)=5:=by omega
   have I: ¬ (k:Int)=6:=by omega
   simp[c1,c2,c3,H,c5,I] at hs
termination_by t=>SizeOf.sizeOf t
decreasing_by
 have:=List.sizeOf_lt_of_mem f;simp only[Tm.mk.sizeOf_spec];omega
end Go.Sx.Ps
/- A TERM ALONE,IN A RULE AND AS A WEIGHT. -/
namespace Go.Sx.Ps
open Go.Sx
open Go.Sx.Lx (Tk tok Zl)
open Go.Sx.Pa (cls fol)
theorem ZdY {x u:List UInt8} (h:x=[58,45]\/x=[58,126]\/x=[33,61]):tok (x++u)=(6,x,0)/\ ¬ wsH (x++u):=by
 refine⟨?_,?_⟩
 ·rcases h with rfl|rfl|rfl<;>simp[tok,Lx.Q4,Lx.Z0n,Lx.Z3C,Lx.ZQ,Lx.Zz,Lx.Qc,Lx.Z26,List.find?,List.isPrefixOf]
 ·rintro⟨b,a,hc⟩;rcases h with rfl|rfl|rfl<;>cases a<;>simp[Lx.Zw] at hc
theorem ZgT {x u:List UInt8} {K:List KT} (h:x=[58,45]\/x=[58,126]\/x=[33,61]) (a:LxOK u K):LxOK (x++u) ((6,x)::K):=Z29 (by rcases h with rfl|rfl|rfl<;>simp) (ZdY h).1 (ZdY h).2 a
theorem Zej {u:List UInt8} {K:List KT} (h:u=[]\/ ∃ r,u=32::r) (c:LxOK u K):LxOK (46::u) ((6,[46])::K):=by
 refine Z29 (x:=[46]) (by simp) ?_ ?_ c
 ·rcases h with rfl|⟨r,rfl⟩<;>simp[tok,Lx.Q4,Lx.Z0n,Lx.Z3C,Lx.ZQ,Lx.Zz,Lx.Qc,Lx.Z26,List.find?,List.isPrefixOf]
 ·rintro⟨b,a,hc⟩;cases a;simp[Lx.Zw] at hc
theorem Z65 {α:Type} {z a:α} {s:List UInt8} {T:List KT} {f:List Tk->PR α} (h:LxOK s T) (hl:s.length<=32768) (hf: ∀ ts,Tks ts 0 T->f ts=.ok a T.length):Zek z s f=(a,0,0):=by
 have e:=Zh2 hl h.1;have b:Tks (Lx.run 0 s).1 0 T:=h.2;have c:=b.len;unfold Zek Z9T ZkY;rw[e,if_pos rfl];simp only;rw[hf _ b];simp only[PR.bind];rw[if_neg (by omega)]
section
variable {t:Tm} {T K:List KT} {ts:List Tk} {i:Nat}
theorem Z5X (h:Rd (cls t) t.text t T) (a:Tks ts i (T++K)) (b:Fol 0 K):Zr ts (fu ts) i=.ok t (i+T.length) :=
 h.r ts _ i K (by have:=a.len;rw[List.length_append] at this;show _<=_+1;omega) a b
theorem fit {α:Type} {d at' j:Nat} {k:Tm->Nat->PR α} (h:t.depth<=d):(ZI t d at' j).bind k=k t j:=by
 unfold ZI;rw[if_neg (by omega)];rfl
theorem Z2R (h:Rd (cls t) t.text t T) (hd:t.depth<=12) (b:Tks ts i (T++K)) (a:Fol 0 K):Z8 ts i=.ok t (i+T.length):=by
 unfold Z8;rw[Z5X h b a];simp only[PR.bind,ZI];rw[if_neg (by omega)]
theorem ZcB (h:Rd (cls t) t.text t T) (b:Tks ts i (T++K)) {l:List (List UInt8)} (hl:[40] ∉ l/\[45] ∉ l):Z1 ts i l=false:=by
 obtain⟨k,x,r,rfl,h1,-⟩:=h.h;refine Zcn b λt r e a=>?_;cases e;rcases h1 with h1|rfl|rfl
 ·exact absurd a (by simp only;omega)
 ·exact hl.1
 ·exact hl.2
theorem Zhv (h:Rd (cls t) t.text t T) (hd:t.depth<=12) (c:Tks ts i (T++(6,[33,61])::(T++(6,[46])::K))) :
  Zh ts i=.ok ⟨1,⟨2,false,[],[],2,t,t⟩,[],false,0,[],0,z0⟩ (i+(T.length+1+T.length)):=by
 have f:tkP ts Lx.ZG i=(false,i):=by unfold tkP;rw[if_neg (by rw[ZcB h c (by decide)];simp)]
 have a:=c.app;have b:=a.hd.2.2.1;unfold Zh;rw[f];simp only;rw[if_neg (by rw[ZcB h c (by decide)];simp)];unfold Zn Z9;rw[Z5X h c (Z17 (by decide))];simp only[Bool.false_eq_true,if_false,PR.bind];rw[if_pos (see a (by decide))];have e:=fit (t:=t) (d:=12) (at':=i) (j:=i+T.length) (k:=λt j=>PR.ok ((([]:List UInt8),([]:List Tm)),t,false) j) hd;simp only[PR.bind] at e;rw[e];simp only[Bool.false_eq_true,if_false];unfold Zb;rw[a.hd.1,a.hd.2.1,if_neg (by decide)];simp only;rw[Z2R h hd b (Z17 (by decide))];simp only;unfold Qi;rw[if_neg (by rw[nope b.app (by decide)];simp)];simp only[if_true];congr 1;omega
theorem ZhI (h:Rd (cls t) t.text t T) (hd:t.depth<=12) (b:Tks ts i (T++(6,[33,61])::(T++(6,[46])::K))) :
  ZR ts i=.ok [⟨1,⟨2,false,[],[],2,t,t⟩,[],false,0,[],0,z0⟩] (i+(T.length+1+T.length)):=by
 have a:=b.app.hd.2.2.1.app;rw[show i+T.length+1+T.length=i+(T.length+1+T.length) by omega] at a;unfold ZR Z1b;rw[Zhv h hd b,if_neg (by decide)];simp only[PR.bind];rw[if_neg (by rw[nope a (by decide)];simp),if_neg (by decide),if_neg (by rw[nope a (by decide)];simp)];rfl
theorem Zh8 {P:List KT} (h:Rd 3 (Tm.text (.mk 4 0 [112] [t])) (.mk 4 0 [112] [t]) ((1,[112])::P)) (hd:t.depth<=12) (b:Tks ts i ((1,[112])::P++(6,[58,45])::K)) :
  ZT ts i=.ok {zR with k:=1,h:=[⟨[112],[t],[]⟩]} (i+(P.length+1)):=by
 have a:=b.app;have no: ∀ {l:List (List UInt8)},[40] ∉ l/\[45] ∉ l->Z1 ts i l=false:=λhl=>ZcB (t:=.mk 4 0 [112] [t]) h b hl;have hp:=Z5X (t:=.mk 4 0 [112] [t]) h b (Z17 (by decide));have c:(Tm.mk 4 0 [112] [t]).depth<=13:=by simp only[Tm.depth,Tm.depthL];exact Nat.succ_le_succ (Nat.max_le.2 ⟨hd,Nat.zero_le _⟩)
 rw[List.length_cons] at a hp;unfold ZT;rw[if_neg (by rw[no (by decide)];simp),if_neg (by rw[no (by decide)];simp)];unfold Z9;rw[hp];simp only[PR.bind];rw[if_neg (by rw[nope a (by decide)];simp),if_neg (by rw[(Tks.hd b).1];simp[kT])];unfold ZE ZI;rw[if_neg (by omega)];simp only[PR.bind,nmT,arT,if_true];unfold Z2x;rw[if_neg (by rw[nope a (by decide)];simp)]
end
def Z22 (s:List UInt8):List UInt8:=[112,40]++s++[41,32,58,45,32]++s++[32,33,61,32]++s++[46]
def Z21 (s:List UInt8):List UInt8:=[58,126,32,46,32,91]++s++[64]++s++[44]++s++[93]
def ruA (t:Tm):Ru:={zR with k:=1,h:=[⟨[112],[t],[]⟩],b:=[⟨1,⟨2,false,[],[],2,t,t⟩,[],false,0,[],0,z0⟩]}
def ruW (t:Tm):Ru:={zR with k:=3,w:=t,lv:=t,t:=[t],b:=[]}
theorem Z5G {t:Tm} (hs:t.all Tm.shape=true) (hd:t.depth<=12) (hl:t.text.length<=8192) :
  Z2z t.text=(t,0,0)/\ZL (Z22 t.text)=(ruA t,0,0)/\ZL (Z21 t.text)=(ruW t,0,0):=by
 obtain⟨T,h⟩:=rd t hs;have sp: ∀ {r:List UInt8},fol Zl (32::r):=Pa.QL (by decide);refine⟨?_,?_,?_⟩
 ·have:=h.l [] [] (Pa.Z6g _) Z7m;rw[List.append_nil] at this;refine Z65 this (by omega) λts a=>?_;rw[Z2R h hd a (λt r e=>by cases e),Nat.zero_add,List.append_nil]
 ·obtain⟨P,hp⟩:=Zeb (s:=[112]) (l:=[t]) (by decide) (by simp) (by simp) (λy k=>by simp at k;subst k;exact⟨_,h⟩);have e:Tm.text (.mk 4 0 [112] [t])=[112]++[40]++Lib.join (Tm.texts [t]) [44]++[41]:=rfl;rw[<- e] at hp;have w:=h.l (32::33::61::32::(t.text++[46])) _ sp (Z1l (ZgT (.inr (.inr rfl)) (Z1l (h.l [46] _ (Pa.QL (by decide)) (Zej (.inl rfl) Z7m)))));have f:=hp.l (32::58::45::32::(t.text++32::33::61::32::(t.text++[46]))) _ sp (Z1l (ZgT (.inl rfl) (Z1l w)));rw[e] at f;simp only[Tm.texts,Lib.join_one] at f;refine Z65 (by simpa [Z22] using f) (by simp[Z22];omega) λts a=>?_;have b:=Tks.app (T:=(1,[112])::P) a;have d:=b.hd.2.2.1;have g:=d.app.hd.2.2.1.app;have no:=ZcB (t:=.mk 4 0 [112] [t]) hp a (l:=[[58,126]]) (by decide);have j:=ZhI h hd d;rw[List.length_cons] at b d g j;unfold ZD;rw[if_neg (by rw[no];simp),Zh8 hp hd a];simp only[PR.bind];rw[if_pos (see b (by simp)),j];simp only;rw[show 0+(P.length+1)+1+(T.length+1+T.length)=0+(P.length+1)+1+T.length+1+T.length by omega,must g];simp only[ruA,PR.ok.injEq,true_and,List.length_append,List.length_cons,List.length_nil];omega
 ·have f:=ZgT (.inr (.inl rfl)) (Z1l (Zej (.inr ⟨_,rfl⟩) (Z1l (Z2D (c:=91) (by decide) (h.l (64::(t.text++44::(t.text++[93]))) _ (Pa.QL (by decide)) (Z2D (by decide) (h.l (44::(t.text++[93])) _ (Pa.QL (by decide)) (Z2D (by decide) (h.l [93] _ (Pa.QL (by decide)) (Z2D (by decide) Z7m))))))))));refine Z65 (by simpa [Z21] using f) (by simp[Z21];omega) λts a=>?_;have h1:=Tks.hd a;have h2:=h1.2.2.1.hd;have v:=h2.2.2.1.hd;have m:=v.2.2.1;have n:=m.app;have o:=n.hd.2.2.1;have p:=o.app;have q:=p.hd.2.2.1;have u:=q.app;unfold ZD QJ;rw[if_pos (see a (by simp)),must a];simp only[PR.bind];rw[if_pos (see h1.2.2.1 (by simp))];simp only;rw[must h1.2.2.1];simp only;rw[must h2.2.2.1];simp only;unfold Zt;rw[Z2R h hd m (Z17 (by decide))];simp only[PR.bind];rw[if_pos (see n (by simp)),Z2R h hd o (Z17 (by decide))];simp only;rw[if_pos (see p (by simp))];unfold ZY Qk Z0s;rw[if_neg (by decide),Z2R h hd q (Z17 (by decide))];simp only[PR.bind];rw[if_neg (by rw[nope u (by decide)];simp)];simp only;rw[must u];simp only[ruW,List.nil_append,PR.ok.injEq,true_and,List.length_append,List.length_cons,List.length_nil];omega
end Go.Sx.Ps
