/- Own work: a layer over the kit: plain data,a walk over it,its soundness. -/
import Derived.Test.YtaclfbhhekhflaaGreatDoorRows
import Derived.Test.YtaclfbhhekhflaaGreatDoorSafY
import Derived.Test.YtaclfbhhekhflaaGreatDoorSx11
import Derived.Test.YtaclfbhhekhflaaGreatDoorSx12
set_option linter.all false
set_option maxRecDepth 100000
/- The loops of SafetyGrounds. -/
noncomputable section
namespace Go.Proofs.YtaclfbhhekhflaaGreatDoor
open Go.Sx
def sD (v:Bool) (es:LD):D:=match v with
 |true=>.vec 1
 |false=>.slice es []
def sO (v:Bool):Obs:=match v with
 |true=>[(1,.arr true 5 108 [])]
 |false=>[]
abbrev FG:Exit->St->Prop:=FinQ true 0 rs3 λr _=>r=.bool true
theorem bdV {gl:List Nm} {b:List Bd} (h:BdW gl b) (hl:gl.length<=999999):BdV b:=⟨h.va,Nat.le_trans h.len hl⟩
theorem BdV.get {b:List Bd} (h:BdV b) (s:Nm):FK 14 [.slice (bdL b) [],.str s] (opD (getB b s)):=by
 obtain⟨c,d,e⟩:=Z5b h.va;have hl:=h.ln
 have:=ZcU b (by omega) c (λy a=>by have:=d y a;omega) e s;unfold getV at this;rwa [if_pos h.va] at this
structure LitV (gl:List Nm) (l:Lt):Prop where
 tl:TmV l.l
 tr:TmV l.r
 nl:l.l.kd=3->l.l.nm∈gl
 nr:l.r.kd=3->l.r.nm∈gl
theorem Z7z {l:List Nm} {i:Nat} (h:i<l.length):(strC l)[i]? = some [dS l[i]]:=by simp[strC,h]
theorem ZqD:At Tryz.prog 0 (cut sc3 5) ⟨[(5,.slice [] []),(8,.vec 0),(24,.int .i64 0)],[(0,.arr true 5 108 [])]⟩ FG:=by
 refine At.tree (Z9 Z0) (Zna [] 0 [] 0 0 [] [] true) ?_;simp only[SS];exact⟨λh=>absurd h (by decide),λ_=>trivial⟩
theorem Zuk (gl:List Nm) (hl:gl.length<=999999) (b:List Bd) (h:BdW gl b) (H: ∀ g∈gl,g∈domB b): ∀ (m i:Nat),gl.length-i=m->i<=gl.length →
  At Tryz.prog 0 (cut sc3 5) ⟨[(5,.slice (strC gl) []),(8,.slice (bdL b) []),(24,.int .i64 i)],[]⟩ FG:=by
 intro m;induction m with
 |zero =>
  intro i hm hi;refine At.tree (Z9 Z0) (Zig (strC gl) (bdL b) i [] 0 0 [] [] true) ?_;simp only[SS,Zp];exact⟨λh=>by omega,λ_=>trivial⟩
 |succ m f =>
  intro i hm hi;have h1:i<gl.length:=by omega
  have d:=H _ (List.getElem_mem h1);have a:=(bdV h hl).get gl[i];obtain⟨j,k,l,ag,e⟩:=ZhD (getB b gl[i]);rw[e,Z5T.1 d] at a;have c:=f (i+1) (by omega) (by omega);refine At.tree (Z9 Z0) (Zig (strC gl) (bdL b) i gl[i] j k l ag true) ?_;simp only[SS,Zp];exact⟨λ_=>⟨⟨by omega,Z7z h1⟩,a,nofun,⟨by omega,c⟩⟩,λh=>by omega⟩
section
variable (kd:Int) (hs:LD) (k1 n1:Int) (s1:LU) (l1:LD) (k2 n2:Int) (s2:LU) (l2:LD) (bs:List Bo) (k3 n3:Int) (s3:LU) (l3:LD) (k4 n4:Int) (s4:LU) (l4:LD) (ts:LD) (gl:List Nm)
theorem Zul (hl:gl.length<=999999) (r:Nat) (hr:r<=1000) (HB: ∀ x∈bs,x.k=1->LitV gl x.l) (X:bs.length<=1000): ∀ (m i:Nat) (b:List Bd) (v:Bool),bs.length-i=m->i<=bs.length->BdW gl b->(v=true->b=[]) →
  (∀ (c:List Bd) (w:Bool),Z0d xE (Z0x (bs.drop i)) b=some c->BdW gl c->(w=true->c=[])->At Tryz.prog 0 (cut sc3 3) ⟨[(2,.ptr 0 0),(5,.slice (strC gl) []),(8,sD w (bdL c)),(17,.int .i64 (r+1:Nat))],(0,.cells (xRw kd hs k1 n1 s1 l1 k2 n2 s2 l2 (boL bs) k3 n3 s3 l3 k4 n4 s4 l4 ts))::sO w⟩ FG) →
  At Tryz.prog 0 (cut sc3 4) ⟨[(2,.ptr 0 0),(5,.slice (strC gl) []),(8,sD v (bdL b)),(17,.int .i64 r),(18,.int .i64 i)],(0,.cells (xRw kd hs k1 n1 s1 l1 k2 n2 s2 l2 (boL bs) k3 n3 s3 l3 k4 n4 s4 l4 ts))::sO v⟩ FG:=by
 intro m;induction m with
 |zero =>
  intro i b v hm hi q hv K;have I:=K b v (by rw[List.drop_eq_nil_of_le (show bs.length<=i by omega)];rfl) q hv;cases v with
  |true =>
   have e:=hv rfl;subst e;refine At.tree (Z9 Z0) (ZeM kd hs k1 n1 s1 l1 k2 n2 s2 l2 (boL bs) k3 n3 s3 l3 k4 n4 s4 l4 ts (strC gl) r i 0 0 false [] [] 0 0 0 [] [] 0 0 [] [] [] false 0 [] 0 0 0 [] [] [] [] true true) ?_;simp only[SS,Q6];exact⟨λh=>by omega,λ_=>⟨by omega,I⟩⟩
  |false =>
   refine At.tree (Z9 Z0) (Zih kd hs k1 n1 s1 l1 k2 n2 s2 l2 (boL bs) k3 n3 s3 l3 k4 n4 s4 l4 ts (strC gl) (bdL b) r i 0 0 false [] [] 0 0 0 [] [] 0 0 [] [] [] false 0 [] 0 0 0 [] [] [] [] true true) ?_;simp only[SS,Q6];exact⟨λh=>by omega,λ_=>⟨by omega,I⟩⟩
 |succ m L =>
  intro i b v hm hi q hv K;have h1:i<bs.length:=by omega
  have hx:(boL bs)[i]? = some bs[i].cs:=by simp[boL,h1]
  have k:=HB _ (List.getElem_mem h1);have J:bs.drop i=bs[i]::bs.drop (i+1):=List.drop_eq_getElem_cons h1;rw[J] at K;have D:=λc w=>L (i+1) c w (by omega) (by omega);generalize bs[i]=x at hx k K;have y:Z0x (x::bs.drop (i+1))=if x.k=1 then x.l::Z0x (bs.drop (i+1)) else Z0x (bs.drop (i+1)):=by
   unfold Z0x;rw[List.filterMap_cons];split<;>simp_all
  have S1:x.k≠1\/eqL x.l=false->Z0d xE (Z0x (x::bs.drop (i+1))) b=Z0d xE (Z0x (bs.drop (i+1))) b:=λh=>by
   rw[y];split
   ·rename_i hk
    conv=>lhs;unfold Z0d
    rw[if_neg (by rcases h with h|h;exact absurd hk h;simp[h])]
   ·rfl
  have S2:x.k=1->eqL x.l=true->(Z0A xE x.l b).2=false->Z0d xE (Z0x (x::bs.drop (i+1))) b=Z0d xE (Z0x (bs.drop (i+1))) (Z0A xE x.l b).1:=λh h2 l=>by
   rw[y,if_pos h]
   conv=>lhs;unfold Z0d
   rw[if_pos h2,if_neg (by simp[l])]
  have skip:x.k≠1\/eqL x.l=false->At Tryz.prog 0 (cut sc3 4) ⟨[(2,.ptr 0 0),(5,.slice (strC gl) []),(8,sD v (bdL b)),(17,.int .i64 r),(18,.int .i64 (i+1:Nat))],(0,.cells (xRw kd hs k1 n1 s1 l1 k2 n2 s2 l2 (boL bs) k3 n3 s3 l3 k4 n4 s4 l4 ts))::sO v⟩ FG:=λh =>
   D b v q hv λc w hs=>K c w (by rw[S1 h];exact hs)
  have both:x.k=1->eqL x.l=true->(Z0A xE x.l b).2=false->At Tryz.prog 0 (cut sc3 4) ⟨[(2,.ptr 0 0),(5,.slice (strC gl) []),(8,.slice (bdL (Z0A xE x.l b).1) []),(17,.int .i64 r),(18,.int .i64 (i+1:Nat))],[(0,.cells (xRw kd hs k1 n1 s1 l1 k2 n2 s2 l2 (boL bs) k3 n3 s3 l3 k4 n4 s4 l4 ts))]⟩ FG:=λh h2 l =>
   D (Z0A xE x.l b).1 false (q.both (k h).nl (k h).nr) nofun λc w hs=>K c w (by rw[S2 h h2 l];exact hs)
  have g:x.k=1->FK 13 [.agg x.l.l.cells,.agg x.l.r.cells,.slice (bdL b) []] (.tuple [.slice (bdL (Zv xE x.l.l x.l.r b).1) [],.bool (Zv xE x.l.l x.l.r b).2]):=λh=>Z98 (k h).tl (k h).tr (bdV q hl);have f:x.k=1->FK 13 [.agg x.l.r.cells,.agg x.l.l.cells,.slice (bdL (Zv xE x.l.l x.l.r b).1) []] (.tuple [.slice (bdL (Z0A xE x.l b).1) [],.bool (Zv xE x.l.r x.l.l (Zv xE x.l.l x.l.r b).1).2]):=λh=>Z98 (k h).tr (k h).tl (bdV (q.solve (k h).nl) hl);have n:(Z0A xE x.l b).2=((Zv xE x.l.l x.l.r b).2 ||(Zv xE x.l.r x.l.l (Zv xE x.l.l x.l.r b).1).2):=rfl;generalize (Z0A xE x.l b).2=z at both n;generalize (Z0A xE x.l b).1=d at both f;generalize (Zv xE x.l.r x.l.l (Zv xE x.l.l x.l.r b).1).2=W at n f;generalize (Zv xE x.l.l x.l.r b).2=V at n g;generalize (Zv xE x.l.l x.l.r b).1=c at g f;clear K S1 S2 D L y J HB;obtain⟨u,⟨j,no,p,a,o,⟨M,n5,S,P⟩,⟨N,n6,T,Q⟩⟩,bc,s,F,E,t,⟨O,n7,U,R⟩⟩:=x;simp only[eqL] at skip both g f n;have G:((u:Int)=1)=(u=1):=propext (by omega);have el:((j:Int)=2)=(j=2):=propext (by omega);have H:((o:Int)=1)=(o=1):=propext (by omega);cases v with
  |true =>
   have e:=hv rfl;subst e;refine At.tree (Z9 Z0) (ZeM kd hs k1 n1 s1 l1 k2 n2 s2 l2 (boL bs) k3 n3 s3 l3 k4 n4 s4 l4 ts (strC gl) r i u j no p (Tm.cellsL a) o M n5 S (Tm.cellsL P) N n6 T (Tm.cellsL Q) (ltL bc) s F (elL E) t O n7 U (Tm.cellsL R) (bdL c) (bdL d) V W) ?_;simp only[SS,Q6,G,el,H];exact⟨λ_=>⟨⟨by omega,hx⟩,⟨by omega,hx⟩,λh=>⟨by omega,skip (.inl h)⟩,λhk=>⟨λh=>⟨by omega,skip (.inr (by simp[h]))⟩,λh2=>⟨λh=>⟨by omega,skip (.inr (by simp[h]))⟩,λl=>⟨λh=>⟨by omega,skip (.inr (by simp[h]))⟩,λA=>⟨g hk,f hk,λh=>trivial,λB=>⟨λh=>trivial,λC=>⟨by omega,both hk (by simp[h2,l,A]) (by rw[n,B,C];rfl)⟩⟩⟩⟩⟩⟩⟩,λh=>by omega⟩
  |false =>
   refine At.tree (Z9 Z0) (Zih kd hs k1 n1 s1 l1 k2 n2 s2 l2 (boL bs) k3 n3 s3 l3 k4 n4 s4 l4 ts (strC gl) (bdL b) r i u j no p (Tm.cellsL a) o M n5 S (Tm.cellsL P) N n6 T (Tm.cellsL Q) (ltL bc) s F (elL E) t O n7 U (Tm.cellsL R) (bdL c) (bdL d) V W) ?_;simp only[SS,Q6,G,el,H];exact⟨λ_=>⟨⟨by omega,hx⟩,⟨by omega,hx⟩,λh=>⟨by omega,skip (.inl h)⟩,λhk=>⟨λh=>⟨by omega,skip (.inr (by simp[h]))⟩,λh2=>⟨λh=>⟨by omega,skip (.inr (by simp[h]))⟩,λl=>⟨λh=>⟨by omega,skip (.inr (by simp[h]))⟩,λA=>⟨g hk,f hk,λh=>trivial,λB=>⟨λh=>trivial,λC=>⟨by omega,both hk (by simp[h2,l,A]) (by rw[n,B,C];rfl)⟩⟩⟩⟩⟩⟩⟩,λh=>by omega⟩
theorem Zum (hl:gl.length<=999999) (HB: ∀ x∈bs,x.k=1->LitV gl x.l) (f:bs.length<=1000): ∀ (n r:Nat) (b:List Bd) (v:Bool),r+n=bs.length+1->BdW gl b->(v=true->b=[]) →
  (∀ c:List Bd,Z0G xE n (Z0x bs) b=some c->BdW gl c-> ∀ g∈gl,g∈domB c) →
  At Tryz.prog 0 (cut sc3 3) ⟨[(2,.ptr 0 0),(5,.slice (strC gl) []),(8,sD v (bdL b)),(17,.int .i64 r)],(0,.cells (xRw kd hs k1 n1 s1 l1 k2 n2 s2 l2 (boL bs) k3 n3 s3 l3 k4 n4 s4 l4 ts))::sO v⟩ FG:=by
 intro n;induction n with
 |zero =>
  intro r b v hr a hv K;have k:=Zuk gl hl b a (K b rfl a) _ 0 rfl (Nat.zero_le _);cases v with
  |true =>
   have e:=hv rfl;subst e;have e:gl=[]:=by
    cases gl with
    |nil=>rfl
    |cons g _=>have:=K [] rfl a g (List.mem_cons_self ..);cases this
   subst e;refine At.tree (Z9 Z0) (ZeN kd hs k1 n1 s1 l1 k2 n2 s2 l2 (boL bs) k3 n3 s3 l3 k4 n4 s4 l4 ts (strC []) r) ?_;simp only[SS,Q6];exact⟨λh=>by omega,λ_=>ZqD⟩
  |false =>
   refine At.tree (Z9 Z0) (Zii kd hs k1 n1 s1 l1 k2 n2 s2 l2 (boL bs) k3 n3 s3 l3 k4 n4 s4 l4 ts (strC gl) (bdL b) r) ?_;simp only[SS,Q6];exact⟨λh=>by omega,λ_=>k⟩
 |succ n o =>
  intro r b v hr a hv K;have j:=Zul kd hs k1 n1 s1 l1 k2 n2 s2 l2 bs k3 n3 s3 l3 k4 n4 s4 l4 ts gl hl r (by omega) HB f _ 0 b v rfl (Nat.zero_le _) a hv λc w hs hc m=>o (r+1) c w (by omega) hc m λd l i=>K d (by unfold Z0G;rw[show Z0d xE (Z0x bs) b=some c from hs];exact l) i;cases v with
  |true =>
   have e:=hv rfl;subst e;refine At.tree (Z9 Z0) (ZeN kd hs k1 n1 s1 l1 k2 n2 s2 l2 (boL bs) k3 n3 s3 l3 k4 n4 s4 l4 ts (strC gl) r) ?_;simp only[SS,Q6];exact⟨λ_=>j,λh=>by omega⟩
  |false =>
   refine At.tree (Z9 Z0) (Zii kd hs k1 n1 s1 l1 k2 n2 s2 l2 (boL bs) k3 n3 s3 l3 k4 n4 s4 l4 ts (strC gl) (bdL b) r) ?_;simp only[SS,Q6];exact⟨λ_=>j,λh=>by omega⟩
theorem ZcN {m:Int} (h:0<=m/\m<=5):(Tm.mk 1 m [] []).value=true:=by
 simp[Tm.value,Tm.valid,Tm.all,Tm.allL,Tm.plain,Tm.shape,Qi,Tm.depth,Tm.depthL];omega
theorem BdV.bind {b:List Bd} (h:BdV b) {s:Nm} (hs:s.length<=1000) {m:Int} (hm:0<=m/\m<=5):FK 12 [.slice (bdL b) [],.str s,.agg [.int .u8 1,.int .i64 m,.str [],.slice [] []]] (bndD (QV b s (.mk 1 m [] []))):=by
 obtain⟨c,d,e⟩:=Z5b h.va;have hl:=h.ln;have q:=Z01 (ZcN hm);exact Z9y b (by omega) c (λy a=>by have:=d y a;omega) e s (by omega) (.mk 1 m [] []) q.1 (Nat.le_trans q.2.2 (by decide)) q.2.1
theorem Za5 (r:Option (List Bd)) (b:List Bd): ∃ cs ok,bndD r=.tuple [.slice cs [],.bool ok]/\(ok=true->cs=bdL (r.getD b))/\(ok=false->r.getD b=b):=by
 cases r with
 |none=>exact⟨[],false,rfl,nofun,λ_=>rfl⟩
 |some c=>exact⟨bdL c,true,rfl,λ_=>rfl,nofun⟩
theorem Zun (hl:gl.length<=999999) (ps:List Int) (hp:ps.length<=281474976710656) (i:Nat) (vs:List Nm) (J:vs.length<=1000000) (HV: ∀ y∈vs,y∈gl/\Lx.Zk y=true): ∀ (m k n:Nat) (b:List Bd) (v:Bool),vs.length-k=m->k<=vs.length->n+m<=1000000000000->BdW gl b->(v=true->b=[]) →
  (∀ (c:List Bd) (w:Bool) (q:Nat),BdW gl c->(w=true->c=[])->SubB b c->(∀ y∈vs.drop k,y∈domB c)->q<=n+m →
   At Tryz.prog 0 (cut sc3 1) ⟨[(1,.slice (intC .i64 ps) []),(2,.ptr 0 0),(5,.slice (strC gl) []),(8,sD w (bdL c)),(9,.int .i64 q),(10,.int .i64 (i+1:Nat))],(0,.cells (xRw kd hs k1 n1 s1 l1 k2 n2 s2 l2 (boL bs) k3 n3 s3 l3 k4 n4 s4 l4 ts))::sO w⟩ FG) →
  i<=1000000 →
  At Tryz.prog 0 (cut sc3 2) ⟨[(1,.slice (intC .i64 ps) []),(2,.ptr 0 0),(5,.slice (strC gl) []),(8,sD v (bdL b)),(9,.int .i64 n),(10,.int .i64 i),(12,.slice (strC vs) []),(13,.int .i64 k)],(0,.cells (xRw kd hs k1 n1 s1 l1 k2 n2 s2 l2 (boL bs) k3 n3 s3 l3 k4 n4 s4 l4 ts))::sO v⟩ FG:=by
 intro m;have d:(intC .i64 ps).length=ps.length:=by simp[intC]
 induction m with
 |zero =>
  intro k n b v hm hk I u hv K hi;have E:=K b v n u hv (λy M=>M) (by rw[List.drop_eq_nil_of_le (show vs.length<=k by omega)];nofun) (by omega);cases v with
  |true =>
   have e:=hv rfl;subst e;refine At.tree (Z9 Z0) (Z8M kd hs k1 n1 s1 l1 k2 n2 s2 l2 (boL bs) k3 n3 s3 l3 k4 n4 s4 l4 ts (intC .i64 ps) (strC gl) n i (strC vs) k 0 0 [] [] true) ?_;simp only[SS,Zp];exact⟨λh=>by omega,λ_=>⟨by omega,E⟩⟩
  |false =>
   refine At.tree (Z9 Z0) (ZeO kd hs k1 n1 s1 l1 k2 n2 s2 l2 (boL bs) k3 n3 s3 l3 k4 n4 s4 l4 ts (intC .i64 ps) (strC gl) (bdL b) n i (strC vs) k 0 0 [] [] true) ?_;simp only[SS,Zp];exact⟨λh=>by omega,λ_=>⟨by omega,E⟩⟩
 |succ m G =>
  intro k n b v hm hk I u hv K hi;have h1:k<vs.length:=by omega
  have F:vs.drop k=vs[k]::vs.drop (k+1):=List.drop_eq_getElem_cons h1;obtain⟨A,t⟩:=HV _ (List.getElem_mem h1);have hx:=Z7z h1;rw[F] at K;generalize vs[k]=y at hx A t K;have N:=Z7s t;have step: ∀ x:Int,0<=x/\x<=5-> ∀ w,(w=true->(QV b y (.mk 1 x [] [])).getD b=[])->At Tryz.prog 0 (cut sc3 2) ⟨[(1,.slice (intC .i64 ps) []),(2,.ptr 0 0),(5,.slice (strC gl) []),(8,sD w (bdL ((QV b y (.mk 1 x [] [])).getD b))),(9,.int .i64 (n+1:Nat)),(10,.int .i64 i),(12,.slice (strC vs) []),(13,.int .i64 (k+1:Nat))],(0,.cells (xRw kd hs k1 n1 s1 l1 k2 n2 s2 l2 (boL bs) k3 n3 s3 l3 k4 n4 s4 l4 ts))::sO w⟩ FG:=λx hx w L=>by
   obtain⟨O,P⟩:=ZgP u.va t (ZcN hx);have hc:BdW gl ((QV b y (.mk 1 x [] [])).getD b):=by
    cases r:QV b y (.mk 1 x [] []) with
    |none=>exact u
    |some c=>exact u.bind A r
   refine G (k+1) (n+1) _ w (by omega) (by omega) (by omega) hc L (λc w q h1 h2 D H Q=>K c w q h1 h2 (λz B=>D z (P z B)) (λz B=>?_) (by omega)) hi;rcases List.mem_cons.1 B with rfl|B
   ·exact D _ O
   ·exact H z B
  have C:=λx hx=>(bdV u hl).bind (s:=y) (m:=x) (by omega) hx;clear K G F;cases v with
  |true =>
   have e:=hv rfl;subst e;by_cases o:n<ps.length
   ·have r:(intC .i64 ps)[n]? = some [.int .i64 ps[n]]:=by simp[intC,o]
    have l:=S.pick_ok ps[n] 5 (by decide) (by decide);have hr:=S.pkI_lt (x:=ps[n]) (n:=5) (by decide);generalize S.pkI ps[n] 5=x at l hr;generalize ps[n]=p at r l;obtain⟨cs,ok,f,g,j⟩:=Za5 (QV [] y (.mk 1 x [] [])) [];have a:=C x (by omega);rw[f] at a;have st:=step x (by omega);refine At.tree (Z9 Z0) (Z8M kd hs k1 n1 s1 l1 k2 n2 s2 l2 (boL bs) k3 n3 s3 l3 k4 n4 s4 l4 ts (intC .i64 ps) (strC gl) n i (strC vs) k p x y cs ok) ?_;simp only[SS,Zp,d];refine⟨λ_=>⟨λ_=>⟨⟨by omega,r⟩,l,by omega,⟨by omega,hx⟩,a,λh=>⟨by omega,?_⟩,λh=>⟨by omega,?_⟩⟩,λh=>by omega⟩,λh=>by omega⟩
    ·have:=st false nofun;rw[<- g h] at this;exact this
    ·have:=st true λ_=>j h;exact this
   ·obtain⟨cs,ok,f,g,j⟩:=Za5 (QV [] y (.mk 1 1 [] [])) [];have a:=C 1 (by omega);rw[f] at a;have st:=step 1 (by omega);refine At.tree (Z9 Z0) (Z8M kd hs k1 n1 s1 l1 k2 n2 s2 l2 (boL bs) k3 n3 s3 l3 k4 n4 s4 l4 ts (intC .i64 ps) (strC gl) n i (strC vs) k 0 0 y cs ok) ?_;simp only[SS,Zp,d];refine⟨λ_=>⟨λh=>by omega,λ_=>⟨by omega,⟨by omega,hx⟩,a,λh=>⟨by omega,?_⟩,λh=>⟨by omega,?_⟩⟩⟩,λh=>by omega⟩
    ·have:=st false nofun;rw[<- g h] at this;exact this
    ·have:=st true λ_=>j h;exact this
  |false =>
   by_cases o:n<ps.length
   ·have r:(intC .i64 ps)[n]? = some [.int .i64 ps[n]]:=by simp[intC,o]
    have l:=S.pick_ok ps[n] 5 (by decide) (by decide);have hr:=S.pkI_lt (x:=ps[n]) (n:=5) (by decide);generalize S.pkI ps[n] 5=x at l hr;generalize ps[n]=p at r l;obtain⟨cs,ok,f,g,j⟩:=Za5 (QV b y (.mk 1 x [] [])) b;have a:=C x (by omega);rw[f] at a;have st:=step x (by omega) false nofun;refine At.tree (Z9 Z0) (ZeO kd hs k1 n1 s1 l1 k2 n2 s2 l2 (boL bs) k3 n3 s3 l3 k4 n4 s4 l4 ts (intC .i64 ps) (strC gl) (bdL b) n i (strC vs) k p x y cs ok) ?_;simp only[SS,Zp,d];refine⟨λ_=>⟨λ_=>⟨⟨by omega,r⟩,l,by omega,⟨by omega,hx⟩,a,λh=>⟨by omega,?_⟩,λh=>⟨by omega,?_⟩⟩,λh=>by omega⟩,λh=>by omega⟩
    ·rw[<- g h] at st;exact st
    ·rw[j h] at st;exact st
   ·obtain⟨cs,ok,f,g,j⟩:=Za5 (QV b y (.mk 1 1 [] [])) b;have a:=C 1 (by omega);rw[f] at a;have st:=step 1 (by omega) false nofun;refine At.tree (Z9 Z0) (ZeO kd hs k1 n1 s1 l1 k2 n2 s2 l2 (boL bs) k3 n3 s3 l3 k4 n4 s4 l4 ts (intC .i64 ps) (strC gl) (bdL b) n i (strC vs) k 0 0 y cs ok) ?_;simp only[SS,Zp,d];refine⟨λ_=>⟨λh=>by omega,λ_=>⟨by omega,⟨by omega,hx⟩,a,λh=>⟨by omega,?_⟩,λh=>⟨by omega,?_⟩⟩⟩,λh=>by omega⟩
    ·rw[<- g h] at st;exact st
    ·rw[j h] at st;exact st
end
end Go.Proofs.YtaclfbhhekhflaaGreatDoor
/- SafetyGrounds. -/
namespace Go.Proofs.YtaclfbhhekhflaaGreatDoor
open Go.Sx
structure BoV (gl:List Nm) (x:Bo):Prop where
 lv:LitV gl x.l
 ok:S.okL x.l
 pl:x.l.pool.length<=1000000
 ov: ∀ y∈Tm.ovL x.l.a,y∈gl/\Lx.Zk y=true
theorem Zed {l:Lt} (b:l.no=false) (hk:l.k=1) {y:Nm}:y∈Z0j [l] [] ↔ y∈Tm.ovL l.a:=by
 rw[Zbl];have e:Qt [] l=addS [] (Tm.ovL l.a):=by unfold Qt;rw[if_neg (by simp[b]),if_pos hk]
 constructor
 ·intro h;refine Z4e (T:=Tm.ovL l.a) (λx hx z a=>?_) (λz a=>by simp[addS] at a) y h;rw[List.mem_singleton] at hx;subst hx;unfold Qt at a;rw[if_neg (by simp[b]),if_pos hk] at a;rcases Ql.1 a with a|a<;>exact a
 ·intro h
  have:=Ze0 (s:=addS [] []) [l] (Z0q List.nodup_nil) l (List.mem_singleton.2 rfl) y;refine this ?_;unfold Qt;rw[if_neg (by simp[b]),if_pos hk];exact Ql.2 (.inr h)
section
variable (kd:Int) (hs:LD) (k1 n1:Int) (s1:LU) (l1:LD) (k2 n2:Int) (s2:LU) (l2:LD) (bs:List Bo) (k3 n3:Int) (s3:LU) (l3:LD) (k4 n4:Int) (s4:LU) (l4:LD) (ts:LD) (gl:List Nm)
theorem Zuo (hl:gl.length<=999999) (ps:List Int) (hp:ps.length<=281474976710656) (HB: ∀ x∈bs,x.k=1->BoV gl x) (hbl:bs.length<=1000): ∀ (m i n:Nat) (b:List Bd) (v:Bool),bs.length-i=m->i<=bs.length->n<=i*1000000->BdW gl b->(v=true->b=[]) →
  (∀ (c:List Bd) (w:Bool),BdW gl c->(w=true->c=[])->SubB b c->(∀ x∈bs.drop i,x.k=1->x.l.no=false->x.l.k=1-> ∀ y∈Tm.ovL x.l.a,y∈domB c) →
   At Tryz.prog 0 (cut sc3 3) ⟨[(2,.ptr 0 0),(5,.slice (strC gl) []),(8,sD w (bdL c)),(17,.int .i64 0)],(0,.cells (xRw kd hs k1 n1 s1 l1 k2 n2 s2 l2 (boL bs) k3 n3 s3 l3 k4 n4 s4 l4 ts))::sO w⟩ FG) →
  At Tryz.prog 0 (cut sc3 1) ⟨[(1,.slice (intC .i64 ps) []),(2,.ptr 0 0),(5,.slice (strC gl) []),(8,sD v (bdL b)),(9,.int .i64 n),(10,.int .i64 i)],(0,.cells (xRw kd hs k1 n1 s1 l1 k2 n2 s2 l2 (boL bs) k3 n3 s3 l3 k4 n4 s4 l4 ts))::sO v⟩ FG:=by
 intro m;induction m with
 |zero =>
  intro i n b v hm hi N B hv K;have hK:=K b v B hv (λy g=>g) (by rw[List.drop_eq_nil_of_le (show bs.length<=i by omega)];nofun);cases v with
  |true =>
   have e:=hv rfl;subst e;refine At.tree (Z9 Z0) (ZeP kd hs k1 n1 s1 l1 k2 n2 s2 l2 (boL bs) k3 n3 s3 l3 k4 n4 s4 l4 ts (intC .i64 ps) (strC gl) n i 0 0 false [] [] 0 0 0 [] [] 0 0 [] [] [] false 0 [] 0 0 0 [] [] []) ?_;simp only[SS,Q6];exact⟨λh=>by omega,λ_=>hK⟩
  |false =>
   refine At.tree (Z9 Z0) (Zij kd hs k1 n1 s1 l1 k2 n2 s2 l2 (boL bs) k3 n3 s3 l3 k4 n4 s4 l4 ts (intC .i64 ps) (strC gl) (bdL b) n i 0 0 false [] [] 0 0 0 [] [] 0 0 [] [] [] false 0 [] 0 0 0 [] [] []) ?_;simp only[SS,Q6];exact⟨λh=>by omega,λ_=>hK⟩
 |succ m Q =>
  intro i n b v hm hi N B hv K;have h1:i<bs.length:=by omega
  have hx:(boL bs)[i]? = some bs[i].cs:=by simp[boL,h1]
  have L:=HB _ (List.getElem_mem h1);have hd:bs.drop i=bs[i]::bs.drop (i+1):=List.drop_eq_getElem_cons h1;rw[hd] at K;generalize bs[i]=x at hx L K;have s:(i+1)*1000000=i*1000000+1000000:=by rw[Nat.add_mul]
  have skip: ¬ (x.k=1/\x.l.no=false/\x.l.k=1)->At Tryz.prog 0 (cut sc3 1) ⟨[(1,.slice (intC .i64 ps) []),(2,.ptr 0 0),(5,.slice (strC gl) []),(8,sD v (bdL b)),(9,.int .i64 n),(10,.int .i64 (i+1:Nat))],(0,.cells (xRw kd hs k1 n1 s1 l1 k2 n2 s2 l2 (boL bs) k3 n3 s3 l3 k4 n4 s4 l4 ts))::sO v⟩ FG:=λO =>
   Q (i+1) n b v (by omega) (by omega) (by rw[s];exact Nat.le_trans N (Nat.le_add_right _ _)) B hv λc w R T U V=>K c w R T U λz f=>by
    rcases List.mem_cons.1 f with rfl|f
    ·exactλI j k=>absurd ⟨I,j,k⟩ O
    ·exact V z f
  have go:x.k=1->x.l.no=false->x.l.k=1->FK 10 [.slice (ltL [x.l]) [],.slice [] []] (.slice (strC (Z0j [x.l] [])) [])/\At Tryz.prog 0 (cut sc3 2) ⟨[(1,.slice (intC .i64 ps) []),(2,.ptr 0 0),(5,.slice (strC gl) []),(8,sD v (bdL b)),(9,.int .i64 n),(10,.int .i64 i),(12,.slice (strC (Z0j [x.l] [])) []),(13,.int .i64 (0:Nat))],(0,.cells (xRw kd hs k1 n1 s1 l1 k2 n2 s2 l2 (boL bs) k3 n3 s3 l3 k4 n4 s4 l4 ts))::sO v⟩ FG:=λI j k=>by
   have A:=L I;have M:=S.Bound_ok [x.l] (by simp) (λz f=>by rw[List.mem_singleton] at f;exact f ▸ A.ok) [] (by simp) (by simpa using A.pl);have P:(Z0j [x.l] []).length<=1000000:=by
    have:(Z0j [x.l] []).Nodup:=(Zeb [x.l] []).imp λ{u w} h e=>by rw[e] at h;exact Z4M _ h
    have:=List.Nodup.length_le_of_subset this (λy g=>((A.ov y ((Zed j k).1 g)).1:y∈gl));omega
   refine⟨M,Zun kd hs k1 n1 s1 l1 k2 n2 s2 l2 bs k3 n3 s3 l3 k4 n4 s4 l4 ts gl hl ps hp i (Z0j [x.l] []) P (λy g=>A.ov y ((Zed j k).1 g)) _ 0 n b v rfl (Nat.zero_le _) (by omega) B hv (λc w q R T U V q5=>?_) (by omega)⟩;refine Q (i+1) q c w (by omega) (by omega) (by rw[s];exact Nat.le_trans q5 (Nat.add_le_add N (by omega))) R T λc' w' r1 r2 r3 r4=>K c' w' r1 r2 (λy g=>r3 y (U y g)) λz f=>?_;rcases List.mem_cons.1 f with rfl|f
   ·exactλ_ _ _ y g=>r3 y (V y ((Zed j k).2 g))
   ·exact r4 z f
  clear K Q hd HB L;obtain⟨t,⟨d,no,p,a,o,⟨C,n5,G,E⟩,⟨D,n6,H,F⟩⟩,bc,l,X,W,r,⟨k7,n7,s7,l7⟩⟩:=x;simp only at skip go;have Y:((t:Int)=1)=(t=1):=propext (by omega);have el:((d:Int)=1)=(d=1):=propext (by omega);cases v with
  |true =>
   have e:=hv rfl;subst e;refine At.tree (Z9 Z0) (ZeP kd hs k1 n1 s1 l1 k2 n2 s2 l2 (boL bs) k3 n3 s3 l3 k4 n4 s4 l4 ts (intC .i64 ps) (strC gl) n i t d no p (Tm.cellsL a) o C n5 G (Tm.cellsL E) D n6 H (Tm.cellsL F) (ltL bc) l X (elL W) r k7 n7 s7 (Tm.cellsL l7) (strC (Z0j [⟨d,no,p,a,o,.mk C n5 G E,.mk D n6 H F⟩] []))) ?_;simp only[SS,Q6,Y,el];exact⟨λ_=>⟨⟨by omega,hx⟩,⟨by omega,hx⟩,λh=>⟨by omega,skip (by simp[h])⟩,λhk=>⟨λh=>⟨by omega,skip (by simp[h])⟩,λh2=>⟨λh=>⟨by omega,skip (by simp[h])⟩,λJ=>go hk J h2⟩⟩⟩,λh=>by omega⟩
  |false =>
   refine At.tree (Z9 Z0) (Zij kd hs k1 n1 s1 l1 k2 n2 s2 l2 (boL bs) k3 n3 s3 l3 k4 n4 s4 l4 ts (intC .i64 ps) (strC gl) (bdL b) n i t d no p (Tm.cellsL a) o C n5 G (Tm.cellsL E) D n6 H (Tm.cellsL F) (ltL bc) l X (elL W) r k7 n7 s7 (Tm.cellsL l7) (strC (Z0j [⟨d,no,p,a,o,.mk C n5 G E,.mk D n6 H F⟩] []))) ?_;simp only[SS,Q6,Y,el];exact⟨λ_=>⟨⟨by omega,hx⟩,⟨by omega,hx⟩,λh=>⟨by omega,skip (by simp[h])⟩,λhk=>⟨λh=>⟨by omega,skip (by simp[h])⟩,λh2=>⟨λh=>⟨by omega,skip (by simp[h])⟩,λJ=>go hk J h2⟩⟩⟩,λh=>by omega⟩
end
end Go.Proofs.YtaclfbhhekhflaaGreatDoor
/- SafetyGrounds,whole. -/
namespace Go.Proofs.YtaclfbhhekhflaaGreatDoor
open Go.Sx
theorem Zq0 {y:Nm}: ∀ x:Tm,y∈x.ov->y∈x.vs
 |.mk k n s l=>λh=>by
  have IH: ∀ z∈l,y∈z.ov->y∈z.vs:=λz b=>Zq0 z;have c: ∀ r:List Tm,(∀ z∈r,y∈z.ov->y∈z.vs)->y∈Tm.ovL r->y∈Tm.vsL r:=by
   intro r;induction r with
   |nil=>intro _ h;exact h
   |cons a r e =>
    intro h d;simp only[Tm.ovL,Tm.vsL,List.mem_append] at d ⊢;exact d.imp (h a (List.mem_cons_self ..)) (e λz b=>h z (List.mem_cons_of_mem _ b))
  simp only[Tm.ov,Tm.vs,Tm.v1,List.mem_append] at h ⊢;split at h
  ·cases h
  ·split at h
   ·rcases List.mem_cons.1 h with rfl|h
    ·exact .inl (by simp_all)
    ·exact .inr (c l IH h)
   ·exact .inr (c l IH h)
termination_by x=>SizeOf.sizeOf x
decreasing_by
 have:=List.sizeOf_lt_of_mem b;simp only[Tm.mk.sizeOf_spec];omega
theorem Zq1 {y:Nm} (l:List Tm) (h:y∈Tm.ovL l):y∈Tm.vsL l:=by
 induction l with
 |nil=>exact h
 |cons a r b =>
  simp only[Tm.ovL,Tm.vsL,List.mem_append] at h ⊢;exact h.imp (Zq0 a) b
theorem vs_W {y:Nm} {l:List Tm} (h:y∈Tm.vsL l):y∈Zj l:=by
 obtain⟨t,a,b⟩:=Z20.1 h;exact List.mem_flatMap.2 ⟨t,a,ZH.2 b⟩
theorem Zq9 {t:Tm} (h:t.kd=3):t.nm∈t.vs:=by
 obtain⟨k,n,s,l⟩:=t;simp only[Tm.kd] at h;simp[Tm.vs,Tm.v1,Tm.nm,h]
section
variable (kd:Int) (hs:LD) (k1 n1:Int) (s1:LU) (l1:LD) (k2 n2:Int) (s2:LU) (l2:LD) (bs:List Bo) (k3 n3:Int) (s3:LU) (l3:LD) (k4 n4:Int) (s4:LU) (l4:LD) (ts:LD) (gl:List Nm)
theorem Zup (ps:List Int) (a:List Nm) (hl:gl.length<=281474976710656) (e:a.length<=281474976710656) (d: ∀ y∈gl,y.length<=281474976710656) (K:(∀ y∈gl,y ∉ a/\Lx.Zk y=true)->At Tryz.prog 0 (cut sc3 1) ⟨[(1,.slice (intC .i64 ps) []),(2,.ptr 0 0),(5,.slice (strC gl) []),(8,.vec 1),(9,.int .i64 (0:Nat)),(10,.int .i64 (0:Nat))],[(0,.cells (xRw kd hs k1 n1 s1 l1 k2 n2 s2 l2 (boL bs) k3 n3 s3 l3 k4 n4 s4 l4 ts)),(1,.arr true 5 108 [])]⟩ FG): ∀ (m i:Nat),gl.length-i=m->i<=gl.length->(∀ y∈gl.take i,y ∉ a/\Lx.Zk y=true) →
  At Tryz.prog 0 (cut sc3 0) ⟨[(1,.slice (intC .i64 ps) []),(2,.ptr 0 0),(5,.slice (strC gl) []),(6,.slice (strC a) []),(7,.int .i64 i)],[(0,.cells (xRw kd hs k1 n1 s1 l1 k2 n2 s2 l2 (boL bs) k3 n3 s3 l3 k4 n4 s4 l4 ts))]⟩ FG:=by
 intro m;induction m with
 |zero =>
  intro i hm hi ha;rw[List.take_of_length_le (by omega)] at ha;refine At.tree (Z9 Z0) (Zik kd hs k1 n1 s1 l1 k2 n2 s2 l2 (boL bs) k3 n3 s3 l3 k4 n4 s4 l4 ts (intC .i64 ps) (strC gl) (strC a) i [] true true) ?_;simp only[SS,Zp];exact⟨λh=>by omega,λ_=>K ha⟩
 |succ m l =>
  intro i hm hi ha;have h1:i<gl.length:=by omega
  have hx:=Z7z h1;have k:=List.getElem_mem h1;have f:=S.lhas_ok a gl[i] e;have g:=Z0D gl[i] (by have:=d _ k;omega);have c:=l (i+1) (by omega) (by omega);have j:gl.take (i+1)=gl.take i++[gl[i]]:=by rw[List.take_append_getElem h1]
  rw[j] at c;generalize gl[i]=y at hx f g c;refine At.tree (Z9 Z0) (Zik kd hs k1 n1 s1 l1 k2 n2 s2 l2 (boL bs) k3 n3 s3 l3 k4 n4 s4 l4 ts (intC .i64 ps) (strC gl) (strC a) i y (decide (y∈a)) (Lx.Zk y)) ?_;simp only[SS,Zp];refine⟨λ_=>⟨⟨by omega,hx⟩,f,λ_=>trivial,λh=>⟨⟨by omega,hx⟩,g,λ_=>trivial,λh2=>⟨by omega,c λz b=>?_⟩⟩⟩,λh=>by omega⟩;rcases List.mem_append.1 b with b|b
  ·exact ha z b
  ·rw[List.mem_singleton] at b;subst b;exact⟨by simpa using h,by simpa using h2⟩
end
theorem Z8v {r:Ru} (e:r.wf 281474976710656) (f:szRu r 400<=400) (g: ∀ y∈Zq r,Lx.Zk y=true): ∀ x∈r.b,x.k=1->BoV (srt (Zq r)) x:=λx hx hk=>by
 have hf:=(Z90 f).b x hx;obtain⟨q,i,hl⟩:=Zfx f x hx;obtain⟨f1,f2,f3,f4⟩:=Zd0 hl i;have d:=(e.b x hx).l;obtain⟨_,_,m,n,_,k,l⟩:=d;have a: ∀ t∈x.l.a++[x.l.l,x.l.r],∀ y∈t.vs,y∈Zq r:=λt c y b=>by
  refine Z1W.2 (.inr (.inr (.inr ⟨x,hx,.inl ⟨hk,?_⟩⟩)));refine vs_W (Z20.2 ⟨t,?_,b⟩);simpa [Zb] using c
 have hp:=Z92 hl;have j:(x.l.pool.length:Int)+2<=q:=Int.le_trans hp.2 hl;refine⟨⟨⟨k,f1,f3⟩,⟨l,f2,f4⟩,λh=>Z0k.2 (a x.l.l (by simp) _ (Zq9 h)),λh=>Z0k.2 (a x.l.r (by simp) _ (Zq9 h))⟩,S.okL_of (e.b x hx).l (Z5L (hf.1.2.1 _ (List.mem_singleton.2 rfl)) (by decide)),by omega,λy b=>?_⟩;obtain⟨t,c,b⟩:=Z20.1 (Zq1 _ b)
 have:=a t (List.mem_append_left _ c) y b;exact⟨Z0k.2 this,g y this⟩
theorem Zb1 (r:Ru) (p:r.wf 281474976710656) (e:S.okR r) (q:(Zq r).length<=1073741823) (s:(ZV r).length<=1073741823) (ps:List Int) (hp:ps.length<=281474976710656) :
  FK 3 [.agg r.cs,.slice (intC .i64 ps) []] (.bool true):=by
 have F:=S.awake_ok;have t:=S.Global_ok r e q;have u:=S.Unsafe_ok r e s;have v:=S.szr_ok r p 400 (by decide);have k:(srt (Zq r)).length=(Zq r).length:=(Z3j _).length_eq;have m:(srt (ZV r)).length=(ZV r).length:=(Z3j _).length_eq;have o:=Zb5 p;have MAIN: ¬ 400<szRu r 400->(∀ y∈srt (Zq r),y ∉ srt (ZV r)/\Lx.Zk y=true)->(srt (Zq r)).length<=999999/\r.b.length<=1000/\(∀ x∈r.b,x.k=1->BoV (srt (Zq r)) x)/\(∀ (b c:List Bd),BdW (srt (Zq r)) b->(∀ x∈r.b,x.k=1->x.l.no=false->x.l.k=1-> ∀ y∈Tm.ovL x.l.a,y∈domB b)->Z0G xE (r.b.length+1) (Z0x r.b) b=some c-> ∀ g∈srt (Zq r),g∈domB c):=λi a=>by
  have i:szRu r 400<=400:=by omega
  have hf:=Z90 i;refine⟨?_,by have:=hf.bl;omega,Z8v p i λy h=>(a y (Z0k.2 h)).2,λb c G ha hr g j=>?_⟩
  ·have h1:=Z8d hf;have h2:=List.Nodup.length_le_of_subset (Z1A r) λx hx=>(Z8c.2 hx:x∈Z3X r);omega
  ·refine Zld (Nat.lt_succ_of_le (List.length_filterMap_le _ _)) G.va hr (λl hl n hk y a=>?_) g ?_
   ·obtain⟨x,hx,h1,rfl⟩:=ZcZ.1 hl;exact ha x hx h1 n hk y a
   ·have h1:=(a g j).1;rw[Z0k] at h1 j;refine Classical.byContradiction λh2=>h1 (Z3t.2 (.inr ⟨j,h2⟩))
 generalize srt (ZV r)=E at u m MAIN;have f: ∀ y∈srt (Zq r),y.length<=281474976710656:=λy a=>o y (Z0k.1 a);generalize srt (Zq r)=gl at t k MAIN f;generalize szRu r 400=z at v MAIN;obtain⟨kd,hs,⟨k1,n1,s1,l1⟩,⟨k2,n2,s2,l2⟩,bs,⟨k3,n3,s3,l3⟩,⟨k4,n4,s4,l4⟩,ts⟩:=r;refine FnOK.tree Z3 fp3 (Z9 Z0) (ZsY kd (heL hs) k1 n1 s1 (Tm.cellsL l1) k2 n2 s2 (Tm.cellsL l2) (boL bs) k3 n3 s3 (Tm.cellsL l3) k4 n4 s4 (Tm.cellsL l4) (Tm.cellsL ts) (intC .i64 ps) (strC gl) (strC E) z) ?_;simp only[SS];refine⟨F,t,u,v,λ_=>trivial,λi=>?_⟩;refine Zup kd (heL hs) k1 n1 s1 (Tm.cellsL l1) k2 n2 s2 (Tm.cellsL l2) bs k3 n3 s3 (Tm.cellsL l3) k4 n4 s4 (Tm.cellsL l4) (Tm.cellsL ts) gl ps E (by omega) (by omega) f (λa=>?_) _ 0 rfl (Nat.zero_le _) (by simp);obtain⟨A,B,C,J⟩:=MAIN (by omega) a;refine Zuo kd (heL hs) k1 n1 s1 (Tm.cellsL l1) k2 n2 s2 (Tm.cellsL l2) bs k3 n3 s3 (Tm.cellsL l3) k4 n4 s4 (Tm.cellsL l4) (Tm.cellsL ts) gl A ps hp C B _ 0 0 [] true rfl (Nat.zero_le _) (Nat.zero_le _) (BdW.nil gl) (λ_=>rfl) λc w D K M L=>?_;exact Zum kd (heL hs) k1 n1 s1 (Tm.cellsL l1) k2 n2 s2 (Tm.cellsL l2) bs k3 n3 s3 (Tm.cellsL l3) k4 n4 s4 (Tm.cellsL l4) (Tm.cellsL ts) gl A (λx hx hk=>(C x hx hk).lv) B (bs.length+1) 0 c w (by omega) D K λd H I=>J c d D L H
theorem Z89 (r:Ru) (a:r.wf 281474976710656) (b:szs r.cs<=1048576) (ps:List Int) (hp:ps.length<=281474976710656) :
  FK 3 [.agg r.cs,.slice (intC .i64 ps) []] (.bool true):=by
 obtain⟨h1,h2⟩:=Zp8 b;obtain⟨c,d⟩:=Zqx (r:=r);exact Zb1 r a (S.okR_of a h1) (by omega) (by omega) ps hp
end Go.Proofs.YtaclfbhhekhflaaGreatDoor
/- What the bound on the bulk says of each argument. -/
namespace Go.Proofs.YtaclfbhhekhflaaGreatDoor
open Go.Sx
theorem Za4 {H:Type} (l:List (DataW H)):Rows.uptoBulkAll l=(l.map Rows.uptoBulk).sum:=by
 induction l with
 |nil=>rfl
 |cons a r b=>rw[Rows.uptoBulkAll,b,List.map_cons,List.sum_cons]
theorem Zfm {H:Type}:Blk (H:=H) Rows.uptoBulk where
 one d:=by
  cases d with
  |lit l=>cases l<;>simp[Rows.uptoBulk]
  |_=>simp[Rows.uptoBulk]
 sl e s:=by rw[Rows.uptoBulk,Za4 e];omega
 ag l:=by rw[Rows.uptoBulk,Za4 l];omega
theorem ZiJ {H:Type} {ds b:List (DataW H)} (h:Rows.uptoSmall H (ds++b)=true): ∀ d∈ds,Bk 1048576 d:=λd c=>by
 have h1:=of_decide_eq_true h;refine⟨Rows.uptoBulk,Zfm,Nat.le_trans ?_ h1⟩;have key: ∀ l:List (DataW H),d∈l->Rows.uptoBulk d<=Rows.uptoBulkAll l:=by
  intro l;induction l with
  |nil=>intro h;cases h
  |cons a r e =>
   intro h;simp only[Rows.uptoBulkAll];rcases List.mem_cons.1 h with rfl|h
   ·omega
   ·have:=e h;omega
 exact key _ (List.mem_append_left _ c)
end Go.Proofs.YtaclfbhhekhflaaGreatDoor
