/- Own work: a layer over the kit: plain data,a walk over it,its soundness. -/
import Derived.Test.YtecgehidegnmnaaGreatDoorPrB
import Derived.Test.YtecgehidegnmnaaGreatDoorPrK
set_option linter.all false
set_option maxRecDepth 100000
/- The parser: lists of api.Head. -/
open Go.Sx.Ps (PR Z13 Z1 Q9 zL z0 Zp Z0 QS ZT Q7 Z0t QO Zb Z2g Z27 Zc Z7 Zf Zm)
open Go.Sx.Lx (ZC)
namespace Go.Proofs.YtecgehidegnmnaaGreatDoor
open Go.Sx
open Go.Sx.Lx (Tk Zo)
theorem Zk2 (ts:List Tk) (i:Int) (g:Nat) (m:Int) (a:LU) (so:Bool) (r1 r2 r3:LD):gC (ctr libT) 10 Z8X Z7w [] [dP 0 0,dI m,dS a,dF g [] [dP 1 0]] [] (psO1 ts i so r1 r2 r3)=(Jm (cut Z7w 0) {tm:=[(0,dP 0 0),(1,dI m),(2,dS a),(3,dF g [] [dP 1 0]),(8,dV 10)],ob:=[(0,oC [dL (List.map Zo ts) [],dI i,dV 2,dV 3,dV 4,dB so]),(1,oC [dP 0 0]),(2,oR true 20 42 r1),(3,oR true 5 53 r2),(4,oR true 2 138 r3),(10,oR true 3 61 [])]}:Tr):=by kernel_rfl
def hdLH (ts:List Tk) (i:Int) (g:Nat) (m:Int) (a:LU) (so:Bool) (r1 r2 r3 out:LD):St:=⟨[(0,.ptr 0 0),(1,.int .i64 m),(2,.str a),(3,.func (.func g) [] [.ptr 1 0]),(8,.vec 10)],psO1 ts i so r1 r2 r3++[(10,.arr true 3 61 out)]⟩
theorem Z6a (ts:List Tk) (i j k:Int) (g:Nat) (m:Int) (d:LU) (so b c:Bool) (hp:LU) (ha a:LD) (v:Value) (r1 r2 r3 out:LD):let A:=[(0,oC [dL (List.map Zo ts) [],dI k,dV 2,dV 3,dV 4,dB so]),(1,oC [dP 0 0]),(2,oR true 20 42 r1),(3,oR true 5 53 r2),(4,oR true 2 138 r3),(10,oR true 3 61 (out++[[dS hp,dL ha [],dL a []]]))];let B:=[(0,oC [dP 1 0]),(1,oC [dL (List.map Zo ts) [],dI i,dV 2,dV 3,dV 4,dB so]),(2,oR true 20 42 r1),(3,oR true 5 53 r2),(4,oR true 2 138 r3)];let G:=[dS hp,dL ha [],dL a []];let H:=psO ts k so r1 r2 r3;let I:=dF g [] [dP 0 0];let J:=D.pan v;let K:=cut Z7w 0;goT Tryz.prog {F:=λx=>libT,C:=λn=>if n=16 then psB false D.nils [] v else if n=19 then psB b (dA G) (psQ0 ts j so r1 r2 r3) v else psQ (dB c) H,E:=noE} 10 (finF false 10 Z8X) 2000 K (hdLH ts i g m d so r1 r2 r3 out)=(brT (decide (m<=(↑(List.length out):Int))) (Ow (CQ 54 [dP 0 0,dI 5] (psO ts i so r1 r2 r3) J []) (Rt J [(1,oC [dP 0 0])])) (brT b (Ow (CallL Tryz.prog I [] B λr0 ob0=>r0=dA G/\ob0=[(0,oC [dP 1 0]),(1,oC [dL (List.map Zo ts) [],dI j,dV 2,dV 3,dV 4,dB so]),(2,oR true 20 42 r1),(3,oR true 5 53 r2),(4,oR true 2 138 r3)]) (Ow (Zk 3 [G]/\List.length out+1<=1073741824) (Ow (CQ 66 [dP 0 0,dL [[dS d]] []] (psO ts j so r1 r2 r3) (dB c) H) (brT (!c) (Rt (dV 10) A) (Jm K {tm:=[(0,dP 0 0),(1,dI m),(2,dS d),(3,dF g [] [dP 1 0]),(8,dV 10)],ob:=A}))))) (Ow (CallL Tryz.prog I [] B λr0 ob0=>r0=D.pan v/\ob0=[]) (Rt J []))):Tr):=by intro A B G H I J K;kernel_rfl
theorem qLH2 (p:PS) (g b:Nat) (d:LU) (c:Nat->PR He) (i0:Nat) (hm:b<=1000)
  (o: ∀ k,i0<=k->CallL Tryz.prog (.func (.func g) [] [.ptr 0 0]) [] (p.oq k) (Z59 p (λt:He=>.agg (He.cs t)) (c k)))
  (m: ∀ k a j,i0<=k->c k=.ok a j->k<=j): ∀ (n:Nat) (out:List He) (i:Nat),i0<=i->b+1<=n+out.length->out.length<=b →
  At Tryz.prog 10 (cut Z7w 0) (hdLH p.ts i g b d p.so p.r1 p.r2 p.r3 (out.map He.cs)) (FinQ false 10 Z8X (ZcQ p 3 61 He.cs (Z13 p.ts b d c n out i)))
 |0,out,i,hi,r,s=>by omega
 |n+1,out,i,hi,r,s=>by
  unfold Z13;have hc:=o i hi;by_cases l:b<=out.length
  ·rw[if_pos l];refine At.tree Z0K (Z6a p.ts i 0 0 g b d p.so false false [] [] [] (fltV i 5) p.r1 p.r2 p.r3 (out.map He.cs)) ?_;simp only[SS,List.length_map];exact⟨λ_=>⟨QV p i 5,rfl⟩,λh=>by omega⟩
  ·rw[if_neg l];cases hx:c i with
   |bad a e =>
    rw[hx] at hc;refine At.tree Z0K (Z6a p.ts i 0 0 g b d p.so false false [] [] [] (fltV a e) p.r1 p.r2 p.r3 (out.map He.cs)) ?_;simp only[SS,List.length_map];exact⟨λh=>by omega,λ_=>⟨nofun,hc,rfl⟩⟩
   |ok t j =>
    rw[hx] at hc;obtain⟨hp,ha,f⟩:=t;have u:=ZY p j [d] [] (by simp);refine At.tree Z0K (Z6a p.ts i j ((if Z1 p.ts j [d]=true then j+1 else j:Nat):Int) g b d p.so true (Z1 p.ts j [d]) hp (Tm.cellsL ha) (ltL f) Go.undef p.r1 p.r2 p.r3 (out.map He.cs)) ?_;simp only[SS,List.length_map];refine⟨λh=>by omega,λ_=>⟨⟨hc,⟨by simp[Zk],by omega⟩,u,?_⟩,nofun⟩⟩;have q:=m i _ j hi hx;have e:out.map He.cs++[[.str hp,.slice (Tm.cellsL ha) [],.slice (ltL f) []]]=(out++[(⟨hp,ha,f⟩:He)]).map He.cs:=by simp[He.cs]
    rw[e];cases hs:Z1 p.ts j [d] with
    |true =>
     refine⟨nofun,λ_=>?_⟩
     have:=qLH2 p g b d c i0 hm o m n (out++[(⟨hp,ha,f⟩:He)]) (j+1) (by omega) (by simp;omega) (by simp;omega);simp only[PR.bind,hs,if_true];exact this
    |false =>
     refine⟨λ_=>?_,nofun⟩;simp only[PR.bind,hs,Bool.false_eq_true,if_false];exact⟨rfl,rfl⟩
theorem Zie (p:PS) (g b:Nat) (d:LU) (c:Nat->PR He) (i:Nat) (hm:b<=1000)
  (h: ∀ k,i<=k->CallL Tryz.prog (.func (.func g) [] [.ptr 0 0]) [] (p.oq k) (Z59 p (λt:He=>.agg (He.cs t)) (c k)))
  (f: ∀ k a j,i<=k->c k=.ok a j->k<=j):CF 172 [.ptr 0 0,.int .i64 b,.str d,.func (.func g) [] [.ptr 1 0]] (p.ob i) (ZaN p (λl:List He=>.slice (l.map He.cs) []) (Q9 p.ts b d c i)):=by
 refine Z20 (n:=3) (e:=61) ?_;refine CallL.tree Z5 ZiP (Z9 Z3 Z8) (Zk2 p.ts i g b d p.so p.r1 p.r2 p.r3) ?_;exact qLH2 p g b d c i hm h f (b+1) [] i (Nat.le_refl _) (by simp) (by simp)
end Go.Proofs.YtecgehidegnmnaaGreatDoor
/- The parser: lists of api.Elem. -/
namespace Go.Proofs.YtecgehidegnmnaaGreatDoor
open Go.Sx
open Go.Sx.Lx (Tk Zo)
theorem Zk3 (ts:List Tk) (i:Int) (g:Nat) (m:Int) (a:LU) (so:Bool) (r1 r2 r3:LD):gC (ctr libT) 10 Z8W Z7v [] [dP 0 0,dI m,dS a,dF g [] [dP 1 0]] [] (psO1 ts i so r1 r2 r3)=(Jm (cut Z7v 0) {tm:=[(0,dP 0 0),(1,dI m),(2,dS a),(3,dF g [] [dP 1 0]),(8,dV 10)],ob:=[(0,oC [dL (List.map Zo ts) [],dI i,dV 2,dV 3,dV 4,dB so]),(1,oC [dP 0 0]),(2,oR true 20 42 r1),(3,oR true 5 53 r2),(4,oR true 2 138 r3),(10,oR true 2 108 [])]}:Tr):=by kernel_rfl
def hdLE (ts:List Tk) (i:Int) (g:Nat) (m:Int) (a:LU) (so:Bool) (r1 r2 r3 out:LD):St:=⟨[(0,.ptr 0 0),(1,.int .i64 m),(2,.str a),(3,.func (.func g) [] [.ptr 1 0]),(8,.vec 10)],psO1 ts i so r1 r2 r3++[(10,.arr true 2 108 out)]⟩
theorem Z6b (ts:List Tk) (i j k:Int) (g:Nat) (m:Int) (a:LU) (so b c:Bool) (e d:LD) (v:Value) (r1 r2 r3 out:LD):let A:=[(0,oC [dL (List.map Zo ts) [],dI k,dV 2,dV 3,dV 4,dB so]),(1,oC [dP 0 0]),(2,oR true 20 42 r1),(3,oR true 5 53 r2),(4,oR true 2 138 r3),(10,oR true 2 108 (out++[[dL e [],dL d []]]))];let B:=[(0,oC [dP 1 0]),(1,oC [dL (List.map Zo ts) [],dI i,dV 2,dV 3,dV 4,dB so]),(2,oR true 20 42 r1),(3,oR true 5 53 r2),(4,oR true 2 138 r3)];let G:=[dL e [],dL d []];let H:=psO ts k so r1 r2 r3;let I:=dF g [] [dP 0 0];let J:=D.pan v;let K:=cut Z7v 0;goT Tryz.prog {F:=λx=>libT,C:=λn=>if n=16 then psB false D.nils [] v else if n=19 then psB b (dA G) (psQ0 ts j so r1 r2 r3) v else psQ (dB c) H,E:=noE} 10 (finF false 10 Z8W) 2000 K (hdLE ts i g m a so r1 r2 r3 out)=(brT (decide (m<=(↑(List.length out):Int))) (Ow (CQ 54 [dP 0 0,dI 5] (psO ts i so r1 r2 r3) J []) (Rt J [(1,oC [dP 0 0])])) (brT b (Ow (CallL Tryz.prog I [] B λr0 ob0=>r0=dA G/\ob0=[(0,oC [dP 1 0]),(1,oC [dL (List.map Zo ts) [],dI j,dV 2,dV 3,dV 4,dB so]),(2,oR true 20 42 r1),(3,oR true 5 53 r2),(4,oR true 2 138 r3)]) (Ow (Zk 2 [G]/\List.length out+1<=1073741824) (Ow (CQ 66 [dP 0 0,dL [[dS a]] []] (psO ts j so r1 r2 r3) (dB c) H) (brT (!c) (Rt (dV 10) A) (Jm K {tm:=[(0,dP 0 0),(1,dI m),(2,dS a),(3,dF g [] [dP 1 0]),(8,dV 10)],ob:=A}))))) (Ow (CallL Tryz.prog I [] B λr0 ob0=>r0=D.pan v/\ob0=[]) (Rt J []))):Tr):=by intro A B G H I J K;kernel_rfl
theorem qLE2 (p:PS) (g b:Nat) (d:LU) (c:Nat->PR El) (i0:Nat) (hm:b<=1000)
  (q: ∀ k,i0<=k->CallL Tryz.prog (.func (.func g) [] [.ptr 0 0]) [] (p.oq k) (Z59 p (λt:El=>.agg (El.cs t)) (c k)))
  (o: ∀ k a j,i0<=k->c k=.ok a j->k<=j): ∀ (n:Nat) (out:List El) (i:Nat),i0<=i->b+1<=n+out.length->out.length<=b →
  At Tryz.prog 10 (cut Z7v 0) (hdLE p.ts i g b d p.so p.r1 p.r2 p.r3 (out.map El.cs)) (FinQ false 10 Z8W (ZcQ p 2 108 El.cs (Z13 p.ts b d c n out i)))
 |0,out,i,hi,s,u=>by omega
 |n+1,out,i,hi,s,u=>by
  unfold Z13;have hc:=q i hi;by_cases f:b<=out.length
  ·rw[if_pos f];refine At.tree Z0K (Z6b p.ts i 0 0 g b d p.so false false [] [] (fltV i 5) p.r1 p.r2 p.r3 (out.map El.cs)) ?_;simp only[SS,List.length_map];exact⟨λ_=>⟨QV p i 5,rfl⟩,λh=>by omega⟩
  ·rw[if_neg f];cases hx:c i with
   |bad a e =>
    rw[hx] at hc;refine At.tree Z0K (Z6b p.ts i 0 0 g b d p.so false false [] [] (fltV a e) p.r1 p.r2 p.r3 (out.map El.cs)) ?_;simp only[SS,List.length_map];exact⟨λh=>by omega,λ_=>⟨nofun,hc,rfl⟩⟩
   |ok t j =>
    rw[hx] at hc;obtain⟨m,l⟩:=t;have v:=ZY p j [d] [] (by simp);refine At.tree Z0K (Z6b p.ts i j ((if Z1 p.ts j [d]=true then j+1 else j:Nat):Int) g b d p.so true (Z1 p.ts j [d]) (Tm.cellsL m) (ltL l) Go.undef p.r1 p.r2 p.r3 (out.map El.cs)) ?_;simp only[SS,List.length_map];refine⟨λh=>by omega,λ_=>⟨⟨hc,⟨by simp[Zk],by omega⟩,v,?_⟩,nofun⟩⟩;have r:=o i _ j hi hx;have e:out.map El.cs++[[.slice (Tm.cellsL m) [],.slice (ltL l) []]]=(out++[(⟨m,l⟩:El)]).map El.cs:=by simp[El.cs]
    rw[e];cases hs:Z1 p.ts j [d] with
    |true =>
     refine⟨nofun,λ_=>?_⟩
     have:=qLE2 p g b d c i0 hm q o n (out++[(⟨m,l⟩:El)]) (j+1) (by omega) (by simp;omega) (by simp;omega);simp only[PR.bind,hs,if_true];exact this
    |false =>
     refine⟨λ_=>?_,nofun⟩;simp only[PR.bind,hs,Bool.false_eq_true,if_false];exact⟨rfl,rfl⟩
theorem Zif (p:PS) (g b:Nat) (d:LU) (c:Nat->PR El) (i:Nat) (hm:b<=1000)
  (h: ∀ k,i<=k->CallL Tryz.prog (.func (.func g) [] [.ptr 0 0]) [] (p.oq k) (Z59 p (λt:El=>.agg (El.cs t)) (c k)))
  (f: ∀ k a j,i<=k->c k=.ok a j->k<=j):CF 192 [.ptr 0 0,.int .i64 b,.str d,.func (.func g) [] [.ptr 1 0]] (p.ob i) (ZaN p (λl:List El=>.slice (l.map El.cs) []) (Q9 p.ts b d c i)):=by
 refine Z20 (n:=2) (e:=108) ?_;refine CallL.tree Z5 ZiM (Z9 Z3 Z8) (Zk3 p.ts i g b d p.so p.r1 p.r2 p.r3) ?_;exact qLE2 p g b d c i hm h f (b+1) [] i (Nat.le_refl _) (by simp) (by simp)
end Go.Proofs.YtecgehidegnmnaaGreatDoor
/- The parser: braces,elements,aggregates. -/
namespace Go.Proofs.YtecgehidegnmnaaGreatDoor
open Go.Sx
open Go.Sx.Lx (Tk Zo)
open Go.Sx.Ps (kT nmT W Sm)
abbrev zB:Bo:=⟨0,zL,[],false,0,[],0,z0⟩
abbrev boE (b:Bo):D:=.agg [.int .u8 b.k,.int .u8 b.l.k,.bool b.l.no,.str b.l.p,.slice (Tm.cellsL b.l.a) [],.int .u8 b.l.op,.int .u8 (kT b.l.l:Nat),.int .i64 (nT b.l.l),.str (nmT b.l.l),.slice (Tm.cellsL (Ps.arT b.l.l)) [],.int .u8 (kT b.l.r:Nat),.int .i64 (nT b.l.r),.str (nmT b.l.r),.slice (Tm.cellsL (Ps.arT b.l.r)) [],.slice (ltL b.c) [],.bool b.no,.int .u8 b.f,.slice (elL b.e) [],.int .u8 b.op,.int .u8 (kT b.b:Nat),.int .i64 (nT b.b),.str (nmT b.b),.slice (Tm.cellsL (Ps.arT b.b)) []]
theorem ZjE (b:Bo):boE b=.agg (Bo.cs b):=by
 obtain⟨k,⟨lk,a,l,j,d,⟨k1,m,s1,g⟩,⟨k2,n,o,h⟩⟩,c,no,f,e,op,⟨k3,n3,p,i⟩⟩:=b;rfl
theorem Z8V {α:Type} {p:PS} {enc:α->D} {x:PR α} {d:D} {ys:List D} {ob:Obs} (h:CallL Tryz.prog d ys ob (RS p.oq enc x)):CallL Tryz.prog d ys ob (Z59 p enc x):=by
 cases x<;>exact h
theorem qBrE (p:PS) (g:Nat) (b:Nat->PR El) (i:Nat) (f: ∀ k,CallL Tryz.prog (.func (.func g) [] [.ptr 0 0]) [] (p.oq k) (RS p.oq (λt:El=>.agg (El.cs t)) (b k))) (d: ∀ k a j,b k=.ok a j->k<=j) :
  CF 173 [.ptr 0 0,.func (.func g) [] [.ptr 1 0]] (p.ob i) (RS p.ob (λl:List El=>.slice (elL l) []) (Zp p.ts b i)):=by
 refine Z0P (CallL.tree Z5 ZiO (ZE Z3 λ_=>(Z4 (Z2 _ _ _ _) (Z4 (Z2 _ _ _ _) (Z2 _ _ _ _)))) (Zh3 p.ts i p.so g (Z0 p.ts [123] i).isOk  (Z0 p.ts [123] i).pos (flt (Z0 p.ts [123] i)) (Q9 p.ts 64 [59] b (Z0 p.ts [123] i).pos).isOk (elL ((Q9 p.ts 64 [59] b (Z0 p.ts [123] i).pos).val [])) (Q9 p.ts 64 [59] b (Z0 p.ts [123] i).pos).pos (flt (Q9 p.ts 64 [59] b (Z0 p.ts [123] i).pos)) (Z0 p.ts [125] (Q9 p.ts 64 [59] b (Z0 p.ts [123] i).pos).pos).isOk  (Z0 p.ts [125] (Q9 p.ts 64 [59] b (Z0 p.ts [123] i).pos).pos).pos (flt (Z0 p.ts [125] (Q9 p.ts 64 [59] b (Z0 p.ts [123] i).pos).pos)) p.r1 p.r2 p.r3) ?_);unfold PBrE Zp;simp only[SS];refine psX () (ZG (Qe p i [123])) (λ_ j h1=>?_) λa e h1=>?_
 ·have hl:=Z9e (Zif p g 64 [59] b j (by decide) (λk _=>Z8V (f k)) λk a m _ hx=>d k a m hx);simp only[h1,PR.bind,PR.pos,PR.val];refine psX [] hl (λl k h2=>?_) λa e h2=>?_
  ·simp only[h2,PR.bind,PR.pos,PR.val];refine psX () (ZG (Qe p k [125])) (λ_ m c=>?_) λa e c=>?_
   ·simp only[c,PR.pos];exact⟨rfl,rfl⟩
   ·simp only[c];exact rfl
  ·simp only[h2,PR.bind];exact rfl
 ·simp only[h1,PR.bind];exact rfl
theorem qBrH (p:PS) (g:Nat) (b:Nat->PR He) (i:Nat) (f: ∀ k,CallL Tryz.prog (.func (.func g) [] [.ptr 0 0]) [] (p.oq k) (RS p.oq (λt:He=>.agg (He.cs t)) (b k))) (d: ∀ k a j,b k=.ok a j->k<=j) :
  CF 145 [.ptr 0 0,.func (.func g) [] [.ptr 1 0]] (p.ob i) (RS p.ob (λl:List He=>.slice (heL l) []) (Zp p.ts b i)):=by
 refine Z0P (CallL.tree Z5 Zj1 (ZE Z3 λ_=>(Z4 (Z2 _ _ _ _) (Z4 (Z2 _ _ _ _) (Z2 _ _ _ _)))) (Zh2 p.ts i p.so g (Z0 p.ts [123] i).isOk  (Z0 p.ts [123] i).pos (flt (Z0 p.ts [123] i)) (Q9 p.ts 64 [59] b (Z0 p.ts [123] i).pos).isOk (heL ((Q9 p.ts 64 [59] b (Z0 p.ts [123] i).pos).val [])) (Q9 p.ts 64 [59] b (Z0 p.ts [123] i).pos).pos (flt (Q9 p.ts 64 [59] b (Z0 p.ts [123] i).pos)) (Z0 p.ts [125] (Q9 p.ts 64 [59] b (Z0 p.ts [123] i).pos).pos).isOk  (Z0 p.ts [125] (Q9 p.ts 64 [59] b (Z0 p.ts [123] i).pos).pos).pos (flt (Z0 p.ts [125] (Q9 p.ts 64 [59] b (Z0 p.ts [123] i).pos).pos)) p.r1 p.r2 p.r3) ?_);unfold PBrH Zp;simp only[SS];refine psX () (ZG (Qe p i [123])) (λ_ j h1=>?_) λa e h1=>?_
 ·have hl:=Z9e (Zie p g 64 [59] b j (by decide) (λk _=>Z8V (f k)) λk a m _ hx=>d k a m hx);simp only[h1,PR.bind,PR.pos,PR.val];refine psX [] hl (λl k h2=>?_) λa e h2=>?_
  ·simp only[h2,PR.bind,PR.pos,PR.val];refine psX () (ZG (Qe p k [125])) (λ_ m c=>?_) λa e c=>?_
   ·simp only[c,PR.pos];exact⟨rfl,rfl⟩
   ·simp only[c];exact rfl
  ·simp only[h2,PR.bind];exact rfl
 ·simp only[h1,PR.bind];exact rfl
theorem qAg1 (p:PS) (i:Nat):CallL Tryz.prog (.func (.func 174) [] [.ptr 0 0]) [] (p.oq i) (RS p.oq (λt:El=>.agg (El.cs t)) (QS p.ts i)):=by
 refine Z0P (CallL.tree Z5 ZiN (ZE Z3 λ_=>(Z4 (Z2 _ _ _ _) (Z2 _ _ _ _))) (Zh8 p.ts i p.so  (ZT p.ts i).isOk (Tm.cellsL ((ZT p.ts i).val [])) (ZT p.ts i).pos (flt (ZT p.ts i)) (Q7 p.ts (ZT p.ts i).pos).isOk (ltL ((Q7 p.ts (ZT p.ts i).pos).val [])) (Q7 p.ts (ZT p.ts i).pos).pos (flt (Q7 p.ts (ZT p.ts i).pos)) p.r1 p.r2 p.r3) ?_);unfold PAg1 QS;simp only[SS];refine psX [] (qTup p i).1 (λl j h1=>?_) λa e h1=>?_
 ·simp only[h1,PR.bind,PR.pos,PR.val];refine psX [] (Z97 p j).1 (λc k h2=>?_) λa e h2=>?_
  ·simp only[h2,PR.pos,PR.val];exact⟨rfl,rfl⟩
  ·simp only[h2];exact rfl
 ·simp only[h1,PR.bind];exact rfl
theorem qCh1 (p:PS) (i:Nat):CallL Tryz.prog (.func (.func 146) [] [.ptr 0 0]) [] (p.oq i) (RS p.oq (λt:He=>.agg (He.cs t)) (Z0t p.ts i)):=by
 refine Z0P (CallL.tree Z5 Zj0 (ZE Z3 λ_=>(Z4 (Z2 _ _ _ _) (Z2 _ _ _ _))) (Zh1 p.ts i p.so  (QO p.ts i).isOk ((QO p.ts i).val ([],[])).1 (Tm.cellsL ((QO p.ts i).val ([],[])).2) (QO p.ts i).pos (flt (QO p.ts i)) (Q7 p.ts (QO p.ts i).pos).isOk (ltL ((Q7 p.ts (QO p.ts i).pos).val [])) (Q7 p.ts (QO p.ts i).pos).pos (flt (Q7 p.ts (QO p.ts i).pos)) p.r1 p.r2 p.r3) ?_);unfold PCh1 Z0t;simp only[SS];refine psX ([],[]) (Zft p i).1 (λl j h1=>?_) λa e h1=>?_
 ·simp only[h1,PR.bind,PR.pos,PR.val];refine psX [] (Z97 p j).1 (λc k h2=>?_) λa e h2=>?_
  ·simp only[h2,PR.pos,PR.val];exact⟨rfl,rfl⟩
  ·simp only[h2];exact rfl
 ·simp only[h1,PR.bind];exact rfl
theorem qAgg (p:PS) (no:Bool) (i:Nat):CF 149 [.ptr 0 0,.bool no] (p.o i) (RS p.o boE (Zb p.ts no i)):=by
 refine Z0P (CallL.tree Z5 ZiX (ZE Z3 λ_=>(Z4 (Zh _ _) (Z4 (Z2 _ _ _ _) (Z4 (Z2 _ _ _ _) (Z4 (Zh _ _) (Z4 (Z2 _ _ _ _) (Z4 (Z2 _ _ _ _) (Z2 _ _ _ _)))))))) (Zh7 p.ts i p.so no (Z1 p.ts (i) [Z2g]) ((if Z1 p.ts (i) [Z2g]=true then i+1 else i:Nat):Int) (Z0 p.ts Z27 i).isOk  (Z0 p.ts Z27 i).pos (flt (Z0 p.ts Z27 i)) (Zp p.ts (QS p.ts) (if Z1 p.ts i [Z2g]=true then i+1 else (Z0 p.ts Z27 i).pos)).isOk (elL ((Zp p.ts (QS p.ts) (if Z1 p.ts i [Z2g]=true then i+1 else (Z0 p.ts Z27 i).pos)).val [])) (Zp p.ts (QS p.ts) (if Z1 p.ts i [Z2g]=true then i+1 else (Z0 p.ts Z27 i).pos)).pos (flt (Zp p.ts (QS p.ts) (if Z1 p.ts i [Z2g]=true then i+1 else (Z0 p.ts Z27 i).pos))) (Z1 p.ts ((Zp p.ts (QS p.ts) (if Z1 p.ts i [Z2g]=true then i+1 else (Z0 p.ts Z27 i).pos)).pos) [[33,61]]) (fltV ((Zp p.ts (QS p.ts) (if Z1 p.ts i [Z2g]=true then i+1 else (Z0 p.ts Z27 i).pos)).pos) 40) (Zc p.ts (Zp p.ts (QS p.ts) (if Z1 p.ts i [Z2g]=true then i+1 else (Z0 p.ts Z27 i).pos)).pos).isOk (((Zc p.ts (Zp p.ts (QS p.ts) (if Z1 p.ts i [Z2g]=true then i+1 else (Z0 p.ts Z27 i).pos)).pos).val 0):Nat) (Zc p.ts (Zp p.ts (QS p.ts) (if Z1 p.ts i [Z2g]=true then i+1 else (Z0 p.ts Z27 i).pos)).pos).pos (flt (Zc p.ts (Zp p.ts (QS p.ts) (if Z1 p.ts i [Z2g]=true then i+1 else (Z0 p.ts Z27 i).pos)).pos)) (Z7 p.ts (Zc p.ts (Zp p.ts (QS p.ts) (if Z1 p.ts i [Z2g]=true then i+1 else (Z0 p.ts Z27 i).pos)).pos).pos).isOk (kT ((Z7 p.ts (Zc p.ts (Zp p.ts (QS p.ts) (if Z1 p.ts i [Z2g]=true then i+1 else (Z0 p.ts Z27 i).pos)).pos).pos).val z0):Nat) (nT ((Z7 p.ts (Zc p.ts (Zp p.ts (QS p.ts) (if Z1 p.ts i [Z2g]=true then i+1 else (Z0 p.ts Z27 i).pos)).pos).pos).val z0)) (nmT ((Z7 p.ts (Zc p.ts (Zp p.ts (QS p.ts) (if Z1 p.ts i [Z2g]=true then i+1 else (Z0 p.ts Z27 i).pos)).pos).pos).val z0)) (Tm.cellsL (Ps.arT ((Z7 p.ts (Zc p.ts (Zp p.ts (QS p.ts) (if Z1 p.ts i [Z2g]=true then i+1 else (Z0 p.ts Z27 i).pos)).pos).pos).val z0))) (Z7 p.ts (Zc p.ts (Zp p.ts (QS p.ts) (if Z1 p.ts i [Z2g]=true then i+1 else (Z0 p.ts Z27 i).pos)).pos).pos).pos (flt (Z7 p.ts (Zc p.ts (Zp p.ts (QS p.ts) (if Z1 p.ts i [Z2g]=true then i+1 else (Z0 p.ts Z27 i).pos)).pos).pos)) p.r1 p.r2 p.r3) ?_);unfold PAgg Zb;simp only[SS];have f: ∀ j,CF 173 [.ptr 0 0,.func (.func 174) [] [.ptr 1 0]] (p.ob j) (RS p.ob (λl:List El=>.slice (elL l) []) (Zp p.ts (QS p.ts) j)):=λj=>qBrE p _ (QS p.ts) j (qAg1 p) λk a m hx=>w_le (Ps.ZcZ (Sm.self p.ts) k) hx;refine⟨ZY p i [Z2g] [] (by simp),λhs=>?_,λhs=>?_⟩
 ·simp only[hs,if_true,PR.bind];refine psX [] (f (i+1)) (λl k h2=>?_) λa e h2=>?_
  ·simp only[h2,PR.bind,PR.pos,PR.val];refine⟨Z1H p k [[33,61]] [] (by simp),λb=>⟨QV p k 40,?_⟩,λb=>?_⟩
   ·simp only[b,if_true];exact rfl
   ·simp only[b,Bool.false_eq_true,if_false];refine psX 0 (ZG (Zfs p k)) (λop m c=>?_) λa e c=>?_
    ·simp only[c,PR.bind,PR.pos,PR.val];refine psX z0 (Z3k p m).1 (λt o d=>?_) λa e d=>?_
     ·simp only[d,PR.pos,PR.val];exact⟨rfl,rfl⟩
     ·simp only[d];exact rfl
    ·simp only[c,PR.bind];exact rfl
  ·simp only[h2,PR.bind];exact rfl
 ·simp only[hs,Bool.false_eq_true,if_false];refine psX () (ZG (Qe p i Z27)) (λ_ j h1=>?_) λa e h1=>?_
  ·simp only[h1,PR.bind,PR.pos,PR.val];refine psX [] (f j) (λl k h2=>?_) λa e h2=>?_
   ·simp only[h2,PR.bind,PR.pos,PR.val];refine⟨Z1H p k [[33,61]] [] (by simp),λb=>⟨QV p k 40,?_⟩,λb=>?_⟩
    ·simp only[b,if_true];exact rfl
    ·simp only[b,Bool.false_eq_true,if_false];refine psX 0 (ZG (Zfs p k)) (λop m c=>?_) λa e c=>?_
     ·simp only[c,PR.bind,PR.pos,PR.val];refine psX z0 (Z3k p m).1 (λt o d=>?_) λa e d=>?_
      ·simp only[d,PR.pos,PR.val];exact⟨rfl,rfl⟩
      ·simp only[d];exact rfl
     ·simp only[c,PR.bind];exact rfl
   ·simp only[h2,PR.bind];exact rfl
  ·simp only[h1,PR.bind];exact rfl
theorem ZkY (p:PS) (i:Nat):Mth 112 (p.o i) (RS p.o boE (Zf p.ts i)):=by
 refine Mth.rs (Mth.tree Zje (ZE Z3 λ_=>(Z4 (Zh _ _) (Z4 (Zh _ _) (Z4 (Z2 _ _ _ _) (Z4 (Z2 _ _ _ _) (Z2 _ _ _ _)))))) (ZcG p.ts i p.so  (Z1 p.ts (i) [ZC]) ((if Z1 p.ts (i) [ZC]=true then i+1 else i:Nat):Int) (Z1 p.ts ((if Z1 p.ts i [ZC]=true then i+1 else i)) [Z27,Z2g]) (Zb p.ts (Z1 p.ts i [ZC]) (if Z1 p.ts i [ZC]=true then i+1 else i)).isOk (((Zb p.ts (Z1 p.ts i [ZC]) (if Z1 p.ts i [ZC]=true then i+1 else i)).val zB).k:Nat) (((Zb p.ts (Z1 p.ts i [ZC]) (if Z1 p.ts i [ZC]=true then i+1 else i)).val zB).l.k:Nat) ((Zb p.ts (Z1 p.ts i [ZC]) (if Z1 p.ts i [ZC]=true then i+1 else i)).val zB).l.no ((Zb p.ts (Z1 p.ts i [ZC]) (if Z1 p.ts i [ZC]=true then i+1 else i)).val zB).l.p (Tm.cellsL ((Zb p.ts (Z1 p.ts i [ZC]) (if Z1 p.ts i [ZC]=true then i+1 else i)).val zB).l.a) (((Zb p.ts (Z1 p.ts i [ZC]) (if Z1 p.ts i [ZC]=true then i+1 else i)).val zB).l.op:Nat) (kT ((Zb p.ts (Z1 p.ts i [ZC]) (if Z1 p.ts i [ZC]=true then i+1 else i)).val zB).l.l:Nat) (nT ((Zb p.ts (Z1 p.ts i [ZC]) (if Z1 p.ts i [ZC]=true then i+1 else i)).val zB).l.l) (nmT ((Zb p.ts (Z1 p.ts i [ZC]) (if Z1 p.ts i [ZC]=true then i+1 else i)).val zB).l.l) (Tm.cellsL (Ps.arT ((Zb p.ts (Z1 p.ts i [ZC]) (if Z1 p.ts i [ZC]=true then i+1 else i)).val zB).l.l)) (kT ((Zb p.ts (Z1 p.ts i [ZC]) (if Z1 p.ts i [ZC]=true then i+1 else i)).val zB).l.r:Nat) (nT ((Zb p.ts (Z1 p.ts i [ZC]) (if Z1 p.ts i [ZC]=true then i+1 else i)).val zB).l.r) (nmT ((Zb p.ts (Z1 p.ts i [ZC]) (if Z1 p.ts i [ZC]=true then i+1 else i)).val zB).l.r) (Tm.cellsL (Ps.arT ((Zb p.ts (Z1 p.ts i [ZC]) (if Z1 p.ts i [ZC]=true then i+1 else i)).val zB).l.r)) (ltL ((Zb p.ts (Z1 p.ts i [ZC]) (if Z1 p.ts i [ZC]=true then i+1 else i)).val zB).c) ((Zb p.ts (Z1 p.ts i [ZC]) (if Z1 p.ts i [ZC]=true then i+1 else i)).val zB).no (((Zb p.ts (Z1 p.ts i [ZC]) (if Z1 p.ts i [ZC]=true then i+1 else i)).val zB).f:Nat) (elL ((Zb p.ts (Z1 p.ts i [ZC]) (if Z1 p.ts i [ZC]=true then i+1 else i)).val zB).e) (((Zb p.ts (Z1 p.ts i [ZC]) (if Z1 p.ts i [ZC]=true then i+1 else i)).val zB).op:Nat) (kT ((Zb p.ts (Z1 p.ts i [ZC]) (if Z1 p.ts i [ZC]=true then i+1 else i)).val zB).b:Nat) (nT ((Zb p.ts (Z1 p.ts i [ZC]) (if Z1 p.ts i [ZC]=true then i+1 else i)).val zB).b) (nmT ((Zb p.ts (Z1 p.ts i [ZC]) (if Z1 p.ts i [ZC]=true then i+1 else i)).val zB).b) (Tm.cellsL (Ps.arT ((Zb p.ts (Z1 p.ts i [ZC]) (if Z1 p.ts i [ZC]=true then i+1 else i)).val zB).b)) (Zb p.ts (Z1 p.ts i [ZC]) (if Z1 p.ts i [ZC]=true then i+1 else i)).pos (flt (Zb p.ts (Z1 p.ts i [ZC]) (if Z1 p.ts i [ZC]=true then i+1 else i))) (Zm p.ts (Z1 p.ts i [ZC]) (if Z1 p.ts i [ZC]=true then i+1 else i)).isOk (((Zm p.ts (Z1 p.ts i [ZC]) (if Z1 p.ts i [ZC]=true then i+1 else i)).val zL).k:Nat) ((Zm p.ts (Z1 p.ts i [ZC]) (if Z1 p.ts i [ZC]=true then i+1 else i)).val zL).no ((Zm p.ts (Z1 p.ts i [ZC]) (if Z1 p.ts i [ZC]=true then i+1 else i)).val zL).p (Tm.cellsL ((Zm p.ts (Z1 p.ts i [ZC]) (if Z1 p.ts i [ZC]=true then i+1 else i)).val zL).a) (((Zm p.ts (Z1 p.ts i [ZC]) (if Z1 p.ts i [ZC]=true then i+1 else i)).val zL).op:Nat) (kT ((Zm p.ts (Z1 p.ts i [ZC]) (if Z1 p.ts i [ZC]=true then i+1 else i)).val zL).l:Nat) (nT ((Zm p.ts (Z1 p.ts i [ZC]) (if Z1 p.ts i [ZC]=true then i+1 else i)).val zL).l) (nmT ((Zm p.ts (Z1 p.ts i [ZC]) (if Z1 p.ts i [ZC]=true then i+1 else i)).val zL).l) (Tm.cellsL (Ps.arT ((Zm p.ts (Z1 p.ts i [ZC]) (if Z1 p.ts i [ZC]=true then i+1 else i)).val zL).l)) (kT ((Zm p.ts (Z1 p.ts i [ZC]) (if Z1 p.ts i [ZC]=true then i+1 else i)).val zL).r:Nat) (nT ((Zm p.ts (Z1 p.ts i [ZC]) (if Z1 p.ts i [ZC]=true then i+1 else i)).val zL).r) (nmT ((Zm p.ts (Z1 p.ts i [ZC]) (if Z1 p.ts i [ZC]=true then i+1 else i)).val zL).r) (Tm.cellsL (Ps.arT ((Zm p.ts (Z1 p.ts i [ZC]) (if Z1 p.ts i [ZC]=true then i+1 else i)).val zL).r)) (Zm p.ts (Z1 p.ts i [ZC]) (if Z1 p.ts i [ZC]=true then i+1 else i)).pos (flt (Zm p.ts (Z1 p.ts i [ZC]) (if Z1 p.ts i [ZC]=true then i+1 else i))) (Q7 p.ts (Zm p.ts (Z1 p.ts i [ZC]) (if Z1 p.ts i [ZC]=true then i+1 else i)).pos).isOk (ltL ((Q7 p.ts (Zm p.ts (Z1 p.ts i [ZC]) (if Z1 p.ts i [ZC]=true then i+1 else i)).pos).val [])) (Q7 p.ts (Zm p.ts (Z1 p.ts i [ZC]) (if Z1 p.ts i [ZC]=true then i+1 else i)).pos).pos (flt (Q7 p.ts (Zm p.ts (Z1 p.ts i [ZC]) (if Z1 p.ts i [ZC]=true then i+1 else i)).pos)) p.r1 p.r2 p.r3) ?_);unfold Zk6 Zf;rw[tk1,tk2];simp only[SS];refine⟨ZY p i [ZC] [] (by simp),?_⟩;generalize Z1 p.ts i [ZC]=no;generalize (if no=true then i+1 else i)=j;refine⟨Z1H p j [Z27,Z2g] [] (by simp),λh1=>?_,λh1=>?_⟩
 ·rw[if_pos h1];refine psX zB (qAgg p no j) (λb k h2=>?_) λa e h2=>?_
  ·simp only[h2,PR.pos,PR.val];exact⟨rfl,rfl⟩
  ·simp only[h2];exact rfl
 ·rw[if_neg (by simp[h1])];refine psX zL (Zic p no j (Zfr p _ _ _ (by decide))) (λl k h2=>?_) λa e h2=>?_
  ·simp only[h2,PR.bind,PR.pos,PR.val];refine psX [] (Z97 p k).1 (λc m d=>?_) λa e d=>?_
   ·simp only[d,PR.pos,PR.val];refine⟨λf=>?_,λf=>?_⟩
    ·have hc:c≠[]:=λh=>by subst h;simp[ltL] at f
     rw[if_neg hc];exact⟨rfl,rfl⟩
    ·have hc:c=[]:=by
      cases c with
      |nil=>rfl
      |cons a r=>exfalso;simp[ltL] at f<;>omega
     subst hc;rw[if_pos rfl];exact⟨rfl,rfl⟩
   ·simp only[d];exact rfl
  ·simp only[h2,PR.bind];exact rfl
end Go.Proofs.YtecgehidegnmnaaGreatDoor
