/- Own work: a layer over the kit: plain data,a walk over it,its soundness. -/
import Derived.Test.YtecgehidegnmnaaGreatDoorPrB
import Derived.Test.YtecgehidegnmnaaGreatDoorPrK
set_option linter.all false
set_option maxRecDepth 100000
/- The parser: lists of api.Head. -/
open Go.Sx.Ps (PR Z0s Z1 Qk zL z0 Zs Z0 Z0a ZY Qi Z0U QQ Zc Z2p Z2h Zb Z8 Zh Zn)
open Go.Sx.Lx (ZG)
namespace Go.Proofs.YtecgehidegnmnaaGreatDoor
open Go.Sx
open Go.Sx.Lx (Tk Zq)
theorem ZlF (ts:List Tk) (i:Int) (g:Nat) (m:Int) (a:LU) (so:Bool) (r1 r2 r3:LD):gC (ctr libT) 10 Z9x Z86 [] [dP 0 0,dI m,dS a,dF g [] [dP 1 0]] [] (psO1 ts i so r1 r2 r3)=(Jm (cut Z86 0) {tm:=[(0,dP 0 0),(1,dI m),(2,dS a),(3,dF g [] [dP 1 0]),(8,dV 10)],ob:=[(0,oC [dL (List.map Zq ts) [],dI i,dV 2,dV 3,dV 4,dB so]),(1,oC [dP 0 0]),(2,oR true 20 42 r1),(3,oR true 5 53 r2),(4,oR true 2 138 r3),(10,oR true 3 61 [])]}:Tr):=by kernel_rfl
def hdLH (ts:List Tk) (i:Int) (g:Nat) (m:Int) (a:LU) (so:Bool) (r1 r2 r3 out:LD):St:=⟨[(0,.ptr 0 0),(1,.int .i64 m),(2,.str a),(3,.func (.func g) [] [.ptr 1 0]),(8,.vec 10)],psO1 ts i so r1 r2 r3++[(10,.arr true 3 61 out)]⟩
theorem Z6C (ts:List Tk) (i j k:Int) (g:Nat) (m:Int) (d:LU) (so b c:Bool) (hp:LU) (ha a:LD) (v:Value) (r1 r2 r3 out:LD):let A:=[(0,oC [dL (List.map Zq ts) [],dI k,dV 2,dV 3,dV 4,dB so]),(1,oC [dP 0 0]),(2,oR true 20 42 r1),(3,oR true 5 53 r2),(4,oR true 2 138 r3),(10,oR true 3 61 (out++[[dS hp,dL ha [],dL a []]]))];let B:=[(0,oC [dP 1 0]),(1,oC [dL (List.map Zq ts) [],dI i,dV 2,dV 3,dV 4,dB so]),(2,oR true 20 42 r1),(3,oR true 5 53 r2),(4,oR true 2 138 r3)];let G:=[dS hp,dL ha [],dL a []];let H:=psO ts k so r1 r2 r3;let I:=dF g [] [dP 0 0];let J:=D.pan v;let K:=cut Z86 0;goT Tryz.prog {F:=λx=>libT,C:=λn=>if n=16 then psB false D.nils [] v else if n=19 then psB b (dA G) (psQ0 ts j so r1 r2 r3) v else psQ (dB c) H,E:=noE} 10 (finF false 10 Z9x) 2000 K (hdLH ts i g m d so r1 r2 r3 out)=(brT (decide (m<=(↑(List.length out):Int))) (Ow (CQ 54 [dP 0 0,dI 5] (psO ts i so r1 r2 r3) J []) (Rt J [(1,oC [dP 0 0])])) (brT b (Ow (CallL Tryz.prog I [] B λr0 ob0=>r0=dA G/\ob0=[(0,oC [dP 1 0]),(1,oC [dL (List.map Zq ts) [],dI j,dV 2,dV 3,dV 4,dB so]),(2,oR true 20 42 r1),(3,oR true 5 53 r2),(4,oR true 2 138 r3)]) (Ow (Zy 3 [G]/\List.length out+1<=1073741824) (Ow (CQ 66 [dP 0 0,dL [[dS d]] []] (psO ts j so r1 r2 r3) (dB c) H) (brT (!c) (Rt (dV 10) A) (Jm K {tm:=[(0,dP 0 0),(1,dI m),(2,dS d),(3,dF g [] [dP 1 0]),(8,dV 10)],ob:=A}))))) (Ow (CallL Tryz.prog I [] B λr0 ob0=>r0=D.pan v/\ob0=[]) (Rt J []))):Tr):=by intro A B G H I J K;kernel_rfl
theorem qLH2 (p:PS) (g b:Nat) (d:LU) (c:Nat->PR He) (i0:Nat) (hm:b<=1000)
  (o: ∀ k,i0<=k->CallL Tryz.prog (.func (.func g) [] [.ptr 0 0]) [] (p.oq k) (Z5t p (λt:He=>.agg (He.cs t)) (c k)))
  (m: ∀ k a j,i0<=k->c k=.ok a j->k<=j): ∀ (n:Nat) (out:List He) (i:Nat),i0<=i->b+1<=n+out.length->out.length<=b →
  At Tryz.prog 10 (cut Z86 0) (hdLH p.ts i g b d p.so p.r1 p.r2 p.r3 (out.map He.cs)) (FinQ false 10 Z9x (ZdF p 3 61 He.cs (Z0s p.ts b d c n out i)))
 |0,out,i,hi,r,s=>by omega
 |n+1,out,i,hi,r,s=>by
  unfold Z0s;have hc:=o i hi;by_cases l:b<=out.length
  ·rw[if_pos l];refine At.tree Z0Q (Z6C p.ts i 0 0 g b d p.so false false [] [] [] (fltV i 5) p.r1 p.r2 p.r3 (out.map He.cs)) ?_;simp only[SS,List.length_map];exact⟨λ_=>⟨QX p i 5,rfl⟩,λh=>by omega⟩
  ·rw[if_neg l];cases hx:c i with
   |bad a e =>
    rw[hx] at hc;refine At.tree Z0Q (Z6C p.ts i 0 0 g b d p.so false false [] [] [] (fltV a e) p.r1 p.r2 p.r3 (out.map He.cs)) ?_;simp only[SS,List.length_map];exact⟨λh=>by omega,λ_=>⟨nofun,hc,rfl⟩⟩
   |ok t j =>
    rw[hx] at hc;obtain⟨hp,ha,f⟩:=t;have u:=Qa p j [d] [] (by simp);refine At.tree Z0Q (Z6C p.ts i j ((if Z1 p.ts j [d]=true then j+1 else j:Nat):Int) g b d p.so true (Z1 p.ts j [d]) hp (Tm.cellsL ha) (ltL f) Go.undef p.r1 p.r2 p.r3 (out.map He.cs)) ?_;simp only[SS,List.length_map];refine⟨λh=>by omega,λ_=>⟨⟨hc,⟨by simp[Zy],by omega⟩,u,?_⟩,nofun⟩⟩;have q:=m i _ j hi hx;have e:out.map He.cs++[[.str hp,.slice (Tm.cellsL ha) [],.slice (ltL f) []]]=(out++[(⟨hp,ha,f⟩:He)]).map He.cs:=by simp[He.cs]
    rw[e];cases hs:Z1 p.ts j [d] with
    |true =>
     refine⟨nofun,λ_=>?_⟩
     have:=qLH2 p g b d c i0 hm o m n (out++[(⟨hp,ha,f⟩:He)]) (j+1) (by omega) (by simp;omega) (by simp;omega);simp only[PR.bind,hs,if_true];exact this
    |false =>
     refine⟨λ_=>?_,nofun⟩;simp only[PR.bind,hs,Bool.false_eq_true,if_false];exact⟨rfl,rfl⟩
theorem ZjJ (p:PS) (g b:Nat) (d:LU) (c:Nat->PR He) (i:Nat) (hm:b<=1000)
  (h: ∀ k,i<=k->CallL Tryz.prog (.func (.func g) [] [.ptr 0 0]) [] (p.oq k) (Z5t p (λt:He=>.agg (He.cs t)) (c k)))
  (f: ∀ k a j,i<=k->c k=.ok a j->k<=j):CF 172 [.ptr 0 0,.int .i64 b,.str d,.func (.func g) [] [.ptr 1 0]] (p.ob i) (Zbu p (λl:List He=>.slice (l.map He.cs) []) (Qk p.ts b d c i)):=by
 refine Z2a (n:=3) (e:=61) ?_;refine CallL.tree Z6 Zki (Z7 Z2 Z5) (ZlF p.ts i g b d p.so p.r1 p.r2 p.r3) ?_;exact qLH2 p g b d c i hm h f (b+1) [] i (Nat.le_refl _) (by simp) (by simp)
end Go.Proofs.YtecgehidegnmnaaGreatDoor
/- The parser: lists of api.Elem. -/
namespace Go.Proofs.YtecgehidegnmnaaGreatDoor
open Go.Sx
open Go.Sx.Lx (Tk Zq)
theorem ZlG (ts:List Tk) (i:Int) (g:Nat) (m:Int) (a:LU) (so:Bool) (r1 r2 r3:LD):gC (ctr libT) 10 Z9w Z85 [] [dP 0 0,dI m,dS a,dF g [] [dP 1 0]] [] (psO1 ts i so r1 r2 r3)=(Jm (cut Z85 0) {tm:=[(0,dP 0 0),(1,dI m),(2,dS a),(3,dF g [] [dP 1 0]),(8,dV 10)],ob:=[(0,oC [dL (List.map Zq ts) [],dI i,dV 2,dV 3,dV 4,dB so]),(1,oC [dP 0 0]),(2,oR true 20 42 r1),(3,oR true 5 53 r2),(4,oR true 2 138 r3),(10,oR true 2 108 [])]}:Tr):=by kernel_rfl
def hdLE (ts:List Tk) (i:Int) (g:Nat) (m:Int) (a:LU) (so:Bool) (r1 r2 r3 out:LD):St:=⟨[(0,.ptr 0 0),(1,.int .i64 m),(2,.str a),(3,.func (.func g) [] [.ptr 1 0]),(8,.vec 10)],psO1 ts i so r1 r2 r3++[(10,.arr true 2 108 out)]⟩
theorem Z6D (ts:List Tk) (i j k:Int) (g:Nat) (m:Int) (a:LU) (so b c:Bool) (e d:LD) (v:Value) (r1 r2 r3 out:LD):let A:=[(0,oC [dL (List.map Zq ts) [],dI k,dV 2,dV 3,dV 4,dB so]),(1,oC [dP 0 0]),(2,oR true 20 42 r1),(3,oR true 5 53 r2),(4,oR true 2 138 r3),(10,oR true 2 108 (out++[[dL e [],dL d []]]))];let B:=[(0,oC [dP 1 0]),(1,oC [dL (List.map Zq ts) [],dI i,dV 2,dV 3,dV 4,dB so]),(2,oR true 20 42 r1),(3,oR true 5 53 r2),(4,oR true 2 138 r3)];let G:=[dL e [],dL d []];let H:=psO ts k so r1 r2 r3;let I:=dF g [] [dP 0 0];let J:=D.pan v;let K:=cut Z85 0;goT Tryz.prog {F:=λx=>libT,C:=λn=>if n=16 then psB false D.nils [] v else if n=19 then psB b (dA G) (psQ0 ts j so r1 r2 r3) v else psQ (dB c) H,E:=noE} 10 (finF false 10 Z9w) 2000 K (hdLE ts i g m a so r1 r2 r3 out)=(brT (decide (m<=(↑(List.length out):Int))) (Ow (CQ 54 [dP 0 0,dI 5] (psO ts i so r1 r2 r3) J []) (Rt J [(1,oC [dP 0 0])])) (brT b (Ow (CallL Tryz.prog I [] B λr0 ob0=>r0=dA G/\ob0=[(0,oC [dP 1 0]),(1,oC [dL (List.map Zq ts) [],dI j,dV 2,dV 3,dV 4,dB so]),(2,oR true 20 42 r1),(3,oR true 5 53 r2),(4,oR true 2 138 r3)]) (Ow (Zy 2 [G]/\List.length out+1<=1073741824) (Ow (CQ 66 [dP 0 0,dL [[dS a]] []] (psO ts j so r1 r2 r3) (dB c) H) (brT (!c) (Rt (dV 10) A) (Jm K {tm:=[(0,dP 0 0),(1,dI m),(2,dS a),(3,dF g [] [dP 1 0]),(8,dV 10)],ob:=A}))))) (Ow (CallL Tryz.prog I [] B λr0 ob0=>r0=D.pan v/\ob0=[]) (Rt J []))):Tr):=by intro A B G H I J K;kernel_rfl
theorem qLE2 (p:PS) (g b:Nat) (d:LU) (c:Nat->PR El) (i0:Nat) (hm:b<=1000)
  (q: ∀ k,i0<=k->CallL Tryz.prog (.func (.func g) [] [.ptr 0 0]) [] (p.oq k) (Z5t p (λt:El=>.agg (El.cs t)) (c k)))
  (o: ∀ k a j,i0<=k->c k=.ok a j->k<=j): ∀ (n:Nat) (out:List El) (i:Nat),i0<=i->b+1<=n+out.length->out.length<=b →
  At Tryz.prog 10 (cut Z85 0) (hdLE p.ts i g b d p.so p.r1 p.r2 p.r3 (out.map El.cs)) (FinQ false 10 Z9w (ZdF p 2 108 El.cs (Z0s p.ts b d c n out i)))
 |0,out,i,hi,s,u=>by omega
 |n+1,out,i,hi,s,u=>by
  unfold Z0s;have hc:=q i hi;by_cases f:b<=out.length
  ·rw[if_pos f];refine At.tree Z0Q (Z6D p.ts i 0 0 g b d p.so false false [] [] (fltV i 5) p.r1 p.r2 p.r3 (out.map El.cs)) ?_;simp only[SS,List.length_map];exact⟨λ_=>⟨QX p i 5,rfl⟩,λh=>by omega⟩
  ·rw[if_neg f];cases hx:c i with
   |bad a e =>
    rw[hx] at hc;refine At.tree Z0Q (Z6D p.ts i 0 0 g b d p.so false false [] [] (fltV a e) p.r1 p.r2 p.r3 (out.map El.cs)) ?_;simp only[SS,List.length_map];exact⟨λh=>by omega,λ_=>⟨nofun,hc,rfl⟩⟩
   |ok t j =>
    rw[hx] at hc;obtain⟨m,l⟩:=t;have v:=Qa p j [d] [] (by simp);refine At.tree Z0Q (Z6D p.ts i j ((if Z1 p.ts j [d]=true then j+1 else j:Nat):Int) g b d p.so true (Z1 p.ts j [d]) (Tm.cellsL m) (ltL l) Go.undef p.r1 p.r2 p.r3 (out.map El.cs)) ?_;simp only[SS,List.length_map];refine⟨λh=>by omega,λ_=>⟨⟨hc,⟨by simp[Zy],by omega⟩,v,?_⟩,nofun⟩⟩;have r:=o i _ j hi hx;have e:out.map El.cs++[[.slice (Tm.cellsL m) [],.slice (ltL l) []]]=(out++[(⟨m,l⟩:El)]).map El.cs:=by simp[El.cs]
    rw[e];cases hs:Z1 p.ts j [d] with
    |true =>
     refine⟨nofun,λ_=>?_⟩
     have:=qLE2 p g b d c i0 hm q o n (out++[(⟨m,l⟩:El)]) (j+1) (by omega) (by simp;omega) (by simp;omega);simp only[PR.bind,hs,if_true];exact this
    |false =>
     refine⟨λ_=>?_,nofun⟩;simp only[PR.bind,hs,Bool.false_eq_true,if_false];exact⟨rfl,rfl⟩
theorem ZjK (p:PS) (g b:Nat) (d:LU) (c:Nat->PR El) (i:Nat) (hm:b<=1000)
  (h: ∀ k,i<=k->CallL Tryz.prog (.func (.func g) [] [.ptr 0 0]) [] (p.oq k) (Z5t p (λt:El=>.agg (El.cs t)) (c k)))
  (f: ∀ k a j,i<=k->c k=.ok a j->k<=j):CF 192 [.ptr 0 0,.int .i64 b,.str d,.func (.func g) [] [.ptr 1 0]] (p.ob i) (Zbu p (λl:List El=>.slice (l.map El.cs) []) (Qk p.ts b d c i)):=by
 refine Z2a (n:=2) (e:=108) ?_;refine CallL.tree Z6 Zkf (Z7 Z2 Z5) (ZlG p.ts i g b d p.so p.r1 p.r2 p.r3) ?_;exact qLE2 p g b d c i hm h f (b+1) [] i (Nat.le_refl _) (by simp) (by simp)
end Go.Proofs.YtecgehidegnmnaaGreatDoor
/- The parser: braces,elements,aggregates. -/
namespace Go.Proofs.YtecgehidegnmnaaGreatDoor
open Go.Sx
open Go.Sx.Lx (Tk Zq)
open Go.Sx.Ps (kT nmT W Sm)
abbrev zB:Bo:=⟨0,zL,[],false,0,[],0,z0⟩
abbrev boE (b:Bo):D:=.agg [.int .u8 b.k,.int .u8 b.l.k,.bool b.l.no,.str b.l.p,.slice (Tm.cellsL b.l.a) [],.int .u8 b.l.op,.int .u8 (kT b.l.l:Nat),.int .i64 (nT b.l.l),.str (nmT b.l.l),.slice (Tm.cellsL (Ps.arT b.l.l)) [],.int .u8 (kT b.l.r:Nat),.int .i64 (nT b.l.r),.str (nmT b.l.r),.slice (Tm.cellsL (Ps.arT b.l.r)) [],.slice (ltL b.c) [],.bool b.no,.int .u8 b.f,.slice (elL b.e) [],.int .u8 b.op,.int .u8 (kT b.b:Nat),.int .i64 (nT b.b),.str (nmT b.b),.slice (Tm.cellsL (Ps.arT b.b)) []]
theorem Zld (b:Bo):boE b=.agg (Bo.cs b):=by
 obtain⟨k,⟨lk,a,l,j,d,⟨k1,m,s1,g⟩,⟨k2,n,o,h⟩⟩,c,no,f,e,op,⟨k3,n3,p,i⟩⟩:=b;rfl
theorem Z9v {α:Type} {p:PS} {enc:α->D} {x:PR α} {d:D} {ys:List D} {ob:Obs} (h:CallL Tryz.prog d ys ob (RS p.oq enc x)):CallL Tryz.prog d ys ob (Z5t p enc x):=by
 cases x<;>exact h
theorem qBrE (p:PS) (g:Nat) (b:Nat->PR El) (i:Nat) (f: ∀ k,CallL Tryz.prog (.func (.func g) [] [.ptr 0 0]) [] (p.oq k) (RS p.oq (λt:El=>.agg (El.cs t)) (b k))) (d: ∀ k a j,b k=.ok a j->k<=j) :
  CF 173 [.ptr 0 0,.func (.func g) [] [.ptr 1 0]] (p.ob i) (RS p.ob (λl:List El=>.slice (elL l) []) (Zs p.ts b i)):=by
 refine Z0T (CallL.tree Z6 Zkh (ZJ Z2 λ_=>(Z4 (Z3 _ _ _ _) (Z4 (Z3 _ _ _ _) (Z3 _ _ _ _)))) (Ziz p.ts i p.so g (Z0 p.ts [123] i).isOk  (Z0 p.ts [123] i).pos (flt (Z0 p.ts [123] i)) (Qk p.ts 64 [59] b (Z0 p.ts [123] i).pos).isOk (elL ((Qk p.ts 64 [59] b (Z0 p.ts [123] i).pos).val [])) (Qk p.ts 64 [59] b (Z0 p.ts [123] i).pos).pos (flt (Qk p.ts 64 [59] b (Z0 p.ts [123] i).pos)) (Z0 p.ts [125] (Qk p.ts 64 [59] b (Z0 p.ts [123] i).pos).pos).isOk  (Z0 p.ts [125] (Qk p.ts 64 [59] b (Z0 p.ts [123] i).pos).pos).pos (flt (Z0 p.ts [125] (Qk p.ts 64 [59] b (Z0 p.ts [123] i).pos).pos)) p.r1 p.r2 p.r3) ?_);unfold PBrE Zs;simp only[SS];refine psX () (ZP (Qr p i [123])) (λ_ j h1=>?_) λa e h1=>?_
 ·have hl:=Z9Q (ZjK p g 64 [59] b j (by decide) (λk _=>Z9v (f k)) λk a m _ hx=>d k a m hx);simp only[h1,PR.bind,PR.pos,PR.val];refine psX [] hl (λl k h2=>?_) λa e h2=>?_
  ·simp only[h2,PR.bind,PR.pos,PR.val];refine psX () (ZP (Qr p k [125])) (λ_ m c=>?_) λa e c=>?_
   ·simp only[c,PR.pos];exact⟨rfl,rfl⟩
   ·simp only[c];exact rfl
  ·simp only[h2,PR.bind];exact rfl
 ·simp only[h1,PR.bind];exact rfl
theorem qBrH (p:PS) (g:Nat) (b:Nat->PR He) (i:Nat) (f: ∀ k,CallL Tryz.prog (.func (.func g) [] [.ptr 0 0]) [] (p.oq k) (RS p.oq (λt:He=>.agg (He.cs t)) (b k))) (d: ∀ k a j,b k=.ok a j->k<=j) :
  CF 145 [.ptr 0 0,.func (.func g) [] [.ptr 1 0]] (p.ob i) (RS p.ob (λl:List He=>.slice (heL l) []) (Zs p.ts b i)):=by
 refine Z0T (CallL.tree Z6 Zkv (ZJ Z2 λ_=>(Z4 (Z3 _ _ _ _) (Z4 (Z3 _ _ _ _) (Z3 _ _ _ _)))) (Ziy p.ts i p.so g (Z0 p.ts [123] i).isOk  (Z0 p.ts [123] i).pos (flt (Z0 p.ts [123] i)) (Qk p.ts 64 [59] b (Z0 p.ts [123] i).pos).isOk (heL ((Qk p.ts 64 [59] b (Z0 p.ts [123] i).pos).val [])) (Qk p.ts 64 [59] b (Z0 p.ts [123] i).pos).pos (flt (Qk p.ts 64 [59] b (Z0 p.ts [123] i).pos)) (Z0 p.ts [125] (Qk p.ts 64 [59] b (Z0 p.ts [123] i).pos).pos).isOk  (Z0 p.ts [125] (Qk p.ts 64 [59] b (Z0 p.ts [123] i).pos).pos).pos (flt (Z0 p.ts [125] (Qk p.ts 64 [59] b (Z0 p.ts [123] i).pos).pos)) p.r1 p.r2 p.r3) ?_);unfold PBrH Zs;simp only[SS];refine psX () (ZP (Qr p i [123])) (λ_ j h1=>?_) λa e h1=>?_
 ·have hl:=Z9Q (ZjJ p g 64 [59] b j (by decide) (λk _=>Z9v (f k)) λk a m _ hx=>d k a m hx);simp only[h1,PR.bind,PR.pos,PR.val];refine psX [] hl (λl k h2=>?_) λa e h2=>?_
  ·simp only[h2,PR.bind,PR.pos,PR.val];refine psX () (ZP (Qr p k [125])) (λ_ m c=>?_) λa e c=>?_
   ·simp only[c,PR.pos];exact⟨rfl,rfl⟩
   ·simp only[c];exact rfl
  ·simp only[h2,PR.bind];exact rfl
 ·simp only[h1,PR.bind];exact rfl
theorem qAg1 (p:PS) (i:Nat):CallL Tryz.prog (.func (.func 174) [] [.ptr 0 0]) [] (p.oq i) (RS p.oq (λt:El=>.agg (El.cs t)) (Z0a p.ts i)):=by
 refine Z0T (CallL.tree Z6 Zkg (ZJ Z2 λ_=>(Z4 (Z3 _ _ _ _) (Z3 _ _ _ _))) (ZiE p.ts i p.so  (ZY p.ts i).isOk (Tm.cellsL ((ZY p.ts i).val [])) (ZY p.ts i).pos (flt (ZY p.ts i)) (Qi p.ts (ZY p.ts i).pos).isOk (ltL ((Qi p.ts (ZY p.ts i).pos).val [])) (Qi p.ts (ZY p.ts i).pos).pos (flt (Qi p.ts (ZY p.ts i).pos)) p.r1 p.r2 p.r3) ?_);unfold PAg1 Z0a;simp only[SS];refine psX [] (qTup p i).1 (λl j h1=>?_) λa e h1=>?_
 ·simp only[h1,PR.bind,PR.pos,PR.val];refine psX [] (Z9J p j).1 (λc k h2=>?_) λa e h2=>?_
  ·simp only[h2,PR.pos,PR.val];exact⟨rfl,rfl⟩
  ·simp only[h2];exact rfl
 ·simp only[h1,PR.bind];exact rfl
theorem qCh1 (p:PS) (i:Nat):CallL Tryz.prog (.func (.func 146) [] [.ptr 0 0]) [] (p.oq i) (RS p.oq (λt:He=>.agg (He.cs t)) (Z0U p.ts i)):=by
 refine Z0T (CallL.tree Z6 Zku (ZJ Z2 λ_=>(Z4 (Z3 _ _ _ _) (Z3 _ _ _ _))) (Zix p.ts i p.so  (QQ p.ts i).isOk ((QQ p.ts i).val ([],[])).1 (Tm.cellsL ((QQ p.ts i).val ([],[])).2) (QQ p.ts i).pos (flt (QQ p.ts i)) (Qi p.ts (QQ p.ts i).pos).isOk (ltL ((Qi p.ts (QQ p.ts i).pos).val [])) (Qi p.ts (QQ p.ts i).pos).pos (flt (Qi p.ts (QQ p.ts i).pos)) p.r1 p.r2 p.r3) ?_);unfold PCh1 Z0U;simp only[SS];refine psX ([],[]) (ZgH p i).1 (λl j h1=>?_) λa e h1=>?_
 ·simp only[h1,PR.bind,PR.pos,PR.val];refine psX [] (Z9J p j).1 (λc k h2=>?_) λa e h2=>?_
  ·simp only[h2,PR.pos,PR.val];exact⟨rfl,rfl⟩
  ·simp only[h2];exact rfl
 ·simp only[h1,PR.bind];exact rfl
theorem qAgg (p:PS) (no:Bool) (i:Nat):CF 149 [.ptr 0 0,.bool no] (p.o i) (RS p.o boE (Zc p.ts no i)):=by
 refine Z0T (CallL.tree Z6 Zkr (ZJ Z2 λ_=>(Z4 (Zi _ _) (Z4 (Z3 _ _ _ _) (Z4 (Z3 _ _ _ _) (Z4 (Zi _ _) (Z4 (Z3 _ _ _ _) (Z4 (Z3 _ _ _ _) (Z3 _ _ _ _)))))))) (ZiD p.ts i p.so no (Z1 p.ts (i) [Z2p]) ((if Z1 p.ts (i) [Z2p]=true then i+1 else i:Nat):Int) (Z0 p.ts Z2h i).isOk  (Z0 p.ts Z2h i).pos (flt (Z0 p.ts Z2h i)) (Zs p.ts (Z0a p.ts) (if Z1 p.ts i [Z2p]=true then i+1 else (Z0 p.ts Z2h i).pos)).isOk (elL ((Zs p.ts (Z0a p.ts) (if Z1 p.ts i [Z2p]=true then i+1 else (Z0 p.ts Z2h i).pos)).val [])) (Zs p.ts (Z0a p.ts) (if Z1 p.ts i [Z2p]=true then i+1 else (Z0 p.ts Z2h i).pos)).pos (flt (Zs p.ts (Z0a p.ts) (if Z1 p.ts i [Z2p]=true then i+1 else (Z0 p.ts Z2h i).pos))) (Z1 p.ts ((Zs p.ts (Z0a p.ts) (if Z1 p.ts i [Z2p]=true then i+1 else (Z0 p.ts Z2h i).pos)).pos) [[33,61]]) (fltV ((Zs p.ts (Z0a p.ts) (if Z1 p.ts i [Z2p]=true then i+1 else (Z0 p.ts Z2h i).pos)).pos) 40) (Zb p.ts (Zs p.ts (Z0a p.ts) (if Z1 p.ts i [Z2p]=true then i+1 else (Z0 p.ts Z2h i).pos)).pos).isOk (((Zb p.ts (Zs p.ts (Z0a p.ts) (if Z1 p.ts i [Z2p]=true then i+1 else (Z0 p.ts Z2h i).pos)).pos).val 0):Nat) (Zb p.ts (Zs p.ts (Z0a p.ts) (if Z1 p.ts i [Z2p]=true then i+1 else (Z0 p.ts Z2h i).pos)).pos).pos (flt (Zb p.ts (Zs p.ts (Z0a p.ts) (if Z1 p.ts i [Z2p]=true then i+1 else (Z0 p.ts Z2h i).pos)).pos)) (Z8 p.ts (Zb p.ts (Zs p.ts (Z0a p.ts) (if Z1 p.ts i [Z2p]=true then i+1 else (Z0 p.ts Z2h i).pos)).pos).pos).isOk (kT ((Z8 p.ts (Zb p.ts (Zs p.ts (Z0a p.ts) (if Z1 p.ts i [Z2p]=true then i+1 else (Z0 p.ts Z2h i).pos)).pos).pos).val z0):Nat) (nT ((Z8 p.ts (Zb p.ts (Zs p.ts (Z0a p.ts) (if Z1 p.ts i [Z2p]=true then i+1 else (Z0 p.ts Z2h i).pos)).pos).pos).val z0)) (nmT ((Z8 p.ts (Zb p.ts (Zs p.ts (Z0a p.ts) (if Z1 p.ts i [Z2p]=true then i+1 else (Z0 p.ts Z2h i).pos)).pos).pos).val z0)) (Tm.cellsL (Ps.arT ((Z8 p.ts (Zb p.ts (Zs p.ts (Z0a p.ts) (if Z1 p.ts i [Z2p]=true then i+1 else (Z0 p.ts Z2h i).pos)).pos).pos).val z0))) (Z8 p.ts (Zb p.ts (Zs p.ts (Z0a p.ts) (if Z1 p.ts i [Z2p]=true then i+1 else (Z0 p.ts Z2h i).pos)).pos).pos).pos (flt (Z8 p.ts (Zb p.ts (Zs p.ts (Z0a p.ts) (if Z1 p.ts i [Z2p]=true then i+1 else (Z0 p.ts Z2h i).pos)).pos).pos)) p.r1 p.r2 p.r3) ?_);unfold PAgg Zc;simp only[SS];have f: ∀ j,CF 173 [.ptr 0 0,.func (.func 174) [] [.ptr 1 0]] (p.ob j) (RS p.ob (λl:List El=>.slice (elL l) []) (Zs p.ts (Z0a p.ts) j)):=λj=>qBrE p _ (Z0a p.ts) j (qAg1 p) λk a m hx=>w_le (Ps.ZdO (Sm.self p.ts) k) hx;refine⟨Qa p i [Z2p] [] (by simp),λhs=>?_,λhs=>?_⟩
 ·simp only[hs,if_true,PR.bind];refine psX [] (f (i+1)) (λl k h2=>?_) λa e h2=>?_
  ·simp only[h2,PR.bind,PR.pos,PR.val];refine⟨Z1R p k [[33,61]] [] (by simp),λb=>⟨QX p k 40,?_⟩,λb=>?_⟩
   ·simp only[b,if_true];exact rfl
   ·simp only[b,Bool.false_eq_true,if_false];refine psX 0 (ZP (ZgG p k)) (λop m c=>?_) λa e c=>?_
    ·simp only[c,PR.bind,PR.pos,PR.val];refine psX z0 (Z32 p m).1 (λt o d=>?_) λa e d=>?_
     ·simp only[d,PR.pos,PR.val];exact⟨rfl,rfl⟩
     ·simp only[d];exact rfl
    ·simp only[c,PR.bind];exact rfl
  ·simp only[h2,PR.bind];exact rfl
 ·simp only[hs,Bool.false_eq_true,if_false];refine psX () (ZP (Qr p i Z2h)) (λ_ j h1=>?_) λa e h1=>?_
  ·simp only[h1,PR.bind,PR.pos,PR.val];refine psX [] (f j) (λl k h2=>?_) λa e h2=>?_
   ·simp only[h2,PR.bind,PR.pos,PR.val];refine⟨Z1R p k [[33,61]] [] (by simp),λb=>⟨QX p k 40,?_⟩,λb=>?_⟩
    ·simp only[b,if_true];exact rfl
    ·simp only[b,Bool.false_eq_true,if_false];refine psX 0 (ZP (ZgG p k)) (λop m c=>?_) λa e c=>?_
     ·simp only[c,PR.bind,PR.pos,PR.val];refine psX z0 (Z32 p m).1 (λt o d=>?_) λa e d=>?_
      ·simp only[d,PR.pos,PR.val];exact⟨rfl,rfl⟩
      ·simp only[d];exact rfl
     ·simp only[c,PR.bind];exact rfl
   ·simp only[h2,PR.bind];exact rfl
  ·simp only[h1,PR.bind];exact rfl
theorem ZmD (p:PS) (i:Nat):Mth 112 (p.o i) (RS p.o boE (Zh p.ts i)):=by
 refine Mth.rs (Mth.tree ZkL (ZJ Z2 λ_=>(Z4 (Zi _ _) (Z4 (Zi _ _) (Z4 (Z3 _ _ _ _) (Z4 (Z3 _ _ _ _) (Z3 _ _ _ _)))))) (Zdv p.ts i p.so  (Z1 p.ts (i) [ZG]) ((if Z1 p.ts (i) [ZG]=true then i+1 else i:Nat):Int) (Z1 p.ts ((if Z1 p.ts i [ZG]=true then i+1 else i)) [Z2h,Z2p]) (Zc p.ts (Z1 p.ts i [ZG]) (if Z1 p.ts i [ZG]=true then i+1 else i)).isOk (((Zc p.ts (Z1 p.ts i [ZG]) (if Z1 p.ts i [ZG]=true then i+1 else i)).val zB).k:Nat) (((Zc p.ts (Z1 p.ts i [ZG]) (if Z1 p.ts i [ZG]=true then i+1 else i)).val zB).l.k:Nat) ((Zc p.ts (Z1 p.ts i [ZG]) (if Z1 p.ts i [ZG]=true then i+1 else i)).val zB).l.no ((Zc p.ts (Z1 p.ts i [ZG]) (if Z1 p.ts i [ZG]=true then i+1 else i)).val zB).l.p (Tm.cellsL ((Zc p.ts (Z1 p.ts i [ZG]) (if Z1 p.ts i [ZG]=true then i+1 else i)).val zB).l.a) (((Zc p.ts (Z1 p.ts i [ZG]) (if Z1 p.ts i [ZG]=true then i+1 else i)).val zB).l.op:Nat) (kT ((Zc p.ts (Z1 p.ts i [ZG]) (if Z1 p.ts i [ZG]=true then i+1 else i)).val zB).l.l:Nat) (nT ((Zc p.ts (Z1 p.ts i [ZG]) (if Z1 p.ts i [ZG]=true then i+1 else i)).val zB).l.l) (nmT ((Zc p.ts (Z1 p.ts i [ZG]) (if Z1 p.ts i [ZG]=true then i+1 else i)).val zB).l.l) (Tm.cellsL (Ps.arT ((Zc p.ts (Z1 p.ts i [ZG]) (if Z1 p.ts i [ZG]=true then i+1 else i)).val zB).l.l)) (kT ((Zc p.ts (Z1 p.ts i [ZG]) (if Z1 p.ts i [ZG]=true then i+1 else i)).val zB).l.r:Nat) (nT ((Zc p.ts (Z1 p.ts i [ZG]) (if Z1 p.ts i [ZG]=true then i+1 else i)).val zB).l.r) (nmT ((Zc p.ts (Z1 p.ts i [ZG]) (if Z1 p.ts i [ZG]=true then i+1 else i)).val zB).l.r) (Tm.cellsL (Ps.arT ((Zc p.ts (Z1 p.ts i [ZG]) (if Z1 p.ts i [ZG]=true then i+1 else i)).val zB).l.r)) (ltL ((Zc p.ts (Z1 p.ts i [ZG]) (if Z1 p.ts i [ZG]=true then i+1 else i)).val zB).c) ((Zc p.ts (Z1 p.ts i [ZG]) (if Z1 p.ts i [ZG]=true then i+1 else i)).val zB).no (((Zc p.ts (Z1 p.ts i [ZG]) (if Z1 p.ts i [ZG]=true then i+1 else i)).val zB).f:Nat) (elL ((Zc p.ts (Z1 p.ts i [ZG]) (if Z1 p.ts i [ZG]=true then i+1 else i)).val zB).e) (((Zc p.ts (Z1 p.ts i [ZG]) (if Z1 p.ts i [ZG]=true then i+1 else i)).val zB).op:Nat) (kT ((Zc p.ts (Z1 p.ts i [ZG]) (if Z1 p.ts i [ZG]=true then i+1 else i)).val zB).b:Nat) (nT ((Zc p.ts (Z1 p.ts i [ZG]) (if Z1 p.ts i [ZG]=true then i+1 else i)).val zB).b) (nmT ((Zc p.ts (Z1 p.ts i [ZG]) (if Z1 p.ts i [ZG]=true then i+1 else i)).val zB).b) (Tm.cellsL (Ps.arT ((Zc p.ts (Z1 p.ts i [ZG]) (if Z1 p.ts i [ZG]=true then i+1 else i)).val zB).b)) (Zc p.ts (Z1 p.ts i [ZG]) (if Z1 p.ts i [ZG]=true then i+1 else i)).pos (flt (Zc p.ts (Z1 p.ts i [ZG]) (if Z1 p.ts i [ZG]=true then i+1 else i))) (Zn p.ts (Z1 p.ts i [ZG]) (if Z1 p.ts i [ZG]=true then i+1 else i)).isOk (((Zn p.ts (Z1 p.ts i [ZG]) (if Z1 p.ts i [ZG]=true then i+1 else i)).val zL).k:Nat) ((Zn p.ts (Z1 p.ts i [ZG]) (if Z1 p.ts i [ZG]=true then i+1 else i)).val zL).no ((Zn p.ts (Z1 p.ts i [ZG]) (if Z1 p.ts i [ZG]=true then i+1 else i)).val zL).p (Tm.cellsL ((Zn p.ts (Z1 p.ts i [ZG]) (if Z1 p.ts i [ZG]=true then i+1 else i)).val zL).a) (((Zn p.ts (Z1 p.ts i [ZG]) (if Z1 p.ts i [ZG]=true then i+1 else i)).val zL).op:Nat) (kT ((Zn p.ts (Z1 p.ts i [ZG]) (if Z1 p.ts i [ZG]=true then i+1 else i)).val zL).l:Nat) (nT ((Zn p.ts (Z1 p.ts i [ZG]) (if Z1 p.ts i [ZG]=true then i+1 else i)).val zL).l) (nmT ((Zn p.ts (Z1 p.ts i [ZG]) (if Z1 p.ts i [ZG]=true then i+1 else i)).val zL).l) (Tm.cellsL (Ps.arT ((Zn p.ts (Z1 p.ts i [ZG]) (if Z1 p.ts i [ZG]=true then i+1 else i)).val zL).l)) (kT ((Zn p.ts (Z1 p.ts i [ZG]) (if Z1 p.ts i [ZG]=true then i+1 else i)).val zL).r:Nat) (nT ((Zn p.ts (Z1 p.ts i [ZG]) (if Z1 p.ts i [ZG]=true then i+1 else i)).val zL).r) (nmT ((Zn p.ts (Z1 p.ts i [ZG]) (if Z1 p.ts i [ZG]=true then i+1 else i)).val zL).r) (Tm.cellsL (Ps.arT ((Zn p.ts (Z1 p.ts i [ZG]) (if Z1 p.ts i [ZG]=true then i+1 else i)).val zL).r)) (Zn p.ts (Z1 p.ts i [ZG]) (if Z1 p.ts i [ZG]=true then i+1 else i)).pos (flt (Zn p.ts (Z1 p.ts i [ZG]) (if Z1 p.ts i [ZG]=true then i+1 else i))) (Qi p.ts (Zn p.ts (Z1 p.ts i [ZG]) (if Z1 p.ts i [ZG]=true then i+1 else i)).pos).isOk (ltL ((Qi p.ts (Zn p.ts (Z1 p.ts i [ZG]) (if Z1 p.ts i [ZG]=true then i+1 else i)).pos).val [])) (Qi p.ts (Zn p.ts (Z1 p.ts i [ZG]) (if Z1 p.ts i [ZG]=true then i+1 else i)).pos).pos (flt (Qi p.ts (Zn p.ts (Z1 p.ts i [ZG]) (if Z1 p.ts i [ZG]=true then i+1 else i)).pos)) p.r1 p.r2 p.r3) ?_);unfold ZlK Zh;rw[tk1,tk2];simp only[SS];refine⟨Qa p i [ZG] [] (by simp),?_⟩;generalize Z1 p.ts i [ZG]=no;generalize (if no=true then i+1 else i)=j;refine⟨Z1R p j [Z2h,Z2p] [] (by simp),λh1=>?_,λh1=>?_⟩
 ·rw[if_pos h1];refine psX zB (qAgg p no j) (λb k h2=>?_) λa e h2=>?_
  ·simp only[h2,PR.pos,PR.val];exact⟨rfl,rfl⟩
  ·simp only[h2];exact rfl
 ·rw[if_neg (by simp[h1])];refine psX zL (ZjH p no j (ZgF p _ _ _ (by decide))) (λl k h2=>?_) λa e h2=>?_
  ·simp only[h2,PR.bind,PR.pos,PR.val];refine psX [] (Z9J p k).1 (λc m d=>?_) λa e d=>?_
   ·simp only[d,PR.pos,PR.val];refine⟨λf=>?_,λf=>?_⟩
    ·have hc:c≠[]:=λh=>by subst h;simp[ltL] at f
     rw[if_neg hc];exact⟨rfl,rfl⟩
    ·have hc:c=[]:=by
      cases c with
      |nil=>rfl
      |cons a r=>exfalso;simp[ltL] at f<;>omega
     subst hc;rw[if_pos rfl];exact⟨rfl,rfl⟩
   ·simp only[d];exact rfl
  ·simp only[h2,PR.bind];exact rfl
end Go.Proofs.YtecgehidegnmnaaGreatDoor
