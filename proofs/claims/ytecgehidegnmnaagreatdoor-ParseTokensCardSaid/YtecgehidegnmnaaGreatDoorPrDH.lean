/- Own work: a layer over the kit: plain data,a walk over it,its soundness. -/
import Derived.Test.YtecgehidegnmnaaGreatDoorPrB
import Derived.Test.YtecgehidegnmnaaGreatDoorPrK
set_option linter.unusedSectionVars false
set_option linter.unusedVariables false
set_option linter.unusedSimpArgs false
set_option linter.deprecated false
set_option maxRecDepth 100000
/- The parser: lists of api.Head. -/
namespace Go.Proofs.YtecgehidegnmnaaGreatDoor
open Go.Sx
open Go.Sx.Lx (Tk tokC)
theorem Zi5 (ts:List Tk) (i:Int) (g:Nat) (m:Int) (sg:LU) (so:Bool) (r1 r2 r3:LD):gC (ctr libT) 10 Z7A Z6b [] [dP 0 0,dI m,dS sg,dF g [] [dP 1 0]] [] (psO1 ts i so r1 r2 r3)=(Jm (cut Z6b 0) { tm:=[(0,dP 0 0),(1,dI m),(2,dS sg),(3,dF g [] [dP 1 0]),(8,dV 10)],ob:=[(0,oC [dL (List.map tokC ts) [],dI i,dV 2,dV 3,dV 4,dB so]),(1,oC [dP 0 0]),(2,oR true 20 42 r1),(3,oR true 5 53 r2),(4,oR true 2 138 r3),(10,oR true 3 61 [])] }:Tr):=by kernel_rfl
def hdLH (ts:List Tk) (i:Int) (g:Nat) (m:Int) (sg:LU) (so:Bool) (r1 r2 r3 out:LD):St:=⟨[(0,.ptr 0 0),(1,.int .i64 m),(2,.str sg),(3,.func (.func g) [] [.ptr 1 0]),(8,.vec 10)],psO1 ts i so r1 r2 r3++[(10,.arr true 3 61 out)]⟩
theorem Z4T (ts:List Tk) (i j k:Int) (g:Nat) (m:Int) (sg:LU) (so b c:Bool) (hp:LU) (ha hcd:LD) (v:Value) (r1 r2 r3 out:LD):let A:=[(0,oC [dL (List.map tokC ts) [],dI k,dV 2,dV 3,dV 4,dB so]),(1,oC [dP 0 0]),(2,oR true 20 42 r1),(3,oR true 5 53 r2),(4,oR true 2 138 r3),(10,oR true 3 61 (out++[[dS hp,dL ha [],dL hcd []]]))];let B:=[(0,oC [dP 1 0]),(1,oC [dL (List.map tokC ts) [],dI i,dV 2,dV 3,dV 4,dB so]),(2,oR true 20 42 r1),(3,oR true 5 53 r2),(4,oR true 2 138 r3)];let G:=[dS hp,dL ha [],dL hcd []];let H:=psO ts k so r1 r2 r3;let I:=dF g [] [dP 0 0];let J:=cut Z6b 0;goT Tryz.prog { F:=fun x=>libT,C:=fun n=>if n=16 then psB false D.nils [] v else if n=19 then psB b (dA G) (psQ0 ts j so r1 r2 r3) v else psQ (dB c) H,E:=noE } 10 (finF false 10 Z7A) 2000 J (hdLH ts i g m sg so r1 r2 r3 out)=(brT (decide (m<=(↑(List.length out):Int))) (Ow (CF 54 [dP 0 0,dI 5] (psO ts i so r1 r2 r3) fun r0 ob0=>r0=D.pan v/\ob0=[]) (Rt (D.pan v) [(1,oC [dP 0 0])])) (brT b (Ow (CallL Tryz.prog I [] B fun r0 ob0=>r0=dA G/\ob0=[(0,oC [dP 1 0]),(1,oC [dL (List.map tokC ts) [],dI j,dV 2,dV 3,dV 4,dB so]),(2,oR true 20 42 r1),(3,oR true 5 53 r2),(4,oR true 2 138 r3)]) (Ow (Zb 3 [G]/\List.length out+1<=1073741824) (Ow (CF 66 [dP 0 0,dL [[dS sg]] []] (psO ts j so r1 r2 r3) fun r0 ob0=>r0=dB c/\ob0=H) (brT (!c) (Rt (dV 10) A) (Jm J { tm:=[(0,dP 0 0),(1,dI m),(2,dS sg),(3,dF g [] [dP 1 0]),(8,dV 10)],ob:=A }))))) (Ow (CallL Tryz.prog I [] B fun r0 ob0=>r0=D.pan v/\ob0=[]) (Rt (D.pan v) []))):Tr):=by intro A B G H I J;kernel_rfl
theorem qLH2 (p:PS) (g most:Nat) (sg:LU) (item:Nat->Ps.PR He) (i0:Nat) (hm:most<=1000)
  (hI: ∀ k,i0<=k->CallL Tryz.prog (.func (.func g) [] [.ptr 0 0]) [] (p.oq k) (Z3W p (fun t:He=> .agg (He.cs t)) (item k)))
  (hG: ∀ k a j,i0<=k->item k= .ok a j->k<=j): ∀ (n:Nat) (out:List He) (i:Nat),i0<=i->most+1<=n+out.length->out.length<=most →
  At Tryz.prog 10 (cut Z6b 0) (hdLH p.ts i g most sg p.so p.r1 p.r2 p.r3 (out.map He.cs)) (FinQ false 10 Z7A (Zbv p 3 61 He.cs (Ps.listP p.ts most sg item n out i)))
 | 0,out,i,hi,hn,ho=>by omega
 | n+1,out,i,hi,hn,ho=>by
  unfold Ps.listP
  have hc:=hI i hi
  by_cases hlen:most<=out.length
  ·rw[if_pos hlen]
   refine At.tree QH (Z4T p.ts i 0 0 g most sg p.so false false [] [] [] (fltV i 5) p.r1 p.r2 p.r3 (out.map He.cs)) ?_
   simp only[SS,List.length_map]
   exact⟨fun _=>⟨ZZ p i 5,rfl⟩,fun h=>by omega⟩
  ·rw[if_neg hlen]
   cases hx:item i with
   | bad a e =>
    rw[hx] at hc
    refine At.tree QH (Z4T p.ts i 0 0 g most sg p.so false false [] [] [] (fltV a e) p.r1 p.r2 p.r3 (out.map He.cs)) ?_
    simp only[SS,List.length_map]
    exact⟨fun h=>by omega,fun _=>⟨nofun,hc,rfl⟩⟩
   | ok t j =>
    rw[hx] at hc
    obtain⟨hp,ha,hcd⟩:=t
    have ht:=Zu p j [sg] [] (by simp)
    refine At.tree QH (Z4T p.ts i j ((if Ps.seesP p.ts j [sg]=true then j+1 else j:Nat):Int) g most sg p.so true (Ps.seesP p.ts j [sg]) hp (Tm.cellsL ha) (ltL hcd) Go.undef p.r1 p.r2 p.r3 (out.map He.cs)) ?_
    simp only[SS,List.length_map]
    refine⟨fun h=>by omega,fun _=>⟨⟨hc,⟨by simp[Zb],by omega⟩,ht, ?_⟩,nofun⟩⟩
    have hij:=hG i _ j hi hx
    have e:out.map He.cs++[[.str hp,.slice (Tm.cellsL ha) [],.slice (ltL hcd) []]]=(out++[(⟨hp,ha,hcd⟩:He)]).map He.cs:=by simp[He.cs]
    rw[e]
    cases hs:Ps.seesP p.ts j [sg] with
    | true =>
     refine⟨nofun,fun _=> ?_⟩
     have:=qLH2 p g most sg item i0 hm hI hG n (out++[(⟨hp,ha,hcd⟩:He)]) (j+1) (by omega) (by simp; omega) (by simp; omega)
     simp only[Ps.PR.bind,hs,if_true]
     exact this
    | false =>
     refine⟨fun _=> ?_,nofun⟩
     simp only[Ps.PR.bind,hs,Bool.false_eq_true,if_false]
     exact⟨rfl,rfl⟩
theorem Zgv (p:PS) (g most:Nat) (sg:LU) (item:Nat->Ps.PR He) (i:Nat) (hm:most<=1000)
  (hI: ∀ k,i<=k->CallL Tryz.prog (.func (.func g) [] [.ptr 0 0]) [] (p.oq k) (Z3W p (fun t:He=> .agg (He.cs t)) (item k)))
  (hG: ∀ k a j,i<=k->item k= .ok a j->k<=j):CF 172 [.ptr 0 0,.int .i64 most,.str sg,.func (.func g) [] [.ptr 1 0]] (p.ob i) (Z9s p (fun l:List He=> .slice (l.map He.cs) []) (Ps.listM p.ts most sg item i)):=by
 refine Z0N (n:=3) (e:=61) ?_
 refine CallL.tree Z5 ZgX (Z4 Z1 Z3) (Zi5 p.ts i g most sg p.so p.r1 p.r2 p.r3) ?_
 exact qLH2 p g most sg item i hm hI hG (most+1) [] i (Nat.le_refl _) (by simp) (by simp)
end Go.Proofs.YtecgehidegnmnaaGreatDoor
/- The parser: lists of api.Elem. -/
namespace Go.Proofs.YtecgehidegnmnaaGreatDoor
open Go.Sx
open Go.Sx.Lx (Tk tokC)
theorem Zi6 (ts:List Tk) (i:Int) (g:Nat) (m:Int) (sg:LU) (so:Bool) (r1 r2 r3:LD):gC (ctr libT) 10 Z7z Z6a [] [dP 0 0,dI m,dS sg,dF g [] [dP 1 0]] [] (psO1 ts i so r1 r2 r3)=(Jm (cut Z6a 0) { tm:=[(0,dP 0 0),(1,dI m),(2,dS sg),(3,dF g [] [dP 1 0]),(8,dV 10)],ob:=[(0,oC [dL (List.map tokC ts) [],dI i,dV 2,dV 3,dV 4,dB so]),(1,oC [dP 0 0]),(2,oR true 20 42 r1),(3,oR true 5 53 r2),(4,oR true 2 138 r3),(10,oR true 2 108 [])] }:Tr):=by kernel_rfl
def hdLE (ts:List Tk) (i:Int) (g:Nat) (m:Int) (sg:LU) (so:Bool) (r1 r2 r3 out:LD):St:=⟨[(0,.ptr 0 0),(1,.int .i64 m),(2,.str sg),(3,.func (.func g) [] [.ptr 1 0]),(8,.vec 10)],psO1 ts i so r1 r2 r3++[(10,.arr true 2 108 out)]⟩
theorem Z4U (ts:List Tk) (i j k:Int) (g:Nat) (m:Int) (sg:LU) (so b c:Bool) (et ec:LD) (v:Value) (r1 r2 r3 out:LD):let A:=[(0,oC [dL (List.map tokC ts) [],dI k,dV 2,dV 3,dV 4,dB so]),(1,oC [dP 0 0]),(2,oR true 20 42 r1),(3,oR true 5 53 r2),(4,oR true 2 138 r3),(10,oR true 2 108 (out++[[dL et [],dL ec []]]))];let B:=[(0,oC [dP 1 0]),(1,oC [dL (List.map tokC ts) [],dI i,dV 2,dV 3,dV 4,dB so]),(2,oR true 20 42 r1),(3,oR true 5 53 r2),(4,oR true 2 138 r3)];let G:=[dL et [],dL ec []];let H:=psO ts k so r1 r2 r3;let I:=dF g [] [dP 0 0];let J:=cut Z6a 0;goT Tryz.prog { F:=fun x=>libT,C:=fun n=>if n=16 then psB false D.nils [] v else if n=19 then psB b (dA G) (psQ0 ts j so r1 r2 r3) v else psQ (dB c) H,E:=noE } 10 (finF false 10 Z7z) 2000 J (hdLE ts i g m sg so r1 r2 r3 out)=(brT (decide (m<=(↑(List.length out):Int))) (Ow (CF 54 [dP 0 0,dI 5] (psO ts i so r1 r2 r3) fun r0 ob0=>r0=D.pan v/\ob0=[]) (Rt (D.pan v) [(1,oC [dP 0 0])])) (brT b (Ow (CallL Tryz.prog I [] B fun r0 ob0=>r0=dA G/\ob0=[(0,oC [dP 1 0]),(1,oC [dL (List.map tokC ts) [],dI j,dV 2,dV 3,dV 4,dB so]),(2,oR true 20 42 r1),(3,oR true 5 53 r2),(4,oR true 2 138 r3)]) (Ow (Zb 2 [G]/\List.length out+1<=1073741824) (Ow (CF 66 [dP 0 0,dL [[dS sg]] []] (psO ts j so r1 r2 r3) fun r0 ob0=>r0=dB c/\ob0=H) (brT (!c) (Rt (dV 10) A) (Jm J { tm:=[(0,dP 0 0),(1,dI m),(2,dS sg),(3,dF g [] [dP 1 0]),(8,dV 10)],ob:=A }))))) (Ow (CallL Tryz.prog I [] B fun r0 ob0=>r0=D.pan v/\ob0=[]) (Rt (D.pan v) []))):Tr):=by intro A B G H I J;kernel_rfl
theorem qLE2 (p:PS) (g most:Nat) (sg:LU) (item:Nat->Ps.PR El) (i0:Nat) (hm:most<=1000)
  (hI: ∀ k,i0<=k->CallL Tryz.prog (.func (.func g) [] [.ptr 0 0]) [] (p.oq k) (Z3W p (fun t:El=> .agg (El.cs t)) (item k)))
  (hG: ∀ k a j,i0<=k->item k= .ok a j->k<=j): ∀ (n:Nat) (out:List El) (i:Nat),i0<=i->most+1<=n+out.length->out.length<=most →
  At Tryz.prog 10 (cut Z6a 0) (hdLE p.ts i g most sg p.so p.r1 p.r2 p.r3 (out.map El.cs)) (FinQ false 10 Z7z (Zbv p 2 108 El.cs (Ps.listP p.ts most sg item n out i)))
 | 0,out,i,hi,hn,ho=>by omega
 | n+1,out,i,hi,hn,ho=>by
  unfold Ps.listP
  have hc:=hI i hi
  by_cases hlen:most<=out.length
  ·rw[if_pos hlen]
   refine At.tree QH (Z4U p.ts i 0 0 g most sg p.so false false [] [] (fltV i 5) p.r1 p.r2 p.r3 (out.map El.cs)) ?_
   simp only[SS,List.length_map]
   exact⟨fun _=>⟨ZZ p i 5,rfl⟩,fun h=>by omega⟩
  ·rw[if_neg hlen]
   cases hx:item i with
   | bad a e =>
    rw[hx] at hc
    refine At.tree QH (Z4U p.ts i 0 0 g most sg p.so false false [] [] (fltV a e) p.r1 p.r2 p.r3 (out.map El.cs)) ?_
    simp only[SS,List.length_map]
    exact⟨fun h=>by omega,fun _=>⟨nofun,hc,rfl⟩⟩
   | ok t j =>
    rw[hx] at hc
    obtain⟨et,ec⟩:=t
    have ht:=Zu p j [sg] [] (by simp)
    refine At.tree QH (Z4U p.ts i j ((if Ps.seesP p.ts j [sg]=true then j+1 else j:Nat):Int) g most sg p.so true (Ps.seesP p.ts j [sg]) (Tm.cellsL et) (ltL ec) Go.undef p.r1 p.r2 p.r3 (out.map El.cs)) ?_
    simp only[SS,List.length_map]
    refine⟨fun h=>by omega,fun _=>⟨⟨hc,⟨by simp[Zb],by omega⟩,ht, ?_⟩,nofun⟩⟩
    have hij:=hG i _ j hi hx
    have e:out.map El.cs++[[.slice (Tm.cellsL et) [],.slice (ltL ec) []]]=(out++[(⟨et,ec⟩:El)]).map El.cs:=by simp[El.cs]
    rw[e]
    cases hs:Ps.seesP p.ts j [sg] with
    | true =>
     refine⟨nofun,fun _=> ?_⟩
     have:=qLE2 p g most sg item i0 hm hI hG n (out++[(⟨et,ec⟩:El)]) (j+1) (by omega) (by simp; omega) (by simp; omega)
     simp only[Ps.PR.bind,hs,if_true]
     exact this
    | false =>
     refine⟨fun _=> ?_,nofun⟩
     simp only[Ps.PR.bind,hs,Bool.false_eq_true,if_false]
     exact⟨rfl,rfl⟩
theorem Zgw (p:PS) (g most:Nat) (sg:LU) (item:Nat->Ps.PR El) (i:Nat) (hm:most<=1000)
  (hI: ∀ k,i<=k->CallL Tryz.prog (.func (.func g) [] [.ptr 0 0]) [] (p.oq k) (Z3W p (fun t:El=> .agg (El.cs t)) (item k)))
  (hG: ∀ k a j,i<=k->item k= .ok a j->k<=j):CF 192 [.ptr 0 0,.int .i64 most,.str sg,.func (.func g) [] [.ptr 1 0]] (p.ob i) (Z9s p (fun l:List El=> .slice (l.map El.cs) []) (Ps.listM p.ts most sg item i)):=by
 refine Z0N (n:=2) (e:=108) ?_
 refine CallL.tree Z5 ZgU (Z4 Z1 Z3) (Zi6 p.ts i g most sg p.so p.r1 p.r2 p.r3) ?_
 exact qLE2 p g most sg item i hm hI hG (most+1) [] i (Nat.le_refl _) (by simp) (by simp)
end Go.Proofs.YtecgehidegnmnaaGreatDoor
/- The parser: braces,elements,aggregates. -/
namespace Go.Proofs.YtecgehidegnmnaaGreatDoor
open Go.Sx
open Go.Sx.Lx (Tk tokC)
open Go.Sx.Ps (kT nmT W Sm)
abbrev zB:Bo:=⟨0,Ps.zL,[],false,0,[],0,Ps.z0⟩
abbrev boE (b:Bo):D:= .agg [.int .u8 b.k,.int .u8 b.l.k,.bool b.l.no,.str b.l.p,.slice (Tm.cellsL b.l.a) [],.int .u8 b.l.op,.int .u8 (kT b.l.l:Nat),.int .i64 (nT b.l.l),.str (nmT b.l.l),.slice (Tm.cellsL (Ps.arT b.l.l)) [],.int .u8 (kT b.l.r:Nat),.int .i64 (nT b.l.r),.str (nmT b.l.r),.slice (Tm.cellsL (Ps.arT b.l.r)) [],.slice (ltL b.c) [],.bool b.no,.int .u8 b.f,.slice (elL b.e) [],.int .u8 b.op,.int .u8 (kT b.b:Nat),.int .i64 (nT b.b),.str (nmT b.b),.slice (Tm.cellsL (Ps.arT b.b)) []]
theorem Zc8 (b:Bo):boE b= .agg (Bo.cs b):=by
 obtain⟨k,⟨lk,lno,lp,la,lop,⟨k1,n1,s1,a1⟩,⟨k2,n2,s2,a2⟩⟩,c,no,f,e,op,⟨k3,n3,s3,a3⟩⟩:=b; rfl
theorem Z7y {α:Type} {p:PS} {enc:α->D} {x:Ps.PR α} {d:D} {ys:List D} {ob:Obs} (h:CallL Tryz.prog d ys ob (RS p.oq enc x)):CallL Tryz.prog d ys ob (Z3W p enc x):=by
 cases x <;> exact h
theorem qBrE (p:PS) (g:Nat) (item:Nat->Ps.PR El) (i:Nat) (hI: ∀ k,CallL Tryz.prog (.func (.func g) [] [.ptr 0 0]) [] (p.oq k) (RS p.oq (fun t:El=> .agg (El.cs t)) (item k))) (hG: ∀ k a j,item k= .ok a j->k<=j) :
  CF 173 [.ptr 0 0,.func (.func g) [] [.ptr 1 0]] (p.ob i) (RS p.ob (fun l:List El=> .slice (elL l) []) (Ps.bracesP p.ts item i)):=by
 refine QL (CallL.tree Z5 ZgW (Zi Z1 fun _=>(Z2 (Z0 _ _ _ _) (Z2 (Z0 _ _ _ _) (Z0 _ _ _ _)))) (ZfA p.ts i p.so g (Ps.mustP p.ts [123] i).isOk  (Ps.mustP p.ts [123] i).pos (flt (Ps.mustP p.ts [123] i)) (Ps.listM p.ts 64 [59] item (Ps.mustP p.ts [123] i).pos).isOk (elL ((Ps.listM p.ts 64 [59] item (Ps.mustP p.ts [123] i).pos).val [])) (Ps.listM p.ts 64 [59] item (Ps.mustP p.ts [123] i).pos).pos (flt (Ps.listM p.ts 64 [59] item (Ps.mustP p.ts [123] i).pos)) (Ps.mustP p.ts [125] (Ps.listM p.ts 64 [59] item (Ps.mustP p.ts [123] i).pos).pos).isOk  (Ps.mustP p.ts [125] (Ps.listM p.ts 64 [59] item (Ps.mustP p.ts [123] i).pos).pos).pos (flt (Ps.mustP p.ts [125] (Ps.listM p.ts 64 [59] item (Ps.mustP p.ts [123] i).pos).pos)) p.r1 p.r2 p.r3) ?_)
 unfold PBrE Ps.bracesP
 simp only[SS]
 refine psX () (Zk (ZE p i [123])) (fun _ j h1=> ?_) fun a e h1=> ?_
 ·have hl:=Z7S (Zgw p g 64 [59] item j (by decide) (fun k _=>Z7y (hI k)) fun k a m _ hx=>hG k a m hx)
  simp only[h1,Ps.PR.bind,Ps.PR.pos,Ps.PR.val]
  refine psX [] hl (fun l k h2=> ?_) fun a e h2=> ?_
  ·simp only[h2,Ps.PR.bind,Ps.PR.pos,Ps.PR.val]
   refine psX () (Zk (ZE p k [125])) (fun _ m h3=> ?_) fun a e h3=> ?_
   ·simp only[h3,Ps.PR.pos]; exact⟨rfl,rfl⟩
   ·simp only[h3]; exact rfl
  ·simp only[h2,Ps.PR.bind]; exact rfl
 ·simp only[h1,Ps.PR.bind]; exact rfl
theorem qBrH (p:PS) (g:Nat) (item:Nat->Ps.PR He) (i:Nat) (hI: ∀ k,CallL Tryz.prog (.func (.func g) [] [.ptr 0 0]) [] (p.oq k) (RS p.oq (fun t:He=> .agg (He.cs t)) (item k))) (hG: ∀ k a j,item k= .ok a j->k<=j) :
  CF 145 [.ptr 0 0,.func (.func g) [] [.ptr 1 0]] (p.ob i) (RS p.ob (fun l:List He=> .slice (heL l) []) (Ps.bracesP p.ts item i)):=by
 refine QL (CallL.tree Z5 Zha (Zi Z1 fun _=>(Z2 (Z0 _ _ _ _) (Z2 (Z0 _ _ _ _) (Z0 _ _ _ _)))) (Zfz p.ts i p.so g (Ps.mustP p.ts [123] i).isOk  (Ps.mustP p.ts [123] i).pos (flt (Ps.mustP p.ts [123] i)) (Ps.listM p.ts 64 [59] item (Ps.mustP p.ts [123] i).pos).isOk (heL ((Ps.listM p.ts 64 [59] item (Ps.mustP p.ts [123] i).pos).val [])) (Ps.listM p.ts 64 [59] item (Ps.mustP p.ts [123] i).pos).pos (flt (Ps.listM p.ts 64 [59] item (Ps.mustP p.ts [123] i).pos)) (Ps.mustP p.ts [125] (Ps.listM p.ts 64 [59] item (Ps.mustP p.ts [123] i).pos).pos).isOk  (Ps.mustP p.ts [125] (Ps.listM p.ts 64 [59] item (Ps.mustP p.ts [123] i).pos).pos).pos (flt (Ps.mustP p.ts [125] (Ps.listM p.ts 64 [59] item (Ps.mustP p.ts [123] i).pos).pos)) p.r1 p.r2 p.r3) ?_)
 unfold PBrH Ps.bracesP
 simp only[SS]
 refine psX () (Zk (ZE p i [123])) (fun _ j h1=> ?_) fun a e h1=> ?_
 ·have hl:=Z7S (Zgv p g 64 [59] item j (by decide) (fun k _=>Z7y (hI k)) fun k a m _ hx=>hG k a m hx)
  simp only[h1,Ps.PR.bind,Ps.PR.pos,Ps.PR.val]
  refine psX [] hl (fun l k h2=> ?_) fun a e h2=> ?_
  ·simp only[h2,Ps.PR.bind,Ps.PR.pos,Ps.PR.val]
   refine psX () (Zk (ZE p k [125])) (fun _ m h3=> ?_) fun a e h3=> ?_
   ·simp only[h3,Ps.PR.pos]; exact⟨rfl,rfl⟩
   ·simp only[h3]; exact rfl
  ·simp only[h2,Ps.PR.bind]; exact rfl
 ·simp only[h1,Ps.PR.bind]; exact rfl
theorem qAg1 (p:PS) (i:Nat):CallL Tryz.prog (.func (.func 174) [] [.ptr 0 0]) [] (p.oq i) (RS p.oq (fun t:El=> .agg (El.cs t)) (Ps.elemP p.ts i)):=by
 refine QL (CallL.tree Z5 ZgV (Zi Z1 fun _=>(Z2 (Z0 _ _ _ _) (Z0 _ _ _ _))) (ZfE p.ts i p.so  (Ps.tupleP p.ts i).isOk (Tm.cellsL ((Ps.tupleP p.ts i).val [])) (Ps.tupleP p.ts i).pos (flt (Ps.tupleP p.ts i)) (Ps.whenP p.ts (Ps.tupleP p.ts i).pos).isOk (ltL ((Ps.whenP p.ts (Ps.tupleP p.ts i).pos).val [])) (Ps.whenP p.ts (Ps.tupleP p.ts i).pos).pos (flt (Ps.whenP p.ts (Ps.tupleP p.ts i).pos)) p.r1 p.r2 p.r3) ?_)
 unfold PAg1 Ps.elemP
 simp only[SS]
 refine psX [] (qTup p i).1 (fun l j h1=> ?_) fun a e h1=> ?_
 ·simp only[h1,Ps.PR.bind,Ps.PR.pos,Ps.PR.val]
  refine psX [] (Z7L p j).1 (fun c k h2=> ?_) fun a e h2=> ?_
  ·simp only[h2,Ps.PR.pos,Ps.PR.val]; exact⟨rfl,rfl⟩
  ·simp only[h2]; exact rfl
 ·simp only[h1,Ps.PR.bind]; exact rfl
theorem qCh1 (p:PS) (i:Nat):CallL Tryz.prog (.func (.func 146) [] [.ptr 0 0]) [] (p.oq i) (RS p.oq (fun t:He=> .agg (He.cs t)) (Ps.headI p.ts i)):=by
 refine QL (CallL.tree Z5 Zh9 (Zi Z1 fun _=>(Z2 (Z0 _ _ _ _) (Z0 _ _ _ _))) (Zfy p.ts i p.so  (Ps.atomP p.ts i).isOk ((Ps.atomP p.ts i).val ([],[])).1 (Tm.cellsL ((Ps.atomP p.ts i).val ([],[])).2) (Ps.atomP p.ts i).pos (flt (Ps.atomP p.ts i)) (Ps.whenP p.ts (Ps.atomP p.ts i).pos).isOk (ltL ((Ps.whenP p.ts (Ps.atomP p.ts i).pos).val [])) (Ps.whenP p.ts (Ps.atomP p.ts i).pos).pos (flt (Ps.whenP p.ts (Ps.atomP p.ts i).pos)) p.r1 p.r2 p.r3) ?_)
 unfold PCh1 Ps.headI
 simp only[SS]
 refine psX ([],[]) (Zea p i).1 (fun l j h1=> ?_) fun a e h1=> ?_
 ·simp only[h1,Ps.PR.bind,Ps.PR.pos,Ps.PR.val]
  refine psX [] (Z7L p j).1 (fun c k h2=> ?_) fun a e h2=> ?_
  ·simp only[h2,Ps.PR.pos,Ps.PR.val]; exact⟨rfl,rfl⟩
  ·simp only[h2]; exact rfl
 ·simp only[h1,Ps.PR.bind]; exact rfl
theorem qAgg (p:PS) (no:Bool) (i:Nat):CF 149 [.ptr 0 0,.bool no] (p.o i) (RS p.o boE (Ps.aggregateP p.ts no i)):=by
 refine QL (CallL.tree Z5 Zh6 (Zi Z1 fun _=>(Z2 (Z7 _ _) (Z2 (Z0 _ _ _ _) (Z2 (Z0 _ _ _ _) (Z2 (Z7 _ _) (Z2 (Z0 _ _ _ _) (Z2 (Z0 _ _ _ _) (Z0 _ _ _ _)))))))) (ZfD p.ts i p.so no (Ps.seesP p.ts (i) [Ps.sumS]) ((if Ps.seesP p.ts (i) [Ps.sumS]=true then i+1 else i:Nat):Int) (Ps.mustP p.ts Ps.cntS i).isOk  (Ps.mustP p.ts Ps.cntS i).pos (flt (Ps.mustP p.ts Ps.cntS i)) (Ps.bracesP p.ts (Ps.elemP p.ts) (if Ps.seesP p.ts i [Ps.sumS]=true then i+1 else (Ps.mustP p.ts Ps.cntS i).pos)).isOk (elL ((Ps.bracesP p.ts (Ps.elemP p.ts) (if Ps.seesP p.ts i [Ps.sumS]=true then i+1 else (Ps.mustP p.ts Ps.cntS i).pos)).val [])) (Ps.bracesP p.ts (Ps.elemP p.ts) (if Ps.seesP p.ts i [Ps.sumS]=true then i+1 else (Ps.mustP p.ts Ps.cntS i).pos)).pos (flt (Ps.bracesP p.ts (Ps.elemP p.ts) (if Ps.seesP p.ts i [Ps.sumS]=true then i+1 else (Ps.mustP p.ts Ps.cntS i).pos))) (Ps.seesP p.ts ((Ps.bracesP p.ts (Ps.elemP p.ts) (if Ps.seesP p.ts i [Ps.sumS]=true then i+1 else (Ps.mustP p.ts Ps.cntS i).pos)).pos) [[33,61]]) (fltV ((Ps.bracesP p.ts (Ps.elemP p.ts) (if Ps.seesP p.ts i [Ps.sumS]=true then i+1 else (Ps.mustP p.ts Ps.cntS i).pos)).pos) 40) (Ps.comparisonP p.ts (Ps.bracesP p.ts (Ps.elemP p.ts) (if Ps.seesP p.ts i [Ps.sumS]=true then i+1 else (Ps.mustP p.ts Ps.cntS i).pos)).pos).isOk (((Ps.comparisonP p.ts (Ps.bracesP p.ts (Ps.elemP p.ts) (if Ps.seesP p.ts i [Ps.sumS]=true then i+1 else (Ps.mustP p.ts Ps.cntS i).pos)).pos).val 0):Nat) (Ps.comparisonP p.ts (Ps.bracesP p.ts (Ps.elemP p.ts) (if Ps.seesP p.ts i [Ps.sumS]=true then i+1 else (Ps.mustP p.ts Ps.cntS i).pos)).pos).pos (flt (Ps.comparisonP p.ts (Ps.bracesP p.ts (Ps.elemP p.ts) (if Ps.seesP p.ts i [Ps.sumS]=true then i+1 else (Ps.mustP p.ts Ps.cntS i).pos)).pos)) (Ps.termP p.ts (Ps.comparisonP p.ts (Ps.bracesP p.ts (Ps.elemP p.ts) (if Ps.seesP p.ts i [Ps.sumS]=true then i+1 else (Ps.mustP p.ts Ps.cntS i).pos)).pos).pos).isOk (kT ((Ps.termP p.ts (Ps.comparisonP p.ts (Ps.bracesP p.ts (Ps.elemP p.ts) (if Ps.seesP p.ts i [Ps.sumS]=true then i+1 else (Ps.mustP p.ts Ps.cntS i).pos)).pos).pos).val Ps.z0):Nat) (nT ((Ps.termP p.ts (Ps.comparisonP p.ts (Ps.bracesP p.ts (Ps.elemP p.ts) (if Ps.seesP p.ts i [Ps.sumS]=true then i+1 else (Ps.mustP p.ts Ps.cntS i).pos)).pos).pos).val Ps.z0)) (nmT ((Ps.termP p.ts (Ps.comparisonP p.ts (Ps.bracesP p.ts (Ps.elemP p.ts) (if Ps.seesP p.ts i [Ps.sumS]=true then i+1 else (Ps.mustP p.ts Ps.cntS i).pos)).pos).pos).val Ps.z0)) (Tm.cellsL (Ps.arT ((Ps.termP p.ts (Ps.comparisonP p.ts (Ps.bracesP p.ts (Ps.elemP p.ts) (if Ps.seesP p.ts i [Ps.sumS]=true then i+1 else (Ps.mustP p.ts Ps.cntS i).pos)).pos).pos).val Ps.z0))) (Ps.termP p.ts (Ps.comparisonP p.ts (Ps.bracesP p.ts (Ps.elemP p.ts) (if Ps.seesP p.ts i [Ps.sumS]=true then i+1 else (Ps.mustP p.ts Ps.cntS i).pos)).pos).pos).pos (flt (Ps.termP p.ts (Ps.comparisonP p.ts (Ps.bracesP p.ts (Ps.elemP p.ts) (if Ps.seesP p.ts i [Ps.sumS]=true then i+1 else (Ps.mustP p.ts Ps.cntS i).pos)).pos).pos)) p.r1 p.r2 p.r3) ?_)
 unfold PAgg Ps.aggregateP
 simp only[SS]
 have hb: ∀ j,CF 173 [.ptr 0 0,.func (.func 174) [] [.ptr 1 0]] (p.ob j) (RS p.ob (fun l:List El=> .slice (elL l) []) (Ps.bracesP p.ts (Ps.elemP p.ts) j)):=fun j=>qBrE p _ (Ps.elemP p.ts) j (qAg1 p) fun k a m hx=>w_le (Ps.w_elem (Sm.self p.ts) k) hx
 refine⟨Zu p i [Ps.sumS] [] (by simp),fun hs=> ?_,fun hs=> ?_⟩
 ·simp only[hs,if_true,Ps.PR.bind]
  refine psX [] (hb (i+1)) (fun l k h2=> ?_) fun a e h2=> ?_
  ·simp only[h2,Ps.PR.bind,Ps.PR.pos,Ps.PR.val]
   refine⟨Z0C p k [[33,61]] [] (by simp),fun h3=>⟨ZZ p k 40, ?_⟩,fun h3=> ?_⟩
   ·simp only[h3,if_true]; exact rfl
   ·simp only[h3,Bool.false_eq_true,if_false]
    refine psX 0 (Zk (Ze9 p k)) (fun op m h4=> ?_) fun a e h4=> ?_
    ·simp only[h4,Ps.PR.bind,Ps.PR.pos,Ps.PR.val]
     refine psX Ps.z0 (Z1Z p m).1 (fun t o h5=> ?_) fun a e h5=> ?_
     ·simp only[h5,Ps.PR.pos,Ps.PR.val]; exact⟨rfl,rfl⟩
     ·simp only[h5]; exact rfl
    ·simp only[h4,Ps.PR.bind]; exact rfl
  ·simp only[h2,Ps.PR.bind]; exact rfl
 ·simp only[hs,Bool.false_eq_true,if_false]
  refine psX () (Zk (ZE p i Ps.cntS)) (fun _ j h1=> ?_) fun a e h1=> ?_
  ·simp only[h1,Ps.PR.bind,Ps.PR.pos,Ps.PR.val]
   refine psX [] (hb j) (fun l k h2=> ?_) fun a e h2=> ?_
   ·simp only[h2,Ps.PR.bind,Ps.PR.pos,Ps.PR.val]
    refine⟨Z0C p k [[33,61]] [] (by simp),fun h3=>⟨ZZ p k 40, ?_⟩,fun h3=> ?_⟩
    ·simp only[h3,if_true]; exact rfl
    ·simp only[h3,Bool.false_eq_true,if_false]
     refine psX 0 (Zk (Ze9 p k)) (fun op m h4=> ?_) fun a e h4=> ?_
     ·simp only[h4,Ps.PR.bind,Ps.PR.pos,Ps.PR.val]
      refine psX Ps.z0 (Z1Z p m).1 (fun t o h5=> ?_) fun a e h5=> ?_
      ·simp only[h5,Ps.PR.pos,Ps.PR.val]; exact⟨rfl,rfl⟩
      ·simp only[h5]; exact rfl
     ·simp only[h4,Ps.PR.bind]; exact rfl
   ·simp only[h2,Ps.PR.bind]; exact rfl
  ·simp only[h1,Ps.PR.bind]; exact rfl
theorem ZiW (p:PS) (i:Nat):Mth 112 (p.o i) (RS p.o boE (Ps.elementP p.ts i)):=by
 refine Mth.rs (Mth.tree Zhp (Zi Z1 fun _=>(Z2 (Z7 _ _) (Z2 (Z7 _ _) (Z2 (Z0 _ _ _ _) (Z2 (Z0 _ _ _ _) (Z0 _ _ _ _)))))) (Zbl p.ts i p.so  (Ps.seesP p.ts (i) [Lx.notS]) ((if Ps.seesP p.ts (i) [Lx.notS]=true then i+1 else i:Nat):Int) (Ps.seesP p.ts ((if Ps.seesP p.ts i [Lx.notS]=true then i+1 else i)) [Ps.cntS,Ps.sumS]) (Ps.aggregateP p.ts (Ps.seesP p.ts i [Lx.notS]) (if Ps.seesP p.ts i [Lx.notS]=true then i+1 else i)).isOk (((Ps.aggregateP p.ts (Ps.seesP p.ts i [Lx.notS]) (if Ps.seesP p.ts i [Lx.notS]=true then i+1 else i)).val zB).k:Nat) (((Ps.aggregateP p.ts (Ps.seesP p.ts i [Lx.notS]) (if Ps.seesP p.ts i [Lx.notS]=true then i+1 else i)).val zB).l.k:Nat) ((Ps.aggregateP p.ts (Ps.seesP p.ts i [Lx.notS]) (if Ps.seesP p.ts i [Lx.notS]=true then i+1 else i)).val zB).l.no ((Ps.aggregateP p.ts (Ps.seesP p.ts i [Lx.notS]) (if Ps.seesP p.ts i [Lx.notS]=true then i+1 else i)).val zB).l.p (Tm.cellsL ((Ps.aggregateP p.ts (Ps.seesP p.ts i [Lx.notS]) (if Ps.seesP p.ts i [Lx.notS]=true then i+1 else i)).val zB).l.a) (((Ps.aggregateP p.ts (Ps.seesP p.ts i [Lx.notS]) (if Ps.seesP p.ts i [Lx.notS]=true then i+1 else i)).val zB).l.op:Nat) (kT ((Ps.aggregateP p.ts (Ps.seesP p.ts i [Lx.notS]) (if Ps.seesP p.ts i [Lx.notS]=true then i+1 else i)).val zB).l.l:Nat) (nT ((Ps.aggregateP p.ts (Ps.seesP p.ts i [Lx.notS]) (if Ps.seesP p.ts i [Lx.notS]=true then i+1 else i)).val zB).l.l) (nmT ((Ps.aggregateP p.ts (Ps.seesP p.ts i [Lx.notS]) (if Ps.seesP p.ts i [Lx.notS]=true then i+1 else i)).val zB).l.l) (Tm.cellsL (Ps.arT ((Ps.aggregateP p.ts (Ps.seesP p.ts i [Lx.notS]) (if Ps.seesP p.ts i [Lx.notS]=true then i+1 else i)).val zB).l.l)) (kT ((Ps.aggregateP p.ts (Ps.seesP p.ts i [Lx.notS]) (if Ps.seesP p.ts i [Lx.notS]=true then i+1 else i)).val zB).l.r:Nat) (nT ((Ps.aggregateP p.ts (Ps.seesP p.ts i [Lx.notS]) (if Ps.seesP p.ts i [Lx.notS]=true then i+1 else i)).val zB).l.r) (nmT ((Ps.aggregateP p.ts (Ps.seesP p.ts i [Lx.notS]) (if Ps.seesP p.ts i [Lx.notS]=true then i+1 else i)).val zB).l.r) (Tm.cellsL (Ps.arT ((Ps.aggregateP p.ts (Ps.seesP p.ts i [Lx.notS]) (if Ps.seesP p.ts i [Lx.notS]=true then i+1 else i)).val zB).l.r)) (ltL ((Ps.aggregateP p.ts (Ps.seesP p.ts i [Lx.notS]) (if Ps.seesP p.ts i [Lx.notS]=true then i+1 else i)).val zB).c) ((Ps.aggregateP p.ts (Ps.seesP p.ts i [Lx.notS]) (if Ps.seesP p.ts i [Lx.notS]=true then i+1 else i)).val zB).no (((Ps.aggregateP p.ts (Ps.seesP p.ts i [Lx.notS]) (if Ps.seesP p.ts i [Lx.notS]=true then i+1 else i)).val zB).f:Nat) (elL ((Ps.aggregateP p.ts (Ps.seesP p.ts i [Lx.notS]) (if Ps.seesP p.ts i [Lx.notS]=true then i+1 else i)).val zB).e) (((Ps.aggregateP p.ts (Ps.seesP p.ts i [Lx.notS]) (if Ps.seesP p.ts i [Lx.notS]=true then i+1 else i)).val zB).op:Nat) (kT ((Ps.aggregateP p.ts (Ps.seesP p.ts i [Lx.notS]) (if Ps.seesP p.ts i [Lx.notS]=true then i+1 else i)).val zB).b:Nat) (nT ((Ps.aggregateP p.ts (Ps.seesP p.ts i [Lx.notS]) (if Ps.seesP p.ts i [Lx.notS]=true then i+1 else i)).val zB).b) (nmT ((Ps.aggregateP p.ts (Ps.seesP p.ts i [Lx.notS]) (if Ps.seesP p.ts i [Lx.notS]=true then i+1 else i)).val zB).b) (Tm.cellsL (Ps.arT ((Ps.aggregateP p.ts (Ps.seesP p.ts i [Lx.notS]) (if Ps.seesP p.ts i [Lx.notS]=true then i+1 else i)).val zB).b)) (Ps.aggregateP p.ts (Ps.seesP p.ts i [Lx.notS]) (if Ps.seesP p.ts i [Lx.notS]=true then i+1 else i)).pos (flt (Ps.aggregateP p.ts (Ps.seesP p.ts i [Lx.notS]) (if Ps.seesP p.ts i [Lx.notS]=true then i+1 else i))) (Ps.literalP p.ts (Ps.seesP p.ts i [Lx.notS]) (if Ps.seesP p.ts i [Lx.notS]=true then i+1 else i)).isOk (((Ps.literalP p.ts (Ps.seesP p.ts i [Lx.notS]) (if Ps.seesP p.ts i [Lx.notS]=true then i+1 else i)).val Ps.zL).k:Nat) ((Ps.literalP p.ts (Ps.seesP p.ts i [Lx.notS]) (if Ps.seesP p.ts i [Lx.notS]=true then i+1 else i)).val Ps.zL).no ((Ps.literalP p.ts (Ps.seesP p.ts i [Lx.notS]) (if Ps.seesP p.ts i [Lx.notS]=true then i+1 else i)).val Ps.zL).p (Tm.cellsL ((Ps.literalP p.ts (Ps.seesP p.ts i [Lx.notS]) (if Ps.seesP p.ts i [Lx.notS]=true then i+1 else i)).val Ps.zL).a) (((Ps.literalP p.ts (Ps.seesP p.ts i [Lx.notS]) (if Ps.seesP p.ts i [Lx.notS]=true then i+1 else i)).val Ps.zL).op:Nat) (kT ((Ps.literalP p.ts (Ps.seesP p.ts i [Lx.notS]) (if Ps.seesP p.ts i [Lx.notS]=true then i+1 else i)).val Ps.zL).l:Nat) (nT ((Ps.literalP p.ts (Ps.seesP p.ts i [Lx.notS]) (if Ps.seesP p.ts i [Lx.notS]=true then i+1 else i)).val Ps.zL).l) (nmT ((Ps.literalP p.ts (Ps.seesP p.ts i [Lx.notS]) (if Ps.seesP p.ts i [Lx.notS]=true then i+1 else i)).val Ps.zL).l) (Tm.cellsL (Ps.arT ((Ps.literalP p.ts (Ps.seesP p.ts i [Lx.notS]) (if Ps.seesP p.ts i [Lx.notS]=true then i+1 else i)).val Ps.zL).l)) (kT ((Ps.literalP p.ts (Ps.seesP p.ts i [Lx.notS]) (if Ps.seesP p.ts i [Lx.notS]=true then i+1 else i)).val Ps.zL).r:Nat) (nT ((Ps.literalP p.ts (Ps.seesP p.ts i [Lx.notS]) (if Ps.seesP p.ts i [Lx.notS]=true then i+1 else i)).val Ps.zL).r) (nmT ((Ps.literalP p.ts (Ps.seesP p.ts i [Lx.notS]) (if Ps.seesP p.ts i [Lx.notS]=true then i+1 else i)).val Ps.zL).r) (Tm.cellsL (Ps.arT ((Ps.literalP p.ts (Ps.seesP p.ts i [Lx.notS]) (if Ps.seesP p.ts i [Lx.notS]=true then i+1 else i)).val Ps.zL).r)) (Ps.literalP p.ts (Ps.seesP p.ts i [Lx.notS]) (if Ps.seesP p.ts i [Lx.notS]=true then i+1 else i)).pos (flt (Ps.literalP p.ts (Ps.seesP p.ts i [Lx.notS]) (if Ps.seesP p.ts i [Lx.notS]=true then i+1 else i))) (Ps.whenP p.ts (Ps.literalP p.ts (Ps.seesP p.ts i [Lx.notS]) (if Ps.seesP p.ts i [Lx.notS]=true then i+1 else i)).pos).isOk (ltL ((Ps.whenP p.ts (Ps.literalP p.ts (Ps.seesP p.ts i [Lx.notS]) (if Ps.seesP p.ts i [Lx.notS]=true then i+1 else i)).pos).val [])) (Ps.whenP p.ts (Ps.literalP p.ts (Ps.seesP p.ts i [Lx.notS]) (if Ps.seesP p.ts i [Lx.notS]=true then i+1 else i)).pos).pos (flt (Ps.whenP p.ts (Ps.literalP p.ts (Ps.seesP p.ts i [Lx.notS]) (if Ps.seesP p.ts i [Lx.notS]=true then i+1 else i)).pos)) p.r1 p.r2 p.r3) ?_)
 unfold Zia Ps.elementP
 rw[tk1,tk2]
 simp only[SS]
 refine⟨Zu p i [Lx.notS] [] (by simp), ?_⟩
 generalize Ps.seesP p.ts i [Lx.notS]=no
 generalize (if no=true then i+1 else i)=j
 refine⟨Z0C p j [Ps.cntS,Ps.sumS] [] (by simp),fun h1=> ?_,fun h1=> ?_⟩
 ·rw[if_pos h1]
  refine psX zB (qAgg p no j) (fun b k h2=> ?_) fun a e h2=> ?_
  ·simp only[h2,Ps.PR.pos,Ps.PR.val]; exact⟨rfl,rfl⟩
  ·simp only[h2]; exact rfl
 ·rw[if_neg (by simp[h1])]
  refine psX Ps.zL (Zgt p no j (Ze8 p _ _ _ (by decide))) (fun l k h2=> ?_) fun a e h2=> ?_
  ·simp only[h2,Ps.PR.bind,Ps.PR.pos,Ps.PR.val]
   refine psX [] (Z7L p k).1 (fun c m h3=> ?_) fun a e h3=> ?_
   ·simp only[h3,Ps.PR.pos,Ps.PR.val]
    refine⟨fun h4=> ?_,fun h4=> ?_⟩
    ·have hc:c≠[]:=fun h=>by subst h; simp[ltL] at h4
     rw[if_neg hc]; exact⟨rfl,rfl⟩
    ·have hc:c=[]:=by
      cases c with
      | nil=>rfl
      | cons a r=>exfalso; simp[ltL] at h4 <;> omega
     subst hc
     rw[if_pos rfl]; exact⟨rfl,rfl⟩
   ·simp only[h3]; exact rfl
  ·simp only[h2,Ps.PR.bind]; exact rfl
end Go.Proofs.YtecgehidegnmnaaGreatDoor
