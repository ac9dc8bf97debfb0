/- Own work: a layer over the kit: plain data,a walk over it,its soundness. -/
import Derived.Test.YtecgehidegnmnaaGreatDoorPrB
import Derived.Test.YtecgehidegnmnaaGreatDoorPrK
set_option linter.unusedSectionVars false
set_option linter.unusedVariables false
set_option linter.unusedSimpArgs false
set_option linter.deprecated false
set_option maxRecDepth 100000
/- The parser: lists of api.Head. -/
open Go.Sx.Ps (PR Z10 Z1 Qi zL z0 Zo Z0 QO ZX Qe Z0q QK Zc Z2b Z25 Ze Z9 Zg Zn)
open Go.Sx.Lx (ZD)
namespace Go.Proofs.YtecgehidegnmnaaGreatDoor
open Go.Sx
open Go.Sx.Lx (Tk Zq)
theorem Zk7 (ts:List Tk) (i:Int) (g:Nat) (m:Int) (sg:LU) (so:Bool) (r1 r2 r3:LD):gC (ctr libT) 10 Z9q Z7W [] [dP 0 0,dI m,dS sg,dF g [] [dP 1 0]] [] (psO1 ts i so r1 r2 r3)=(Jm (cut Z7W 0) { tm:=[(0,dP 0 0),(1,dI m),(2,dS sg),(3,dF g [] [dP 1 0]),(8,dV 10)],ob:=[(0,oC [dL (List.map Zq ts) [],dI i,dV 2,dV 3,dV 4,dB so]),(1,oC [dP 0 0]),(2,oR true 20 42 r1),(3,oR true 5 53 r2),(4,oR true 2 138 r3),(10,oR true 3 61 [])] }:Tr):=by kernel_rfl
def hdLH (ts:List Tk) (i:Int) (g:Nat) (m:Int) (sg:LU) (so:Bool) (r1 r2 r3 out:LD):St:=⟨[(0,.ptr 0 0),(1,.int .i64 m),(2,.str sg),(3,.func (.func g) [] [.ptr 1 0]),(8,.vec 10)],psO1 ts i so r1 r2 r3++[(10,.arr true 3 61 out)]⟩
theorem Z6v (ts:List Tk) (i j k:Int) (g:Nat) (m:Int) (sg:LU) (so b c:Bool) (hp:LU) (ha hcd:LD) (v:Value) (r1 r2 r3 out:LD):let A:=[(0,oC [dL (List.map Zq ts) [],dI k,dV 2,dV 3,dV 4,dB so]),(1,oC [dP 0 0]),(2,oR true 20 42 r1),(3,oR true 5 53 r2),(4,oR true 2 138 r3),(10,oR true 3 61 (out++[[dS hp,dL ha [],dL hcd []]]))];let B:=[(0,oC [dP 1 0]),(1,oC [dL (List.map Zq ts) [],dI i,dV 2,dV 3,dV 4,dB so]),(2,oR true 20 42 r1),(3,oR true 5 53 r2),(4,oR true 2 138 r3)];let G:=[dS hp,dL ha [],dL hcd []];let H:=psO ts k so r1 r2 r3;let I:=dF g [] [dP 0 0];let J:=D.pan v;let K:=cut Z7W 0;goT Tryz.prog { F:=fun x=>libT,C:=fun n=>if n=16 then psB false D.nils [] v else if n=19 then psB b (dA G) (psQ0 ts j so r1 r2 r3) v else psQ (dB c) H,E:=noE } 10 (finF false 10 Z9q) 2000 K (hdLH ts i g m sg so r1 r2 r3 out)=(brT (decide (m<=(↑(List.length out):Int))) (Ow (CQ 54 [dP 0 0,dI 5] (psO ts i so r1 r2 r3) J []) (Rt J [(1,oC [dP 0 0])])) (brT b (Ow (CallL Tryz.prog I [] B fun r0 ob0=>r0=dA G/\ob0=[(0,oC [dP 1 0]),(1,oC [dL (List.map Zq ts) [],dI j,dV 2,dV 3,dV 4,dB so]),(2,oR true 20 42 r1),(3,oR true 5 53 r2),(4,oR true 2 138 r3)]) (Ow (Zr 3 [G]/\List.length out+1<=1073741824) (Ow (CQ 66 [dP 0 0,dL [[dS sg]] []] (psO ts j so r1 r2 r3) (dB c) H) (brT (!c) (Rt (dV 10) A) (Jm K { tm:=[(0,dP 0 0),(1,dI m),(2,dS sg),(3,dF g [] [dP 1 0]),(8,dV 10)],ob:=A }))))) (Ow (CallL Tryz.prog I [] B fun r0 ob0=>r0=D.pan v/\ob0=[]) (Rt J []))):Tr):=by intro A B G H I J K;kernel_rfl
theorem qLH2 (p:PS) (g most:Nat) (sg:LU) (item:Nat->PR He) (i0:Nat) (hm:most<=1000)
  (hI: ∀ k,i0<=k->CallL Tryz.prog (.func (.func g) [] [.ptr 0 0]) [] (p.oq k) (Z5l p (fun t:He=> .agg (He.cs t)) (item k)))
  (hG: ∀ k a j,i0<=k->item k= .ok a j->k<=j): ∀ (n:Nat) (out:List He) (i:Nat),i0<=i->most+1<=n+out.length->out.length<=most →
  At Tryz.prog 10 (cut Z7W 0) (hdLH p.ts i g most sg p.so p.r1 p.r2 p.r3 (out.map He.cs)) (FinQ false 10 Z9q (Zdo p 3 61 He.cs (Z10 p.ts most sg item n out i)))
 | 0,out,i,hi,hn,ho=>by omega
 | n+1,out,i,hi,hn,ho=>by
  unfold Z10
  have hc:=hI i hi
  by_cases hlen:most<=out.length
  ·rw[if_pos hlen]
   refine At.tree Z0F (Z6v p.ts i 0 0 g most sg p.so false false [] [] [] (fltV i 5) p.r1 p.r2 p.r3 (out.map He.cs)) ?_
   simp only[SS,List.length_map]
   exact⟨fun _=>⟨QQ p i 5,rfl⟩,fun h=>by omega⟩
  ·rw[if_neg hlen]
   cases hx:item i with
   | bad a e =>
    rw[hx] at hc
    refine At.tree Z0F (Z6v p.ts i 0 0 g most sg p.so false false [] [] [] (fltV a e) p.r1 p.r2 p.r3 (out.map He.cs)) ?_
    simp only[SS,List.length_map]
    exact⟨fun h=>by omega,fun _=>⟨nofun,hc,rfl⟩⟩
   | ok t j =>
    rw[hx] at hc
    obtain⟨hp,ha,hcd⟩:=t
    have ht:=Q6 p j [sg] [] (by simp)
    refine At.tree Z0F (Z6v p.ts i j ((if Z1 p.ts j [sg]=true then j+1 else j:Nat):Int) g most sg p.so true (Z1 p.ts j [sg]) hp (Tm.cellsL ha) (ltL hcd) Go.undef p.r1 p.r2 p.r3 (out.map He.cs)) ?_
    simp only[SS,List.length_map]
    refine⟨fun h=>by omega,fun _=>⟨⟨hc,⟨by simp[Zr],by omega⟩,ht, ?_⟩,nofun⟩⟩
    have hij:=hG i _ j hi hx
    have e:out.map He.cs++[[.str hp,.slice (Tm.cellsL ha) [],.slice (ltL hcd) []]]=(out++[(⟨hp,ha,hcd⟩:He)]).map He.cs:=by simp[He.cs]
    rw[e]
    cases hs:Z1 p.ts j [sg] with
    | true =>
     refine⟨nofun,fun _=> ?_⟩
     have:=qLH2 p g most sg item i0 hm hI hG n (out++[(⟨hp,ha,hcd⟩:He)]) (j+1) (by omega) (by simp; omega) (by simp; omega)
     simp only[PR.bind,hs,if_true]
     exact this
    | false =>
     refine⟨fun _=> ?_,nofun⟩
     simp only[PR.bind,hs,Bool.false_eq_true,if_false]
     exact⟨rfl,rfl⟩
theorem Ziv (p:PS) (g most:Nat) (sg:LU) (item:Nat->PR He) (i:Nat) (hm:most<=1000)
  (hI: ∀ k,i<=k->CallL Tryz.prog (.func (.func g) [] [.ptr 0 0]) [] (p.oq k) (Z5l p (fun t:He=> .agg (He.cs t)) (item k)))
  (hG: ∀ k a j,i<=k->item k= .ok a j->k<=j):CF 172 [.ptr 0 0,.int .i64 most,.str sg,.func (.func g) [] [.ptr 1 0]] (p.ob i) (Zbl p (fun l:List He=> .slice (l.map He.cs) []) (Qi p.ts most sg item i)):=by
 refine Z1Z (n:=3) (e:=61) ?_
 refine CallL.tree Z7 ZiY (Z8 Z3 Z5) (Zk7 p.ts i g most sg p.so p.r1 p.r2 p.r3) ?_
 exact qLH2 p g most sg item i hm hI hG (most+1) [] i (Nat.le_refl _) (by simp) (by simp)
end Go.Proofs.YtecgehidegnmnaaGreatDoor
/- The parser: lists of api.Elem. -/
namespace Go.Proofs.YtecgehidegnmnaaGreatDoor
open Go.Sx
open Go.Sx.Lx (Tk Zq)
theorem Zk8 (ts:List Tk) (i:Int) (g:Nat) (m:Int) (sg:LU) (so:Bool) (r1 r2 r3:LD):gC (ctr libT) 10 Z9p Z7V [] [dP 0 0,dI m,dS sg,dF g [] [dP 1 0]] [] (psO1 ts i so r1 r2 r3)=(Jm (cut Z7V 0) { tm:=[(0,dP 0 0),(1,dI m),(2,dS sg),(3,dF g [] [dP 1 0]),(8,dV 10)],ob:=[(0,oC [dL (List.map Zq ts) [],dI i,dV 2,dV 3,dV 4,dB so]),(1,oC [dP 0 0]),(2,oR true 20 42 r1),(3,oR true 5 53 r2),(4,oR true 2 138 r3),(10,oR true 2 108 [])] }:Tr):=by kernel_rfl
def hdLE (ts:List Tk) (i:Int) (g:Nat) (m:Int) (sg:LU) (so:Bool) (r1 r2 r3 out:LD):St:=⟨[(0,.ptr 0 0),(1,.int .i64 m),(2,.str sg),(3,.func (.func g) [] [.ptr 1 0]),(8,.vec 10)],psO1 ts i so r1 r2 r3++[(10,.arr true 2 108 out)]⟩
theorem Z6w (ts:List Tk) (i j k:Int) (g:Nat) (m:Int) (sg:LU) (so b c:Bool) (et ec:LD) (v:Value) (r1 r2 r3 out:LD):let A:=[(0,oC [dL (List.map Zq ts) [],dI k,dV 2,dV 3,dV 4,dB so]),(1,oC [dP 0 0]),(2,oR true 20 42 r1),(3,oR true 5 53 r2),(4,oR true 2 138 r3),(10,oR true 2 108 (out++[[dL et [],dL ec []]]))];let B:=[(0,oC [dP 1 0]),(1,oC [dL (List.map Zq ts) [],dI i,dV 2,dV 3,dV 4,dB so]),(2,oR true 20 42 r1),(3,oR true 5 53 r2),(4,oR true 2 138 r3)];let G:=[dL et [],dL ec []];let H:=psO ts k so r1 r2 r3;let I:=dF g [] [dP 0 0];let J:=D.pan v;let K:=cut Z7V 0;goT Tryz.prog { F:=fun x=>libT,C:=fun n=>if n=16 then psB false D.nils [] v else if n=19 then psB b (dA G) (psQ0 ts j so r1 r2 r3) v else psQ (dB c) H,E:=noE } 10 (finF false 10 Z9p) 2000 K (hdLE ts i g m sg so r1 r2 r3 out)=(brT (decide (m<=(↑(List.length out):Int))) (Ow (CQ 54 [dP 0 0,dI 5] (psO ts i so r1 r2 r3) J []) (Rt J [(1,oC [dP 0 0])])) (brT b (Ow (CallL Tryz.prog I [] B fun r0 ob0=>r0=dA G/\ob0=[(0,oC [dP 1 0]),(1,oC [dL (List.map Zq ts) [],dI j,dV 2,dV 3,dV 4,dB so]),(2,oR true 20 42 r1),(3,oR true 5 53 r2),(4,oR true 2 138 r3)]) (Ow (Zr 2 [G]/\List.length out+1<=1073741824) (Ow (CQ 66 [dP 0 0,dL [[dS sg]] []] (psO ts j so r1 r2 r3) (dB c) H) (brT (!c) (Rt (dV 10) A) (Jm K { tm:=[(0,dP 0 0),(1,dI m),(2,dS sg),(3,dF g [] [dP 1 0]),(8,dV 10)],ob:=A }))))) (Ow (CallL Tryz.prog I [] B fun r0 ob0=>r0=D.pan v/\ob0=[]) (Rt J []))):Tr):=by intro A B G H I J K;kernel_rfl
theorem qLE2 (p:PS) (g most:Nat) (sg:LU) (item:Nat->PR El) (i0:Nat) (hm:most<=1000)
  (hI: ∀ k,i0<=k->CallL Tryz.prog (.func (.func g) [] [.ptr 0 0]) [] (p.oq k) (Z5l p (fun t:El=> .agg (El.cs t)) (item k)))
  (hG: ∀ k a j,i0<=k->item k= .ok a j->k<=j): ∀ (n:Nat) (out:List El) (i:Nat),i0<=i->most+1<=n+out.length->out.length<=most →
  At Tryz.prog 10 (cut Z7V 0) (hdLE p.ts i g most sg p.so p.r1 p.r2 p.r3 (out.map El.cs)) (FinQ false 10 Z9p (Zdo p 2 108 El.cs (Z10 p.ts most sg item n out i)))
 | 0,out,i,hi,hn,ho=>by omega
 | n+1,out,i,hi,hn,ho=>by
  unfold Z10
  have hc:=hI i hi
  by_cases hlen:most<=out.length
  ·rw[if_pos hlen]
   refine At.tree Z0F (Z6w p.ts i 0 0 g most sg p.so false false [] [] (fltV i 5) p.r1 p.r2 p.r3 (out.map El.cs)) ?_
   simp only[SS,List.length_map]
   exact⟨fun _=>⟨QQ p i 5,rfl⟩,fun h=>by omega⟩
  ·rw[if_neg hlen]
   cases hx:item i with
   | bad a e =>
    rw[hx] at hc
    refine At.tree Z0F (Z6w p.ts i 0 0 g most sg p.so false false [] [] (fltV a e) p.r1 p.r2 p.r3 (out.map El.cs)) ?_
    simp only[SS,List.length_map]
    exact⟨fun h=>by omega,fun _=>⟨nofun,hc,rfl⟩⟩
   | ok t j =>
    rw[hx] at hc
    obtain⟨et,ec⟩:=t
    have ht:=Q6 p j [sg] [] (by simp)
    refine At.tree Z0F (Z6w p.ts i j ((if Z1 p.ts j [sg]=true then j+1 else j:Nat):Int) g most sg p.so true (Z1 p.ts j [sg]) (Tm.cellsL et) (ltL ec) Go.undef p.r1 p.r2 p.r3 (out.map El.cs)) ?_
    simp only[SS,List.length_map]
    refine⟨fun h=>by omega,fun _=>⟨⟨hc,⟨by simp[Zr],by omega⟩,ht, ?_⟩,nofun⟩⟩
    have hij:=hG i _ j hi hx
    have e:out.map El.cs++[[.slice (Tm.cellsL et) [],.slice (ltL ec) []]]=(out++[(⟨et,ec⟩:El)]).map El.cs:=by simp[El.cs]
    rw[e]
    cases hs:Z1 p.ts j [sg] with
    | true =>
     refine⟨nofun,fun _=> ?_⟩
     have:=qLE2 p g most sg item i0 hm hI hG n (out++[(⟨et,ec⟩:El)]) (j+1) (by omega) (by simp; omega) (by simp; omega)
     simp only[PR.bind,hs,if_true]
     exact this
    | false =>
     refine⟨fun _=> ?_,nofun⟩
     simp only[PR.bind,hs,Bool.false_eq_true,if_false]
     exact⟨rfl,rfl⟩
theorem Ziw (p:PS) (g most:Nat) (sg:LU) (item:Nat->PR El) (i:Nat) (hm:most<=1000)
  (hI: ∀ k,i<=k->CallL Tryz.prog (.func (.func g) [] [.ptr 0 0]) [] (p.oq k) (Z5l p (fun t:El=> .agg (El.cs t)) (item k)))
  (hG: ∀ k a j,i<=k->item k= .ok a j->k<=j):CF 192 [.ptr 0 0,.int .i64 most,.str sg,.func (.func g) [] [.ptr 1 0]] (p.ob i) (Zbl p (fun l:List El=> .slice (l.map El.cs) []) (Qi p.ts most sg item i)):=by
 refine Z1Z (n:=2) (e:=108) ?_
 refine CallL.tree Z7 ZiV (Z8 Z3 Z5) (Zk8 p.ts i g most sg p.so p.r1 p.r2 p.r3) ?_
 exact qLE2 p g most sg item i hm hI hG (most+1) [] i (Nat.le_refl _) (by simp) (by simp)
end Go.Proofs.YtecgehidegnmnaaGreatDoor
/- The parser: braces,elements,aggregates. -/
namespace Go.Proofs.YtecgehidegnmnaaGreatDoor
open Go.Sx
open Go.Sx.Lx (Tk Zq)
open Go.Sx.Ps (kT nmT W Sm)
abbrev zB:Bo:=⟨0,zL,[],false,0,[],0,z0⟩
abbrev boE (b:Bo):D:= .agg [.int .u8 b.k,.int .u8 b.l.k,.bool b.l.no,.str b.l.p,.slice (Tm.cellsL b.l.a) [],.int .u8 b.l.op,.int .u8 (kT b.l.l:Nat),.int .i64 (nT b.l.l),.str (nmT b.l.l),.slice (Tm.cellsL (Ps.arT b.l.l)) [],.int .u8 (kT b.l.r:Nat),.int .i64 (nT b.l.r),.str (nmT b.l.r),.slice (Tm.cellsL (Ps.arT b.l.r)) [],.slice (ltL b.c) [],.bool b.no,.int .u8 b.f,.slice (elL b.e) [],.int .u8 b.op,.int .u8 (kT b.b:Nat),.int .i64 (nT b.b),.str (nmT b.b),.slice (Tm.cellsL (Ps.arT b.b)) []]
theorem Ze2 (b:Bo):boE b= .agg (Bo.cs b):=by
 obtain⟨k,⟨lk,lno,lp,la,lop,⟨k1,n1,s1,a1⟩,⟨k2,n2,s2,a2⟩⟩,c,no,f,e,op,⟨k3,n3,s3,a3⟩⟩:=b; rfl
theorem Z9o {α:Type} {p:PS} {enc:α->D} {x:PR α} {d:D} {ys:List D} {ob:Obs} (h:CallL Tryz.prog d ys ob (RS p.oq enc x)):CallL Tryz.prog d ys ob (Z5l p enc x):=by
 cases x <;> exact h
theorem qBrE (p:PS) (g:Nat) (item:Nat->PR El) (i:Nat) (hI: ∀ k,CallL Tryz.prog (.func (.func g) [] [.ptr 0 0]) [] (p.oq k) (RS p.oq (fun t:El=> .agg (El.cs t)) (item k))) (hG: ∀ k a j,item k= .ok a j->k<=j) :
  CF 173 [.ptr 0 0,.func (.func g) [] [.ptr 1 0]] (p.ob i) (RS p.ob (fun l:List El=> .slice (elL l) []) (Zo p.ts item i)):=by
 refine Z0L (CallL.tree Z7 ZiX (ZF Z3 fun _=>(Z4 (Z2 _ _ _ _) (Z4 (Z2 _ _ _ _) (Z2 _ _ _ _)))) (Zhx p.ts i p.so g (Z0 p.ts [123] i).isOk  (Z0 p.ts [123] i).pos (flt (Z0 p.ts [123] i)) (Qi p.ts 64 [59] item (Z0 p.ts [123] i).pos).isOk (elL ((Qi p.ts 64 [59] item (Z0 p.ts [123] i).pos).val [])) (Qi p.ts 64 [59] item (Z0 p.ts [123] i).pos).pos (flt (Qi p.ts 64 [59] item (Z0 p.ts [123] i).pos)) (Z0 p.ts [125] (Qi p.ts 64 [59] item (Z0 p.ts [123] i).pos).pos).isOk  (Z0 p.ts [125] (Qi p.ts 64 [59] item (Z0 p.ts [123] i).pos).pos).pos (flt (Z0 p.ts [125] (Qi p.ts 64 [59] item (Z0 p.ts [123] i).pos).pos)) p.r1 p.r2 p.r3) ?_)
 unfold PBrE Zo
 simp only[SS]
 refine psX () (ZH (Qm p i [123])) (fun _ j h1=> ?_) fun a e h1=> ?_
 ·have hl:=Z9K (Ziw p g 64 [59] item j (by decide) (fun k _=>Z9o (hI k)) fun k a m _ hx=>hG k a m hx)
  simp only[h1,PR.bind,PR.pos,PR.val]
  refine psX [] hl (fun l k h2=> ?_) fun a e h2=> ?_
  ·simp only[h2,PR.bind,PR.pos,PR.val]
   refine psX () (ZH (Qm p k [125])) (fun _ m h3=> ?_) fun a e h3=> ?_
   ·simp only[h3,PR.pos]; exact⟨rfl,rfl⟩
   ·simp only[h3]; exact rfl
  ·simp only[h2,PR.bind]; exact rfl
 ·simp only[h1,PR.bind]; exact rfl
theorem qBrH (p:PS) (g:Nat) (item:Nat->PR He) (i:Nat) (hI: ∀ k,CallL Tryz.prog (.func (.func g) [] [.ptr 0 0]) [] (p.oq k) (RS p.oq (fun t:He=> .agg (He.cs t)) (item k))) (hG: ∀ k a j,item k= .ok a j->k<=j) :
  CF 145 [.ptr 0 0,.func (.func g) [] [.ptr 1 0]] (p.ob i) (RS p.ob (fun l:List He=> .slice (heL l) []) (Zo p.ts item i)):=by
 refine Z0L (CallL.tree Z7 Zjb (ZF Z3 fun _=>(Z4 (Z2 _ _ _ _) (Z4 (Z2 _ _ _ _) (Z2 _ _ _ _)))) (Zhw p.ts i p.so g (Z0 p.ts [123] i).isOk  (Z0 p.ts [123] i).pos (flt (Z0 p.ts [123] i)) (Qi p.ts 64 [59] item (Z0 p.ts [123] i).pos).isOk (heL ((Qi p.ts 64 [59] item (Z0 p.ts [123] i).pos).val [])) (Qi p.ts 64 [59] item (Z0 p.ts [123] i).pos).pos (flt (Qi p.ts 64 [59] item (Z0 p.ts [123] i).pos)) (Z0 p.ts [125] (Qi p.ts 64 [59] item (Z0 p.ts [123] i).pos).pos).isOk  (Z0 p.ts [125] (Qi p.ts 64 [59] item (Z0 p.ts [123] i).pos).pos).pos (flt (Z0 p.ts [125] (Qi p.ts 64 [59] item (Z0 p.ts [123] i).pos).pos)) p.r1 p.r2 p.r3) ?_)
 unfold PBrH Zo
 simp only[SS]
 refine psX () (ZH (Qm p i [123])) (fun _ j h1=> ?_) fun a e h1=> ?_
 ·have hl:=Z9K (Ziv p g 64 [59] item j (by decide) (fun k _=>Z9o (hI k)) fun k a m _ hx=>hG k a m hx)
  simp only[h1,PR.bind,PR.pos,PR.val]
  refine psX [] hl (fun l k h2=> ?_) fun a e h2=> ?_
  ·simp only[h2,PR.bind,PR.pos,PR.val]
   refine psX () (ZH (Qm p k [125])) (fun _ m h3=> ?_) fun a e h3=> ?_
   ·simp only[h3,PR.pos]; exact⟨rfl,rfl⟩
   ·simp only[h3]; exact rfl
  ·simp only[h2,PR.bind]; exact rfl
 ·simp only[h1,PR.bind]; exact rfl
theorem qAg1 (p:PS) (i:Nat):CallL Tryz.prog (.func (.func 174) [] [.ptr 0 0]) [] (p.oq i) (RS p.oq (fun t:El=> .agg (El.cs t)) (QO p.ts i)):=by
 refine Z0L (CallL.tree Z7 ZiW (ZF Z3 fun _=>(Z4 (Z2 _ _ _ _) (Z2 _ _ _ _))) (ZhB p.ts i p.so  (ZX p.ts i).isOk (Tm.cellsL ((ZX p.ts i).val [])) (ZX p.ts i).pos (flt (ZX p.ts i)) (Qe p.ts (ZX p.ts i).pos).isOk (ltL ((Qe p.ts (ZX p.ts i).pos).val [])) (Qe p.ts (ZX p.ts i).pos).pos (flt (Qe p.ts (ZX p.ts i).pos)) p.r1 p.r2 p.r3) ?_)
 unfold PAg1 QO
 simp only[SS]
 refine psX [] (qTup p i).1 (fun l j h1=> ?_) fun a e h1=> ?_
 ·simp only[h1,PR.bind,PR.pos,PR.val]
  refine psX [] (Z9D p j).1 (fun c k h2=> ?_) fun a e h2=> ?_
  ·simp only[h2,PR.pos,PR.val]; exact⟨rfl,rfl⟩
  ·simp only[h2]; exact rfl
 ·simp only[h1,PR.bind]; exact rfl
theorem qCh1 (p:PS) (i:Nat):CallL Tryz.prog (.func (.func 146) [] [.ptr 0 0]) [] (p.oq i) (RS p.oq (fun t:He=> .agg (He.cs t)) (Z0q p.ts i)):=by
 refine Z0L (CallL.tree Z7 Zja (ZF Z3 fun _=>(Z4 (Z2 _ _ _ _) (Z2 _ _ _ _))) (Zhv p.ts i p.so  (QK p.ts i).isOk ((QK p.ts i).val ([],[])).1 (Tm.cellsL ((QK p.ts i).val ([],[])).2) (QK p.ts i).pos (flt (QK p.ts i)) (Qe p.ts (QK p.ts i).pos).isOk (ltL ((Qe p.ts (QK p.ts i).pos).val [])) (Qe p.ts (QK p.ts i).pos).pos (flt (Qe p.ts (QK p.ts i).pos)) p.r1 p.r2 p.r3) ?_)
 unfold PCh1 Z0q
 simp only[SS]
 refine psX ([],[]) (Zg5 p i).1 (fun l j h1=> ?_) fun a e h1=> ?_
 ·simp only[h1,PR.bind,PR.pos,PR.val]
  refine psX [] (Z9D p j).1 (fun c k h2=> ?_) fun a e h2=> ?_
  ·simp only[h2,PR.pos,PR.val]; exact⟨rfl,rfl⟩
  ·simp only[h2]; exact rfl
 ·simp only[h1,PR.bind]; exact rfl
theorem qAgg (p:PS) (no:Bool) (i:Nat):CF 149 [.ptr 0 0,.bool no] (p.o i) (RS p.o boE (Zc p.ts no i)):=by
 refine Z0L (CallL.tree Z7 Zj7 (ZF Z3 fun _=>(Z4 (Zi _ _) (Z4 (Z2 _ _ _ _) (Z4 (Z2 _ _ _ _) (Z4 (Zi _ _) (Z4 (Z2 _ _ _ _) (Z4 (Z2 _ _ _ _) (Z2 _ _ _ _)))))))) (ZhA p.ts i p.so no (Z1 p.ts (i) [Z2b]) ((if Z1 p.ts (i) [Z2b]=true then i+1 else i:Nat):Int) (Z0 p.ts Z25 i).isOk  (Z0 p.ts Z25 i).pos (flt (Z0 p.ts Z25 i)) (Zo p.ts (QO p.ts) (if Z1 p.ts i [Z2b]=true then i+1 else (Z0 p.ts Z25 i).pos)).isOk (elL ((Zo p.ts (QO p.ts) (if Z1 p.ts i [Z2b]=true then i+1 else (Z0 p.ts Z25 i).pos)).val [])) (Zo p.ts (QO p.ts) (if Z1 p.ts i [Z2b]=true then i+1 else (Z0 p.ts Z25 i).pos)).pos (flt (Zo p.ts (QO p.ts) (if Z1 p.ts i [Z2b]=true then i+1 else (Z0 p.ts Z25 i).pos))) (Z1 p.ts ((Zo p.ts (QO p.ts) (if Z1 p.ts i [Z2b]=true then i+1 else (Z0 p.ts Z25 i).pos)).pos) [[33,61]]) (fltV ((Zo p.ts (QO p.ts) (if Z1 p.ts i [Z2b]=true then i+1 else (Z0 p.ts Z25 i).pos)).pos) 40) (Ze p.ts (Zo p.ts (QO p.ts) (if Z1 p.ts i [Z2b]=true then i+1 else (Z0 p.ts Z25 i).pos)).pos).isOk (((Ze p.ts (Zo p.ts (QO p.ts) (if Z1 p.ts i [Z2b]=true then i+1 else (Z0 p.ts Z25 i).pos)).pos).val 0):Nat) (Ze p.ts (Zo p.ts (QO p.ts) (if Z1 p.ts i [Z2b]=true then i+1 else (Z0 p.ts Z25 i).pos)).pos).pos (flt (Ze p.ts (Zo p.ts (QO p.ts) (if Z1 p.ts i [Z2b]=true then i+1 else (Z0 p.ts Z25 i).pos)).pos)) (Z9 p.ts (Ze p.ts (Zo p.ts (QO p.ts) (if Z1 p.ts i [Z2b]=true then i+1 else (Z0 p.ts Z25 i).pos)).pos).pos).isOk (kT ((Z9 p.ts (Ze p.ts (Zo p.ts (QO p.ts) (if Z1 p.ts i [Z2b]=true then i+1 else (Z0 p.ts Z25 i).pos)).pos).pos).val z0):Nat) (nT ((Z9 p.ts (Ze p.ts (Zo p.ts (QO p.ts) (if Z1 p.ts i [Z2b]=true then i+1 else (Z0 p.ts Z25 i).pos)).pos).pos).val z0)) (nmT ((Z9 p.ts (Ze p.ts (Zo p.ts (QO p.ts) (if Z1 p.ts i [Z2b]=true then i+1 else (Z0 p.ts Z25 i).pos)).pos).pos).val z0)) (Tm.cellsL (Ps.arT ((Z9 p.ts (Ze p.ts (Zo p.ts (QO p.ts) (if Z1 p.ts i [Z2b]=true then i+1 else (Z0 p.ts Z25 i).pos)).pos).pos).val z0))) (Z9 p.ts (Ze p.ts (Zo p.ts (QO p.ts) (if Z1 p.ts i [Z2b]=true then i+1 else (Z0 p.ts Z25 i).pos)).pos).pos).pos (flt (Z9 p.ts (Ze p.ts (Zo p.ts (QO p.ts) (if Z1 p.ts i [Z2b]=true then i+1 else (Z0 p.ts Z25 i).pos)).pos).pos)) p.r1 p.r2 p.r3) ?_)
 unfold PAgg Zc
 simp only[SS]
 have hb: ∀ j,CF 173 [.ptr 0 0,.func (.func 174) [] [.ptr 1 0]] (p.ob j) (RS p.ob (fun l:List El=> .slice (elL l) []) (Zo p.ts (QO p.ts) j)):=fun j=>qBrE p _ (QO p.ts) j (qAg1 p) fun k a m hx=>w_le (Ps.Zdx (Sm.self p.ts) k) hx
 refine⟨Q6 p i [Z2b] [] (by simp),fun hs=> ?_,fun hs=> ?_⟩
 ·simp only[hs,if_true,PR.bind]
  refine psX [] (hb (i+1)) (fun l k h2=> ?_) fun a e h2=> ?_
  ·simp only[h2,PR.bind,PR.pos,PR.val]
   refine⟨Z1J p k [[33,61]] [] (by simp),fun h3=>⟨QQ p k 40, ?_⟩,fun h3=> ?_⟩
   ·simp only[h3,if_true]; exact rfl
   ·simp only[h3,Bool.false_eq_true,if_false]
    refine psX 0 (ZH (Zg4 p k)) (fun op m h4=> ?_) fun a e h4=> ?_
    ·simp only[h4,PR.bind,PR.pos,PR.val]
     refine psX z0 (Z3o p m).1 (fun t o h5=> ?_) fun a e h5=> ?_
     ·simp only[h5,PR.pos,PR.val]; exact⟨rfl,rfl⟩
     ·simp only[h5]; exact rfl
    ·simp only[h4,PR.bind]; exact rfl
  ·simp only[h2,PR.bind]; exact rfl
 ·simp only[hs,Bool.false_eq_true,if_false]
  refine psX () (ZH (Qm p i Z25)) (fun _ j h1=> ?_) fun a e h1=> ?_
  ·simp only[h1,PR.bind,PR.pos,PR.val]
   refine psX [] (hb j) (fun l k h2=> ?_) fun a e h2=> ?_
   ·simp only[h2,PR.bind,PR.pos,PR.val]
    refine⟨Z1J p k [[33,61]] [] (by simp),fun h3=>⟨QQ p k 40, ?_⟩,fun h3=> ?_⟩
    ·simp only[h3,if_true]; exact rfl
    ·simp only[h3,Bool.false_eq_true,if_false]
     refine psX 0 (ZH (Zg4 p k)) (fun op m h4=> ?_) fun a e h4=> ?_
     ·simp only[h4,PR.bind,PR.pos,PR.val]
      refine psX z0 (Z3o p m).1 (fun t o h5=> ?_) fun a e h5=> ?_
      ·simp only[h5,PR.pos,PR.val]; exact⟨rfl,rfl⟩
      ·simp only[h5]; exact rfl
     ·simp only[h4,PR.bind]; exact rfl
   ·simp only[h2,PR.bind]; exact rfl
  ·simp only[h1,PR.bind]; exact rfl
theorem ZkV (p:PS) (i:Nat):Mth 112 (p.o i) (RS p.o boE (Zg p.ts i)):=by
 refine Mth.rs (Mth.tree Zjq (ZF Z3 fun _=>(Z4 (Zi _ _) (Z4 (Zi _ _) (Z4 (Z2 _ _ _ _) (Z4 (Z2 _ _ _ _) (Z2 _ _ _ _)))))) (Zde p.ts i p.so  (Z1 p.ts (i) [ZD]) ((if Z1 p.ts (i) [ZD]=true then i+1 else i:Nat):Int) (Z1 p.ts ((if Z1 p.ts i [ZD]=true then i+1 else i)) [Z25,Z2b]) (Zc p.ts (Z1 p.ts i [ZD]) (if Z1 p.ts i [ZD]=true then i+1 else i)).isOk (((Zc p.ts (Z1 p.ts i [ZD]) (if Z1 p.ts i [ZD]=true then i+1 else i)).val zB).k:Nat) (((Zc p.ts (Z1 p.ts i [ZD]) (if Z1 p.ts i [ZD]=true then i+1 else i)).val zB).l.k:Nat) ((Zc p.ts (Z1 p.ts i [ZD]) (if Z1 p.ts i [ZD]=true then i+1 else i)).val zB).l.no ((Zc p.ts (Z1 p.ts i [ZD]) (if Z1 p.ts i [ZD]=true then i+1 else i)).val zB).l.p (Tm.cellsL ((Zc p.ts (Z1 p.ts i [ZD]) (if Z1 p.ts i [ZD]=true then i+1 else i)).val zB).l.a) (((Zc p.ts (Z1 p.ts i [ZD]) (if Z1 p.ts i [ZD]=true then i+1 else i)).val zB).l.op:Nat) (kT ((Zc p.ts (Z1 p.ts i [ZD]) (if Z1 p.ts i [ZD]=true then i+1 else i)).val zB).l.l:Nat) (nT ((Zc p.ts (Z1 p.ts i [ZD]) (if Z1 p.ts i [ZD]=true then i+1 else i)).val zB).l.l) (nmT ((Zc p.ts (Z1 p.ts i [ZD]) (if Z1 p.ts i [ZD]=true then i+1 else i)).val zB).l.l) (Tm.cellsL (Ps.arT ((Zc p.ts (Z1 p.ts i [ZD]) (if Z1 p.ts i [ZD]=true then i+1 else i)).val zB).l.l)) (kT ((Zc p.ts (Z1 p.ts i [ZD]) (if Z1 p.ts i [ZD]=true then i+1 else i)).val zB).l.r:Nat) (nT ((Zc p.ts (Z1 p.ts i [ZD]) (if Z1 p.ts i [ZD]=true then i+1 else i)).val zB).l.r) (nmT ((Zc p.ts (Z1 p.ts i [ZD]) (if Z1 p.ts i [ZD]=true then i+1 else i)).val zB).l.r) (Tm.cellsL (Ps.arT ((Zc p.ts (Z1 p.ts i [ZD]) (if Z1 p.ts i [ZD]=true then i+1 else i)).val zB).l.r)) (ltL ((Zc p.ts (Z1 p.ts i [ZD]) (if Z1 p.ts i [ZD]=true then i+1 else i)).val zB).c) ((Zc p.ts (Z1 p.ts i [ZD]) (if Z1 p.ts i [ZD]=true then i+1 else i)).val zB).no (((Zc p.ts (Z1 p.ts i [ZD]) (if Z1 p.ts i [ZD]=true then i+1 else i)).val zB).f:Nat) (elL ((Zc p.ts (Z1 p.ts i [ZD]) (if Z1 p.ts i [ZD]=true then i+1 else i)).val zB).e) (((Zc p.ts (Z1 p.ts i [ZD]) (if Z1 p.ts i [ZD]=true then i+1 else i)).val zB).op:Nat) (kT ((Zc p.ts (Z1 p.ts i [ZD]) (if Z1 p.ts i [ZD]=true then i+1 else i)).val zB).b:Nat) (nT ((Zc p.ts (Z1 p.ts i [ZD]) (if Z1 p.ts i [ZD]=true then i+1 else i)).val zB).b) (nmT ((Zc p.ts (Z1 p.ts i [ZD]) (if Z1 p.ts i [ZD]=true then i+1 else i)).val zB).b) (Tm.cellsL (Ps.arT ((Zc p.ts (Z1 p.ts i [ZD]) (if Z1 p.ts i [ZD]=true then i+1 else i)).val zB).b)) (Zc p.ts (Z1 p.ts i [ZD]) (if Z1 p.ts i [ZD]=true then i+1 else i)).pos (flt (Zc p.ts (Z1 p.ts i [ZD]) (if Z1 p.ts i [ZD]=true then i+1 else i))) (Zn p.ts (Z1 p.ts i [ZD]) (if Z1 p.ts i [ZD]=true then i+1 else i)).isOk (((Zn p.ts (Z1 p.ts i [ZD]) (if Z1 p.ts i [ZD]=true then i+1 else i)).val zL).k:Nat) ((Zn p.ts (Z1 p.ts i [ZD]) (if Z1 p.ts i [ZD]=true then i+1 else i)).val zL).no ((Zn p.ts (Z1 p.ts i [ZD]) (if Z1 p.ts i [ZD]=true then i+1 else i)).val zL).p (Tm.cellsL ((Zn p.ts (Z1 p.ts i [ZD]) (if Z1 p.ts i [ZD]=true then i+1 else i)).val zL).a) (((Zn p.ts (Z1 p.ts i [ZD]) (if Z1 p.ts i [ZD]=true then i+1 else i)).val zL).op:Nat) (kT ((Zn p.ts (Z1 p.ts i [ZD]) (if Z1 p.ts i [ZD]=true then i+1 else i)).val zL).l:Nat) (nT ((Zn p.ts (Z1 p.ts i [ZD]) (if Z1 p.ts i [ZD]=true then i+1 else i)).val zL).l) (nmT ((Zn p.ts (Z1 p.ts i [ZD]) (if Z1 p.ts i [ZD]=true then i+1 else i)).val zL).l) (Tm.cellsL (Ps.arT ((Zn p.ts (Z1 p.ts i [ZD]) (if Z1 p.ts i [ZD]=true then i+1 else i)).val zL).l)) (kT ((Zn p.ts (Z1 p.ts i [ZD]) (if Z1 p.ts i [ZD]=true then i+1 else i)).val zL).r:Nat) (nT ((Zn p.ts (Z1 p.ts i [ZD]) (if Z1 p.ts i [ZD]=true then i+1 else i)).val zL).r) (nmT ((Zn p.ts (Z1 p.ts i [ZD]) (if Z1 p.ts i [ZD]=true then i+1 else i)).val zL).r) (Tm.cellsL (Ps.arT ((Zn p.ts (Z1 p.ts i [ZD]) (if Z1 p.ts i [ZD]=true then i+1 else i)).val zL).r)) (Zn p.ts (Z1 p.ts i [ZD]) (if Z1 p.ts i [ZD]=true then i+1 else i)).pos (flt (Zn p.ts (Z1 p.ts i [ZD]) (if Z1 p.ts i [ZD]=true then i+1 else i))) (Qe p.ts (Zn p.ts (Z1 p.ts i [ZD]) (if Z1 p.ts i [ZD]=true then i+1 else i)).pos).isOk (ltL ((Qe p.ts (Zn p.ts (Z1 p.ts i [ZD]) (if Z1 p.ts i [ZD]=true then i+1 else i)).pos).val [])) (Qe p.ts (Zn p.ts (Z1 p.ts i [ZD]) (if Z1 p.ts i [ZD]=true then i+1 else i)).pos).pos (flt (Qe p.ts (Zn p.ts (Z1 p.ts i [ZD]) (if Z1 p.ts i [ZD]=true then i+1 else i)).pos)) p.r1 p.r2 p.r3) ?_)
 unfold Zkb Zg
 rw[tk1,tk2]
 simp only[SS]
 refine⟨Q6 p i [ZD] [] (by simp), ?_⟩
 generalize Z1 p.ts i [ZD]=no
 generalize (if no=true then i+1 else i)=j
 refine⟨Z1J p j [Z25,Z2b] [] (by simp),fun h1=> ?_,fun h1=> ?_⟩
 ·rw[if_pos h1]
  refine psX zB (qAgg p no j) (fun b k h2=> ?_) fun a e h2=> ?_
  ·simp only[h2,PR.pos,PR.val]; exact⟨rfl,rfl⟩
  ·simp only[h2]; exact rfl
 ·rw[if_neg (by simp[h1])]
  refine psX zL (Zit p no j (Zg3 p _ _ _ (by decide))) (fun l k h2=> ?_) fun a e h2=> ?_
  ·simp only[h2,PR.bind,PR.pos,PR.val]
   refine psX [] (Z9D p k).1 (fun c m h3=> ?_) fun a e h3=> ?_
   ·simp only[h3,PR.pos,PR.val]
    refine⟨fun h4=> ?_,fun h4=> ?_⟩
    ·have hc:c≠[]:=fun h=>by subst h; simp[ltL] at h4
     rw[if_neg hc]; exact⟨rfl,rfl⟩
    ·have hc:c=[]:=by
      cases c with
      | nil=>rfl
      | cons a r=>exfalso; simp[ltL] at h4 <;> omega
     subst hc
     rw[if_pos rfl]; exact⟨rfl,rfl⟩
   ·simp only[h3]; exact rfl
  ·simp only[h2,PR.bind]; exact rfl
end Go.Proofs.YtecgehidegnmnaaGreatDoor
