/- plain answers the terms without intervals. -/
import Derived.Test.YtfoklncmfoogcaaGreatDoorArPl
set_option linter.unusedSectionVars false
set_option linter.unusedVariables false
set_option linter.unusedSimpArgs false
set_option linter.deprecated false
set_option maxRecDepth 100000
namespace Go.Proofs.YtfoklncmfoogcaaGreatDoor
open Go.Sx
theorem inL_at (b:Int) (hb:b<9223372036854775807): ∀ (m:Nat) (a:Int) (row:List Int),(b-a+1).toNat=m->row.length+m<=1073741823-> -9223372036854775808<=a →
  At Tryz.prog 0 (cut sc30 0) ⟨[(1,.int .i64 b),(5,.vec 0),(6,.int .i64 a)],[(0,.arr true 4 33 (numC row))]⟩ (FinQ true 0 rs30 fun r _=>r= .own 4 33 (numC (row++upto a m))):=by
 intro m
 induction m with
 | zero =>
  intro a row hm hr ha
  refine At.tree (dCtr_ok qnone_ok) (PInL2_eq (numC row) a b) ?_
  unfold PInL2
  simp only[SS,upto,List.append_nil]
  exact⟨fun h=>by omega,fun _=>trivial⟩
 | succ m ih =>
  intro a row hm hr ha
  have hI:=ih (a+1) (row++[a]) (by omega) (by simp; omega) (by omega)
  have e:numC (row++[a])=numC row++[[.int .u8 1,.int .i64 a,.str [],.slice [] []]]:=by simp[numC]
  rw[e,List.append_assoc] at hI
  have hN:FnOK Tryz.prog 18 [.int .i64 a] (.agg (tC 1 a [] [])):=by
   refine FnOK.tree hdraw fp18 (ctr_ok libT_ok qnone_ok) (PNumP_eq a) ?_
   unfold PNumP
   exact rfl
  refine At.tree (dCtr_ok qnone_ok) (PInL2_eq (numC row) a b) ?_
  unfold PInL2
  simp only[SS,upto,numC_len]
  exact⟨fun _=>⟨hN,⟨by simp[allLen],by omega⟩,by omega,hI⟩,fun h=>by omega⟩
theorem inL_ok (a b:Int) (ha:fitsB a=true) (hb:fitsB b=true) (h:b-a<=300):FnOK Tryz.prog 30 [.int .i64 a,.int .i64 b] (.slice (Tm.cellsL ((upto a (b-a+1).toNat).map numT)) []):=by
 have f1:=fitsB_iff.1 ha
 have f2:=fitsB_iff.1 hb
 have hA:=inL_at b (by omega) _ a [] rfl (by simp; omega) (by omega)
 rw[<- numC_map]
 refine FnOK.freezeG (sz:=4) (e:=33) ?_
 refine FnOK.tree hdraw fp30 (dCtr_ok qnone_ok) (PInL_eq a b) ?_
 unfold PInL
 rw[ok_jmp]
 exact hA
abbrev plD (x:List Tm × Bool):D:= .tuple [.slice (Tm.cellsL x.1) [],.bool x.2]
def PlOK (x:Tm):Prop:=FnOK Tryz.prog 22 [.agg x.cells] (plD x.pl)
abbrev QPl (x:List Tm × Bool):Exit->St->Prop:=FinQ true 0 rs22 fun r _=>r=plD x
def resE (k:Nat) (n:Int) (s:List UInt8) (rows:List (List Tm)) (out:List Tm):List Tm × Bool:=if k=6 then endX (spanGo rows out) else endX (some (out++rows.map fun r=> .mk k n s r))
theorem resE_nil (k:Nat) (n:Int) (s:List UInt8) (out:List Tm):resE k n s [] out=(out,decide (out.length<=300)):=by
 unfold resE
 split
 ·rfl
 ·simp[endX]
theorem allLen4 (l:List Tm):allLen 4 (Tm.cellsL l):=allLen_cells l
theorem evT (y:Tm) (w:y.wf 281474976710656) (f:y.few 1000) (d:y.depth<=1000000000): ∃ (ku:Int) (nu:Int) (su:List UInt8) (au:List (List D)) (b:Bool),FnOK Tryz.prog 25 [.agg y.cells] (tupP ku nu su au b) ∧
  ((b=false/\y.eval=none)\/ ∃ v,b=true/\y.eval=some v/\v.int? = if ku=1 then some nu else none):=by
 have E:=eval_ok y w f d
 cases hv:y.eval with
 | none=>rw[hv] at E; exact⟨0,0,[],[],false,E,.inl ⟨rfl,rfl⟩⟩
 | some v =>
  rw[hv] at E
  obtain⟨k,n,s,l⟩:=v
  refine⟨k,n,s,Tm.cellsL l,true,E,.inr ⟨_,rfl,rfl, ?_⟩⟩
  have e1:((k:Int)=1)=(k=1):=propext (by omega)
  simp only[Tm.int?,e1]
theorem spanI_of {o o':Option Tm} {ku nu kv nv:Int} {b b':Bool} (h:(b=false/\o=none)\/ ∃ v,b=true/\o=some v/\v.int? = if ku=1 then some nu else none) (h':(b'=false/\o'=none)\/ ∃ v,b'=true/\o'=some v/\v.int? = if kv=1 then some nv else none) :
  spanI o o'=if b=true/\b'=true/\ku=1/\kv=1 then some (nu,nv) else none:=by
 rcases h with ⟨rfl,rfl⟩ | ⟨v,rfl,rfl,hv⟩
 ·simp[spanI]
 ·rcases h' with ⟨rfl,rfl⟩ | ⟨v',rfl,rfl,hv'⟩
  ·simp[spanI]
  ·unfold spanI
   simp only
   rw[hv,hv']
   by_cases h1:ku=1
   ·by_cases h2:kv=1 <;> simp[h1,h2]
   ·simp[h1]
theorem plE_at (k:Nat) (n:Int) (s:List UInt8) (a:List (List D)) (rows:List (List Tm)) (hl:rows.length<=300) (hr: ∀ r∈rows,(k=6->r.length=2)/\ ∀ y∈r,y.wf 281474976710656/\y.few 1000/\y.depth<=1000000000): ∀ (m i:Nat) (out:List Tm),rows.length-i=m->i<=rows.length->out.length<=i+601->(k=6->out.length<=601) →
  At Tryz.prog 0 (cut sc22 3) ⟨[(1,.ptr 0 0),(4,.vec 1),(11,.vec 2),(12,.int .i64 i)],obO2 k n s a (partD rows) (Tm.cellsL out)⟩ (QPl (resE k n s (rows.drop i) out)):=by
 have e6:((k:Int)=6)=(k=6):=propext (by omega)
 intro m
 induction m with
 | zero =>
  intro i out hm hi ho ho6
  rw[List.drop_eq_nil_of_le (by omega),resE_nil]
  refine At.tree (dCtr_ok qnone_ok) (PlE_eq k n s a (partD rows) (Tm.cellsL out) i [] 0 0 [] [] 0 0 [] [] 0 0 [] [] true 0 0 [] [] true []) ?_
  unfold PlE
  simp only[SS,partD_len,cellsL_length]
  have e:decide ((out.length:Int)<=300)=decide (out.length<=300):=decide_eq_decide.2 (by omega)
  rw[e]
  exact⟨fun h=>by omega,fun _=>rfl⟩
 | succ m ih =>
  intro i out hm hi ho ho6
  have h1:i<rows.length:=by omega
  have hrow:=hr _ (List.getElem_mem h1)
  have hg:=partD_get h1
  rw[drop_cons h1]
  generalize rows[i]=r at hrow hg
  by_cases h6:k=6
  ·subst h6
   have hle:=hrow.1 rfl
   have ho6:=ho6 rfl
   match r,hle with
   | [y0,y1],_ =>
    obtain⟨w0,f0,d0⟩:=hrow.2 y0 (by simp)
    obtain⟨w1,f1,d1⟩:=hrow.2 y1 (by simp)
    obtain⟨ku,nu,su,au,b,E0,c0⟩:=evT y0 w0 f0 d0
    obtain⟨kv,nv,sv,av,b',E1,c1⟩:=evT y1 w1 f1 d1
    have hS:=spanI_of c0 c1
    have hres:resE 6 n s ([y0,y1]::rows.drop (i+1)) out=match spanI y0.eval y1.eval with
     | some (a,b)=>if 300<b-a\/300<out.length then ([],false) else resE 6 n s (rows.drop (i+1)) (out++(upto a (b-a+1).toNat).map numT)
     | none=>resE 6 n s (rows.drop (i+1)) out:=by
     unfold resE
     simp only[if_true]
     rw[spanGo]
     simp only[List.getD_cons_zero,List.getD_cons_succ]
     cases spanI y0.eval y1.eval with
     | none=>rfl
     | some q =>
      obtain⟨a,b⟩:=q
      simp only
      split <;> rfl
    rw[hres,hS]
    have hskip:=ih (i+1) out (by omega) (by omega) (by omega) (fun _=>ho6)
    have q0:(Tm.cellsL [y0,y1])[0]? = some y0.cells:=rfl
    have q1:(Tm.cellsL [y0,y1])[1]? = some y1.cells:=rfl
    have hfits:b=true/\b'=true/\ku=1/\kv=1->fitsB nu=true/\fitsB nv=true:=fun ⟨h1,h2,h3,h4⟩=>by
     subst h1; subst h2; subst h3; subst h4
     rcases c0 with ⟨h,_⟩ | ⟨v,_,hv,hi⟩
     ·cases h
     ·rcases c1 with ⟨h,_⟩ | ⟨v',_,hv',hi'⟩
      ·cases h
      ·exact⟨eval_fits hv hi,eval_fits hv' hi'⟩
    obtain⟨kx,nx,sx,ax⟩:=y0
    obtain⟨ky,ny,sy,ay⟩:=y1
    refine At.tree (dCtr_ok qnone_ok) (PlE_eq 6 n s a (partD rows) (Tm.cellsL out) i (Tm.cellsL [.mk kx nx sx ax,.mk ky ny sy ay]) kx nx sx (Tm.cellsL ax) ky ny sy (Tm.cellsL ay) ku nu su au b kv nv sv av b' (Tm.cellsL ((upto nu (nv-nu+1).toNat).map numT))) ?_
    unfold PlE
    simp only[SS,partD_len,cellsL_length]
    refine⟨fun _=>⟨⟨by omega,hg⟩,fun h=>absurd trivial h,q0,E0,⟨by decide,q1⟩,E1,fun hb=> ?_,fun hb=>⟨fun hb'=> ?_,fun hb'=>⟨fun hk=> ?_,fun hk=>⟨fun hk'=> ?_,fun hk'=> ?_⟩⟩⟩⟩,fun h=>by omega⟩
    ·rw[if_neg fun h=>by rw[hb] at h; exact absurd h.1 (by decide)]
     exact⟨by omega,hskip⟩
    ·rw[if_neg fun h=>by rw[hb'] at h; exact absurd h.2.1 (by decide)]
     exact⟨by omega,hskip⟩
    ·rw[if_neg fun h=>hk h.2.2.1]
     exact⟨by omega,hskip⟩
    ·rw[if_neg fun h=>hk' h.2.2.2]
     exact⟨by omega,hskip⟩
    ·obtain⟨f1,f2⟩:=hfits ⟨hb,hb',hk,hk'⟩
     have g1:=fitsB_iff.1 f1
     have g2:=fitsB_iff.1 f2
     rw[if_pos ⟨hb,hb',hk,hk'⟩]
     simp only
     refine⟨by omega,fun h=> ?_,fun h=>⟨fun h'=> ?_,fun h'=> ?_⟩⟩
     ·rw[if_pos (.inl h)]; rfl
     ·rw[if_pos (.inr (by omega))]; rfl
     ·rw[if_neg (by omega)]
      have hlen:((upto nu (nv-nu+1).toNat).map numT).length<=301:=by rw[List.length_map,upto_len]; omega
      have hI:=ih (i+1) (out++(upto nu (nv-nu+1).toNat).map numT) (by omega) (by omega) (by rw[List.length_append]; omega) (fun _=>by rw[List.length_append]; omega)
      rw[cellsL_app] at hI
      exact⟨inL_ok nu nv f1 f2 (by omega),⟨allLen4 _,by omega⟩,by omega,hI⟩
  ·have hI:=ih (i+1) (out++[.mk k n s r]) (by omega) (by omega) (by simp; omega) (fun h=>absurd h h6)
   have e:resE k n s (r::rows.drop (i+1)) out=resE k n s (rows.drop (i+1)) (out++[.mk k n s r]):=by
    unfold resE
    rw[if_neg h6,if_neg h6]
    simp
   have ec:Tm.cellsL (out++[.mk k n s r])=Tm.cellsL out++[[.int .u8 k,.int .i64 n,.str s,.slice (Tm.cellsL r) []]]:=by rw[cellsL_app]; rfl
   rw[e]
   rw[ec] at hI
   refine At.tree (dCtr_ok qnone_ok) (PlE_eq k n s a (partD rows) (Tm.cellsL out) i (Tm.cellsL r) 0 0 [] [] 0 0 [] [] 0 0 [] [] true 0 0 [] [] true []) ?_
   unfold PlE
   simp only[SS,partD_len,cellsL_length,e6]
   exact⟨fun _=>⟨⟨by omega,hg⟩,fun _=>⟨⟨by simp[allLen],by omega⟩,by omega,hI⟩,fun h=>absurd h h6⟩,fun h=>by omega⟩
theorem plD_at (k n:Int) (s:List UInt8) (a:List (List D)) (rows:List (List Tm)) (p:List Tm) (i:Int) (r:Nat) (hr:r<rows.length) (hl:rows[r].length<=1000) (hp:p.length<=300) (more:List (List Tm)) (hm:more.length<=1000) (hrl:rows.length<=300) {Q:Exit->St->Prop} (hQ: ∃ x,Q=QPl x)
  (H:At Tryz.prog 0 (cut sc22 1) ⟨[(1,.ptr 0 0),(4,.vec 1),(5,.int .i64 i),(6,.slice (Tm.cellsL p) []),(8,.vec 2),(9,.int .i64 (r+1:Nat))],obC k n s a (partD rows) (partD (more++p.map fun x=>rows[r]++[x]))⟩ Q): ∀ (m c:Nat),p.length-c=m->c<=p.length →
  At Tryz.prog 0 (cut sc22 2) ⟨[(1,.ptr 0 0),(4,.vec 1),(5,.int .i64 i),(6,.slice (Tm.cellsL p) []),(8,.vec 2),(9,.int .i64 r),(10,.int .i64 c)],obC k n s a (partD rows) (partD (more++(p.take c).map fun x=>rows[r]++[x]))⟩ Q:=by
 obtain⟨res,rfl⟩:=hQ
 intro m
 induction m with
 | zero =>
  intro c hc hi
  rw[List.take_of_length_le (show p.length<=c by omega)]
  refine At.tree (dCtr_ok qnone_ok) (PlD_eq k n s a (partD rows) (partD (more++p.map fun x=>rows[r]++[x])) (Tm.cellsL p) i r c [] 0 0 [] []) ?_
  unfold PlD
  simp only[SS,cellsL_length]
  exact⟨fun h=>by omega,fun _=>⟨by omega,H⟩⟩
 | succ m ih =>
  intro c hc hi
  have h1:c<p.length:=by omega
  have hg:=partD_get hr
  have hx:=cellsL_get h1
  have hI:=ih (c+1) (by omega) (by omega)
  have ht:(p.take (c+1)).map (fun x=>rows[r]++[x])=(p.take c).map (fun x=>rows[r]++[x])++[rows[r]++[p[c]]]:=by
   rw[List.take_add_one,List.getElem?_eq_getElem h1]
   simp only[Option.toList_some,List.map_append,List.map_cons,List.map_nil]
  have hpd: ∀ (A:List (List Tm)) (b:List Tm),partD (A++[b])=partD A++[[.slice (Tm.cellsL b) []]]:=fun A b=>by simp[partD]
  rw[ht,<- List.append_assoc,hpd,cellsL_app] at hI
  have hml:(partD (more++(p.take c).map fun x=>rows[r]++[x])).length<=1300:=by
   rw[partD_len,List.length_append,List.length_map,List.length_take]; omega
  generalize rows[r]=rr at hg hI hl hml
  generalize p[c]=x at hx hI
  obtain⟨kx,nx,sx,ax⟩:=x
  refine At.tree (dCtr_ok qnone_ok) (PlD_eq k n s a (partD rows) (partD (more++(p.take c).map fun x=>rr++[x])) (Tm.cellsL p) i r c (Tm.cellsL rr) kx nx sx (Tm.cellsL ax)) ?_
  unfold PlD
  simp only[SS,cellsL_length,List.nil_append]
  exact⟨fun _=>⟨⟨by omega,hg⟩,⟨allLen4 _,by omega⟩,⟨by omega,hx⟩,⟨by simp[allLen],by omega⟩,⟨by simp[allLen],by omega⟩,by omega,hI⟩,fun h=>by omega⟩
theorem plC_at (k n:Int) (s:List UInt8) (a:List (List D)) (rows:List (List Tm)) (p:List Tm) (i:Int) (hi:0<=i/\i<=1000000) (hl: ∀ r∈rows,r.length<=1000) (hp:p.length<=300) (hrl:rows.length<=300) (hrp:rows.length*p.length<=300) {Q:Exit->St->Prop} (hQ: ∃ x,Q=QPl x)
  (H:At Tryz.prog 0 (cut sc22 0) ⟨[(1,.ptr 0 0),(4,.vec 1),(5,.int .i64 (i+1))],obB k n s a (partD (rowsX rows p))⟩ Q): ∀ (m r:Nat),rows.length-r=m->r<=rows.length →
  At Tryz.prog 0 (cut sc22 1) ⟨[(1,.ptr 0 0),(4,.vec 1),(5,.int .i64 i),(6,.slice (Tm.cellsL p) []),(8,.vec 2),(9,.int .i64 r)],obC k n s a (partD rows) (partD (rowsX (rows.take r) p))⟩ Q:=by
 intro m
 induction m with
 | zero =>
  intro r hm hr
  obtain⟨res,rfl⟩:=hQ
  rw[List.take_of_length_le (show rows.length<=r by omega)]
  refine At.tree (dCtr_ok qnone_ok) (PlC_eq k n s a (partD rows) (partD (rowsX rows p)) (Tm.cellsL p) i r) ?_
  unfold PlC
  simp only[SS,partD_len]
  exact⟨fun h=>by omega,fun _=>⟨by omega,H⟩⟩
 | succ m ih =>
  intro r hm hr
  have h1:r<rows.length:=by omega
  have hI:=ih (r+1) (by omega) (by omega)
  rw[rowsX_take h1] at hI
  have hml:(rowsX (rows.take r) p).length<=300:=by
   rw[rowsX_len,List.length_take]
   exact Nat.le_trans (Nat.mul_le_mul_right _ (Nat.min_le_right ..)) hrp
  have hD:=plD_at k n s a rows p i r h1 (hl _ (List.getElem_mem h1)) hp (rowsX (rows.take r) p) (by omega) hrl hQ hI _ 0 rfl (Nat.zero_le _)
  rw[List.take_zero,List.map_nil,List.append_nil] at hD
  obtain⟨res,rfl⟩:=hQ
  refine At.tree (dCtr_ok qnone_ok) (PlC_eq k n s a (partD rows) (partD (rowsX (rows.take r) p)) (Tm.cellsL p) i r) ?_
  unfold PlC
  simp only[SS,partD_len]
  exact⟨fun _=>hD,fun h=>by omega⟩
def GoodT (y:Tm):Prop:=y.wf 281474976710656/\y.few 1000/\y.depth<=1000000000
theorem plB_at (k:Nat) (n:Int) (s:List UInt8) (l:List Tm) (hl:l.length<=1000) (h6:k=6->l.length=2) (HP: ∀ x∈l,PlOK x) (HG: ∀ x∈l,x.pl.2=true-> ∀ y∈x.pl.1,GoodT y): ∀ (m i:Nat) (rows:List (List Tm)),l.length-i=m->i<=l.length->rows.length<=300->(∀ r∈rows,r.length=i/\ ∀ y∈r,GoodT y) →
  At Tryz.prog 0 (cut sc22 0) ⟨[(1,.ptr 0 0),(4,.vec 1),(5,.int .i64 i)],obB k n s (Tm.cellsL l) (partD rows)⟩ (QPl (match Tm.plR (l.drop i) rows with
   | none=>([],false)
   | some rs=>outX k n s rs)):=by
 intro m
 induction m with
 | zero =>
  intro i rows hm hi hrl hr
  rw[List.drop_eq_nil_of_le (by omega)]
  have hE:=plE_at k n s (Tm.cellsL l) rows hrl (fun r hx=>⟨fun h=>by have:=(hr r hx).1; have:=h6 h; omega,(hr r hx).2⟩) _ 0 [] rfl (Nat.zero_le _) (Nat.zero_le _) (fun _=>Nat.zero_le _)
  have e:resE k n s rows []=outX k n s rows:=by
   unfold resE outX
   simp
  rw[List.drop_zero,e] at hE
  rw[Tm.plR]
  simp only
  refine At.tree (dCtr_ok qnone_ok) (PlB_eq k n s (Tm.cellsL l) (partD rows) i 0 0 [] [] [] true) ?_
  unfold PlB
  simp only[SS,cellsL_length]
  exact⟨fun h=>by omega,fun _=>hE⟩
 | succ m ih =>
  intro i rows hm hi hrl hr
  have h1:i<l.length:=by omega
  have hx:=cellsL_get h1
  have hmem:l[i]∈l:=List.getElem_mem h1
  have hP:=HP _ hmem
  have hG:=HG _ hmem
  rw[drop_cons h1,Tm.plR]
  have hlen:l[i].pl.2=true->l[i].pl.1.length<=300:=fun h=>pl_len (pair_eq h)
  have hgo:l[i].pl.2=true->rows.length*l[i].pl.1.length<=300->At Tryz.prog 0 (cut sc22 1) ⟨[(1,.ptr 0 0),(4,.vec 1),(5,.int .i64 i),(6,.slice (Tm.cellsL l[i].pl.1) []),(8,.vec 2),(9,.int .i64 (0:Nat))],obC k n s (Tm.cellsL l) (partD rows) (partD (rowsX (rows.take 0) l[i].pl.1))⟩ (QPl (match Tm.plR (l.drop (i+1)) (rowsX rows l[i].pl.1) with
   | none=>([],false)
   | some rs=>outX k n s rs)):=fun hb hle=>by
   have hI:=ih (i+1) (rowsX rows l[i].pl.1) (by omega) (by omega) (by rw[rowsX_len]; exact hle) fun q hq=>by
    obtain⟨r0,h0,x,hx,rfl⟩:=rowsX_mem.1 hq
    obtain⟨h3,h4⟩:=hr r0 h0
    refine⟨by simp[h3],fun y hy=> ?_⟩
    rcases List.mem_append.1 hy with hy | hy
    ·exact h4 y hy
    ·rw[List.mem_singleton.1 hy]; exact hG hb x hx
   exact plC_at k n s (Tm.cellsL l) rows l[i].pl.1 i ⟨by omega,by omega⟩ (fun r hx=>by have:=(hr r hx).1; omega) (hlen hb) hrl hle ⟨_,rfl⟩ hI _ 0 rfl (Nat.zero_le _)
  unfold PlOK at hP
  generalize l[i].pl=q at hP hgo hlen ⊢
  generalize l[i]=x at hx hP
  obtain⟨p,b⟩:=q
  obtain⟨kx,nx,sx,ax⟩:=x
  simp only at hgo hlen ⊢
  refine At.tree (dCtr_ok qnone_ok) (PlB_eq k n s (Tm.cellsL l) (partD rows) i kx nx sx (Tm.cellsL ax) (Tm.cellsL p) b) ?_
  unfold PlB
  simp only[SS,cellsL_length,partD_len]
  have ei:((rows.length:Int)*(p.length:Int))=((rows.length*p.length:Nat):Int):=(Int.natCast_mul _ _).symm
  rw[ei]
  refine⟨fun _=>⟨⟨by omega,hx⟩,hP,fun hb=> ?_,fun hb=>⟨?_,fun h=> ?_,fun h=> ?_⟩⟩,fun h=>by omega⟩
  ·rw[if_pos (.inl hb)]; rfl
  ·have:=hlen hb
   have:=Nat.mul_le_mul hrl this
   omega
  ·rw[if_pos (.inr (by omega))]; rfl
  ·rw[if_neg (fun h'=>h'.elim (fun e=>by rw[hb] at e; exact absurd e (by decide)) (fun e=>by omega))]
   exact hgo hb (by omega)
theorem plain_ok: ∀ x:Tm,x.wf 281474976710656->x.all Tm.shape=true->x.all Tm.gr=true->x.depth<=1000000000->PlOK x
 | .mk k n s l,hw0,hs0,hg0,hd0=>by
  have hs:=all_split.1 hs0
  have hg:=all_split.1 hg0
  have hw:=hw0
  simp only[Tm.wf] at hw
  obtain⟨_,_,_,_,_,hwl⟩:=hw
  have hf:=shape_few _ hs0
  simp only[Tm.few] at hf
  have hdx: ∀ x∈l,x.depth<=1000000000:=fun x hx=>by
   simp only[Tm.depth] at hd0
   have:=depthL_mem0 hx
   omega
  have HP: ∀ x∈l,PlOK x:=fun x hm=>plain_ok x (wfL_all.1 hwl x hm) (hs.2 x hm) (hg.2 x hm) (hdx x hm)
  have HG: ∀ x∈l,x.pl.2=true-> ∀ y∈x.pl.1,GoodT y:=fun x hm hb y hy=>by
   have h1:=pl_shape x x.pl.1 (hs.2 x hm) (hg.2 x hm) (pair_eq hb) y hy
   exact⟨pl_wf x x.pl.1 (wfL_all.1 hwl x hm) (hs.2 x hm) (hg.2 x hm) (pair_eq hb) y hy,shape_few y h1.shape,Nat.le_trans h1.depth (hdx x hm)⟩
  have hB:=plB_at k n s l hf.1 (fun h=>by subst h; exact shape_six hs.1) HP HG _ 0 [[]] rfl (Nat.zero_le _) (by decide) (fun r hr=>by rw[List.mem_singleton.1 hr]; exact⟨rfl,fun y hy=>by cases hy⟩)
  unfold PlOK
  rw[Tm.pl]
  rw[List.drop_zero] at hB
  refine FnOK.tree hdraw fp22 (dCtr_ok qnone_ok) (PlA_eq k n s (Tm.cellsL l)) ?_
  unfold PlA
  rw[ok_jmp]
  exact hB
termination_by x=>SizeOf.sizeOf x
decreasing_by
 have:=List.sizeOf_lt_of_mem hm
 simp only[Tm.mk.sizeOf_spec]
 omega
end Go.Proofs.YtfoklncmfoogcaaGreatDoor
