/- The law of expansions holds. -/
import Derived.Test.YtfoklncmfoogcaaGreatDoorArEp
set_option linter.unusedSectionVars false
set_option linter.unusedVariables false
set_option linter.unusedSimpArgs false
set_option linter.deprecated false
set_option maxRecDepth 100000
namespace Go.Proofs.YtfoklncmfoogcaaGreatDoor
open Go.Sx
abbrev QEp:Exit->St->Prop:=FinQ true 0 rsP6 fun r _=>r= .bool true
def AtE (i:Nat) (s:St):Prop:=At Tryz.prog 0 (frg scP6 i) s QEp
theorem intC_setI (l:List Int) (i:Nat) (x:Int):(intC .i64 l).set i [.int .i64 x]=intC .i64 (l.set i x):=intC_set l i x
section
variable (L all:List Tm) (hL:L.length<=1000) (hall:all.length<=300) (wL: ∀ y∈L,y.wf 281474976710656) (GA: ∀ y∈all,GoodT y) (hnd:L.Nodup)
 (hin: ∀ y∈all, ∀ v,y.eval=some v->v∈L/\v.wf 281474976710656) (hout: ∀ v∈L, ∃ y∈all,y.eval=some v)
include hL
theorem epO_at (met:List Int) (hm:met.length=L.length) (hp: ∀ x∈met,1<=x): ∀ (m i:Nat),L.length-i=m->i<=L.length →
  At Tryz.prog 0 (cut scP6 3) ⟨[(3,.slice (Tm.cellsL L) []),(8,.vec 0),(14,.int .i64 i)],[(0,.arr false 1 3 (intC .i64 met))]⟩ QEp:=by
 intro m
 induction m with
 | zero =>
  intro i hi hi2
  refine At.tree (dCtr_ok qnone_ok) (EpO_eq (Tm.cellsL L) (intC .i64 met) i 0) ?_
  unfold EpO
  simp only[SS,cellsL_length]
  refine⟨fun h=>by omega,fun _=> ?_⟩
  refine At.tree (dCtr_ok qnone_ok) (Ep9_eq 0) ?_
  unfold Ep9
  exact rfl
 | succ m ih =>
  intro i hi hi2
  have h1:i<met.length:=by omega
  have hx:=hp _ (List.getElem_mem h1)
  have hg:=intC_get (k:= .i64) h1
  have hI:=ih (i+1) (by omega) (by omega)
  generalize met[i]=x at hx hg
  refine At.tree (dCtr_ok qnone_ok) (EpO_eq (Tm.cellsL L) (intC .i64 met) i x) ?_
  unfold EpO
  simp only[SS,cellsL_length,intC_len]
  exact⟨fun _=>⟨⟨by omega,by omega⟩,hg,fun h=>by omega,fun _=>⟨by omega,hI⟩⟩,fun h=>by omega⟩
theorem epN_at (met:List Int) (hm:met.length=L.length) (i:Nat) (hi:i<300) (hb: ∀ x∈met,0<=x/\x<=i) (wL: ∀ y∈L,y.wf 281474976710656) (v:Tm) (wv:v.wf 281474976710656) (hv:v∈L)
  (H: ∀ (k:Nat) (h:k<L.length) (h':k<met.length),L[k]=v->At Tryz.prog 0 (cut scP6 1) ⟨[(3,.slice (Tm.cellsL L) []),(5,.slice (Tm.cellsL all) []),(8,.vec 0),(9,.int .i64 (i+1:Nat))],[(0,.arr false 1 3 (intC .i64 (met.set k (met[k]+1))))]⟩ QEp) :
  ∀ (m j:Nat) (at_:Int),L.length-j=m->j<=L.length->((at_= -1/\ ∀ (k:Nat) (h:k<L.length),k<j->L[k]≠v)\/ ∃ (k:Nat) (h:k<L.length),at_=k/\L[k]=v) →
  At Tryz.prog 0 (cut scP6 2) ⟨[(3,.slice (Tm.cellsL L) []),(5,.slice (Tm.cellsL all) []),(8,.vec 0),(9,.int .i64 i),(10,.ptr 1 0),(12,.int .i64 at_),(13,.int .i64 j)],[(0,.arr false 1 3 (intC .i64 met)),(1,.cells v.cells)]⟩ QEp:=by
 intro m
 induction m with
 | zero =>
  intro j at_ hm' hj ha
  rcases ha with ⟨_,hno⟩ | ⟨k,hk,rfl,hkv⟩
  ·obtain⟨k,hk,hkv⟩:=List.getElem_of_mem hv
   exact absurd hkv (hno k hk (by omega))
  ·have h1:k<met.length:=by omega
   have hx:=hb _ (List.getElem_mem h1)
   have hg:=intC_get (k:= .i64) h1
   have hH:=H k hk h1 hkv
   rw[<- intC_setI] at hH
   generalize met[k]=x at hx hg hH
   obtain⟨kv,nv,sv,av⟩:=v
   refine At.tree (dCtr_ok qnone_ok) (EpN_eq (Tm.cellsL L) (Tm.cellsL all) (intC .i64 met) i k j kv nv sv (Tm.cellsL av) 0 0 [] [] true x) ?_
   unfold EpN
   simp only[SS,cellsL_length,intC_len]
   exact⟨fun h=>by omega,fun _=>⟨fun h=>by omega,fun _=>⟨⟨by omega,by omega⟩,hg,by omega,⟨by omega,by omega⟩,by omega,by omega,hH⟩⟩⟩
 | succ m ih =>
  intro j at_ hm' hj ha
  have h1:j<L.length:=by clear ha; omega
  have h2:L.length-(j+1)=m:=by clear ha; omega
  have h3:j+1<=L.length:=by clear ha; omega
  have hx:=cellsL_get h1
  have hE:=equal_ok L[j] v (wL _ (List.getElem_mem h1)) wv
  have hI1:=fun (he:L[j].eqb v=true)=>ih (j+1) j h2 h3 (.inr ⟨j,h1,rfl,eqb_eq.1 he⟩)
  have hI2:=fun (he:L[j].eqb v=false)=>ih (j+1) at_ h2 h3 (by
   rcases ha with ⟨h2,h3⟩ | h2
   ·refine .inl ⟨h2,fun k hk hkj=> ?_⟩
    by_cases hkj2:k=j
    ·subst hkj2
     exact fun e=>absurd he (by rw[eqb_eq.2 e]; decide)
    ·exact h3 k hk (by omega)
   ·exact .inr h2)
  generalize L[j].eqb v=q at hE hI1 hI2
  generalize L[j]=x at hx hE
  obtain⟨kx,nx,sx,ax⟩:=x
  obtain⟨kv,nv,sv,av⟩:=v
  refine At.tree (dCtr_ok qnone_ok) (EpN_eq (Tm.cellsL L) (Tm.cellsL all) (intC .i64 met) i at_ j kv nv sv (Tm.cellsL av) kx nx sx (Tm.cellsL ax) q 0) ?_
  unfold EpN
  simp only[SS,cellsL_length]
  clear ha
  exact⟨fun _=>⟨⟨by omega,hx⟩,hE,fun hq=>⟨by omega,hI1 hq⟩,fun hq=>⟨by omega,hI2 hq⟩⟩,fun h=>by omega⟩
include hall wL GA hnd hin hout
theorem epM_at: ∀ (m i:Nat) (met:List Int),all.length-i=m->i<=all.length->met.length=L.length->(∀ x∈met,0<=x/\x<=i)->(∀ (k:Nat) (h:k<L.length) (h':k<met.length) (j:Nat) (hj:j<all.length),j<i->all[j].eval=some L[k]->1<=met[k]) →
  At Tryz.prog 0 (cut scP6 1) ⟨[(3,.slice (Tm.cellsL L) []),(5,.slice (Tm.cellsL all) []),(8,.vec 0),(9,.int .i64 i)],[(0,.arr false 1 3 (intC .i64 met))]⟩ QEp:=by
 intro m
 induction m with
 | zero =>
  intro i met hm hi hml hb hd
  have hp: ∀ x∈met,1<=x:=fun x hx=>by
   obtain⟨k,hk,rfl⟩:=List.getElem_of_mem hx
   obtain⟨y,hy,hye⟩:=hout L[k] (List.getElem_mem (by omega))
   obtain⟨j,hj,rfl⟩:=List.getElem_of_mem hy
   exact hd k (by omega) hk j hj (by omega) hye
  have hO:=epO_at L hL met hml hp _ 0 rfl (Nat.zero_le _)
  refine At.tree (dCtr_ok qnone_ok) (EpM_eq (Tm.cellsL L) (Tm.cellsL all) (intC .i64 met) i 0 0 [] [] 0 0 [] [] true) ?_
  unfold EpM
  simp only[SS,cellsL_length]
  refine⟨fun h=>by omega,fun _=> ?_⟩
  refine At.tree (dCtr_ok qnone_ok) (Ep8_eq (Tm.cellsL L) (intC .i64 met)) ?_
  unfold Ep8
  rw[ok_jmp]
  exact hO
 | succ m ih =>
  intro i met hm hi hml hb hd
  have h1:i<all.length:=by omega
  have hx:=cellsL_get h1
  have hmem:=List.getElem_mem h1
  obtain⟨w,f,d⟩:=GA _ hmem
  have hE:=eval_ok all[i] w f d
  cases hev:all[i].eval with
  | none =>
   rw[hev] at hE
   have hI:=ih (i+1) met (by omega) (by omega) hml (fun x hx=>by have:=hb x hx; omega) (fun k hk hk' j hj hji he=>by
    by_cases hji2:j=i
    ·subst hji2; rw[hev] at he; cases he
    ·exact hd k hk hk' j hj (by omega) he)
   generalize all[i]=x at hx hE
   obtain⟨kx,nx,sx,ax⟩:=x
   refine At.tree (dCtr_ok qnone_ok) (EpM_eq (Tm.cellsL L) (Tm.cellsL all) (intC .i64 met) i kx nx sx (Tm.cellsL ax) 0 0 [] [] false) ?_
   unfold EpM
   simp only[SS,cellsL_length]
   exact⟨fun _=>⟨⟨by omega,hx⟩,hE,⟨by omega,hI⟩,fun h=>(Bool.noConfusion h)⟩,fun h=>by omega⟩
  | some v =>
   rw[hev] at hE
   obtain⟨hvL,wv⟩:=hin _ hmem v hev
   have hN:=epN_at L all hL met hml i (by omega) hb wL v wv hvL (fun k hk hk' hkv=>by
    refine ih (i+1) (met.set k (met[k]+1)) (by omega) (by omega) (by rw[List.length_set]; exact hml) (fun x hx=> ?_) (fun k2 hk2 hk2' j hj hji he=> ?_)
    ·rcases List.mem_or_eq_of_mem_set hx with hx | hx
     ·have:=hb x hx; omega
     ·have:=hb _ (List.getElem_mem hk'); omega
    ·rw[List.getElem_set]
     have hpos:=hb _ (List.getElem_mem hk')
     by_cases hkk:k=k2
     ·rw[if_pos hkk]; omega
     ·rw[if_neg hkk]
      refine hd k2 hk2 (by rw[List.length_set] at hk2'; exact hk2') j hj ?_ he
      by_cases hji2:j=i
      ·subst hji2
       rw[hev] at he
       cases he
       exact absurd ((List.getElem_inj hnd).1 hkv) hkk
      ·omega) _ 0 (-1) rfl (Nat.zero_le _) (.inl ⟨rfl,fun k hk h=>by omega⟩)
   generalize all[i]=x at hx hE
   obtain⟨kx,nx,sx,ax⟩:=x
   obtain⟨kv,nv,sv,av⟩:=v
   refine At.tree (dCtr_ok qnone_ok) (EpM_eq (Tm.cellsL L) (Tm.cellsL all) (intC .i64 met) i kx nx sx (Tm.cellsL ax) kv nv sv (Tm.cellsL av) true) ?_
   unfold EpM
   simp only[SS,cellsL_length]
   exact⟨fun _=>⟨⟨by omega,hx⟩,hE,fun h=>(Bool.noConfusion h),hN⟩,fun h=>by omega⟩
end
theorem epL_at (L all:List Tm) (e:Int) (b:Bool) (hL:L.length<=1000) (wL: ∀ y∈L,y.wf 281474976710656/\y.depth<=1000000000/\(y.all Tm.plain && y.valid)=true) (hinc:L.Pairwise fun a b=>a.cmp b= -1)
  (H:AtE 5 ⟨[(3,.slice (Tm.cellsL L) []),(4,.int .i64 e),(5,.slice (Tm.cellsL all) []),(6,.bool b)],[]⟩): ∀ (m i:Nat),L.length-i=m->i<=L.length →
  At Tryz.prog 0 (cut scP6 0) ⟨[(3,.slice (Tm.cellsL L) []),(4,.int .i64 e),(5,.slice (Tm.cellsL all) []),(6,.bool b),(7,.int .i64 i)],[]⟩ QEp:=by
 intro m
 induction m with
 | zero =>
  intro i hm hi
  refine At.tree (dCtr_ok qnone_ok) (EpL_eq (Tm.cellsL L) e (Tm.cellsL all) b i 0 0 [] [] 0 0 [] [] true 0) ?_
  unfold EpL
  simp only[SS,cellsL_length]
  exact⟨fun h=>by omega,fun _=>H⟩
 | succ m ih =>
  intro i hm hi
  have h1:i<L.length:=by omega
  have hx:=cellsL_get h1
  obtain⟨w,d,hv⟩:=wL _ (List.getElem_mem h1)
  have hV:=value_ok L[i] w d
  rw[hv] at hV
  have hI:=ih (i+1) (by omega) (by omega)
  by_cases h0:i=0
  ·subst h0
   generalize L[0]=x at hx hV
   obtain⟨kx,nx,sx,ax⟩:=x
   refine At.tree (dCtr_ok qnone_ok) (EpL_eq (Tm.cellsL L) e (Tm.cellsL all) b (0:Nat) kx nx sx (Tm.cellsL ax) 0 0 [] [] true 0) ?_
   unfold EpL
   simp only[SS,cellsL_length]
   exact⟨fun _=>⟨⟨by omega,hx⟩,hV,fun h=>(Bool.noConfusion h),fun h=>by omega,fun _=>⟨by omega,hI⟩⟩,fun h=>by omega⟩
  ·have h2:i-1<L.length:=by omega
   have hy:=cellsL_get h2
   have hc:=cmp_ok L[i-1] L[i] (wL _ (List.getElem_mem h2)).1 w
   rw[List.pairwise_iff_getElem.1 hinc (i-1) i h2 h1 (by omega)] at hc
   have e1:((i:Int)-1).toNat=i-1:=by omega
   generalize L[i]=x at hx hV hc
   generalize L[i-1]=y at hy hc
   obtain⟨kx,nx,sx,ax⟩:=x
   obtain⟨ky,ny,sy,ay⟩:=y
   refine At.tree (dCtr_ok qnone_ok) (EpL_eq (Tm.cellsL L) e (Tm.cellsL all) b i kx nx sx (Tm.cellsL ax) ky ny sy (Tm.cellsL ay) true (-1)) ?_
   unfold EpL
   simp only[SS,cellsL_length,e1]
   exact⟨fun _=>⟨⟨by omega,hx⟩,hV,fun h=>(Bool.noConfusion h),fun _=>⟨by omega,⟨by omega,hy⟩,⟨by omega,hx⟩,hc,fun h=>absurd trivial h,by omega,hI⟩,fun h=>by omega⟩,fun h=>by omega⟩
theorem xrw_ok {x:Tm} (hx:x.wf 281474976710656):(xrL x.expd).length<=1000/\ ∀ v∈xrL x.expd,v.wf 281474976710656:=by
 unfold Tm.expd
 split
 ·rename_i h
  simp only[Bool.and_eq_true] at h
  cases hq:x.xp with
  | none=>exact⟨Nat.zero_le _,fun v hv=>by cases hv⟩
  | some l=>exact⟨xp_len hq,fun v hv=>xp_wf x l v hx (valid_iff.1 h.1).2 h.2 hq hv⟩
 ·exact⟨Nat.zero_le _,fun v hv=>by cases hv⟩
theorem expands_of (hA:FnOK Tryz.prog 8 [] (.bool true)) (x:Tm) (hx:x.wf 281474976710656):FnOK Tryz.prog 6 [.agg x.cells] (.bool true):=by
 have hs:=sz_ok x hx 60 (by omega) (by omega)
 have hdep:=sz_depth x 60
 have hgo:x.depth<=60->x.valid=true->x.all Tm.gr=true->AtE 4 ⟨[(3,.slice (Tm.cellsL (xrL x.expd)) []),(4,.int .i64 (xrE x.expd)),(5,.slice (Tm.cellsL x.pl.1) []),(6,.bool x.pl.2)],[]⟩:=fun hd hv hg=>by
  obtain⟨hd12,hsh⟩:=valid_iff.1 hv
  have hexp:x.expd=match x.xp with
   | some l=> .ok l
   | none=> .many:=by unfold Tm.expd; rw[hv,hg]; rfl
  have hxw:=xrw_ok hx
  refine At.tree (dCtr_ok qnone_ok) (Ep4_eq (Tm.cellsL (xrL x.expd)) (xrE x.expd) (Tm.cellsL x.pl.1) x.pl.2) ?_
  unfold Ep4
  rw[ok_jmp]
  have hval: ∀ y∈xrL x.expd,y.wf 281474976710656/\y.depth<=1000000000/\(y.all Tm.plain && y.valid)=true:=fun y hy=>by
   refine⟨hxw.2 y hy, ?_⟩
   rw[hexp] at hy
   cases hq:x.xp with
   | none=>rw[hq] at hy; cases hy
   | some l =>
    rw[hq] at hy
    obtain⟨h1,h2,h3⟩:=xp_value x l y hsh hg hq hy
    refine⟨by omega, ?_⟩
    rw[h1,Bool.true_and]
    exact valid_iff.2 ⟨by omega,h2⟩
  have hinc:(xrL x.expd).Pairwise fun a b=>a.cmp b= -1:=by
   rw[hexp]
   cases hq:x.xp with
   | none=>exact List.Pairwise.nil
   | some l=>exact xp_incr x l hq
  have h5:AtE 5 ⟨[(3,.slice (Tm.cellsL (xrL x.expd)) []),(4,.int .i64 (xrE x.expd)),(5,.slice (Tm.cellsL x.pl.1) []),(6,.bool x.pl.2)],[]⟩:=by
   refine At.tree (dCtr_ok qnone_ok) (Ep5_eq (Tm.cellsL (xrL x.expd)) (xrE x.expd) (Tm.cellsL x.pl.1) x.pl.2) ?_
   unfold Ep5
   cases hq:x.xp with
   | none =>
    have he:x.expd= .many:=by rw[hexp,hq]
    rw[he]
    simp only[SS,xrE,xrL]
    simp[Tm.cellsL]
   | some l =>
    have he:x.expd= .ok l:=by rw[hexp,hq]
    rw[he] at hxw hval hinc ⊢
    simp only[xrE,xrL] at hxw hval hinc ⊢
    cases hb:x.pl.2 with
    | false =>
     simp only[SS]
     simp
    | true =>
     have hpl:=pair_eq hb
     have hG: ∀ y∈x.pl.1,PlS x y:=pl_shape x x.pl.1 hsh hg hpl
     have hev: ∀ y∈x.pl.1,y.eval=y.ev:=fun y hy=>pls_eval (hG y hy) hd12
     have hB:=pl_ok x x.pl.1 l hsh hg hd12 hpl hq
     have hnd:l.Nodup:=hinc.imp fun {a b} h e=>by rw[e,cmp_same] at h; cases h
     have hM:=epM_at l x.pl.1 hxw.1 (pl_len hpl) (fun y hy=>(hval y hy).1) (fun y hy=>⟨pl_wf x x.pl.1 hx hsh hg hpl y hy,shape_few y (hG y hy).shape,by have:=(hG y hy).depth; omega⟩) hnd
      (fun y hy v hv=>by
       rw[hev y hy] at hv
       have:=(hB v).2 ⟨y,hy,hv⟩
       exact⟨this,(hval v this).1⟩)
      (fun v hv=>by
       obtain⟨y,hy,hye⟩:=(hB v).1 hv
       exact⟨y,hy,by rw[hev y hy]; exact hye⟩) _ 0 (List.replicate l.length 0) rfl (Nat.zero_le _) (by simp) (fun z hz=>by rw[List.eq_of_mem_replicate hz]; omega) (fun k hk hk' j hj hji=>by omega)
     simp only[SS]
     refine⟨fun h=>absurd trivial h,fun h=>(Bool.noConfusion h), ?_⟩
     refine At.tree (dCtr_ok qnone_ok) (Ep6_eq (Tm.cellsL l) (Tm.cellsL x.pl.1)) ?_
     unfold Ep6
     have hl:=hxw.1
     rw[ok_owe,ok_jmp,cellsL_length]
     refine⟨by omega, ?_⟩
     have er:List.replicate ((l.length:Int).toNat) [D.int .i64 0]=intC .i64 (List.replicate l.length 0):=by simp[intC]
     rw[er]
     refine At.tree (dCtr_ok qnone_ok) (Ep7_eq (Tm.cellsL l) (Tm.cellsL x.pl.1) (intC .i64 (List.replicate l.length 0))) ?_
     unfold Ep7
     rw[ok_jmp]
     exact hM
  exact epL_at (xrL x.expd) x.pl.1 (xrE x.expd) x.pl.2 hxw.1 hval hinc h5 _ 0 rfl (Nat.zero_le _)
 have hE:=fun (hd:x.depth<=1000000000)=>expand_ok x hx hd
 have hP:=fun (h1:x.valid=true) (h2:x.all Tm.gr=true) (h3:x.depth<=1000000000)=>plain_ok x hx (valid_iff.1 h1).2 h2 h3
 have hV:=fun (hd:x.depth<=1000000000)=>valid_ok x hx hd
 have hG:=ground_ok x hx
 unfold PlOK at hP
 generalize x.sz 60=c at hs hdep
 generalize x.pl=pl at hgo hP
 generalize x.expd=X at hgo hE
 generalize x.valid=v at hgo hP hV
 generalize x.all Tm.gr=g at hgo hP hG
 generalize x.depth=d at *
 obtain⟨k,n,s,l⟩:=x
 refine FnOK.tree hdraw fpP6 (ctr_ok libT_ok qnone_ok) (EpA_eq k n s (Tm.cellsL l)) ?_
 unfold EpA
 rw[ok_jmp]
 refine At.tree (dCtr_ok qnone_ok) (Ep0_eq k n s (Tm.cellsL l)) ?_
 unfold Ep0
 rw[ok_owe,ok_jmp]
 refine⟨hA, ?_⟩
 refine At.tree (dCtr_ok qnone_ok) (Ep1_eq k n s (Tm.cellsL l) c v g) ?_
 unfold Ep1
 rw[ok_owe,ok_br,ok_ret,ok_owe,ok_br,ok_owe,ok_br,ok_jmp]
 refine⟨hs,fun _=>rfl,fun hc=> ?_⟩
 have hc:=of_decide_eq_false hc
 have hd:d<=60:=by have:=hdep (by omega); omega
 refine⟨hV (by omega),fun _=>rfl,fun hv=>⟨hG,fun _=>rfl,fun hg=> ?_⟩⟩
 have hv:v=true:=by simpa using hv
 have hg:g=true:=by simpa using hg
 refine At.tree (dCtr_ok qnone_ok) (Ep2_eq k n s (Tm.cellsL l) (Tm.cellsL (xrL X)) (xrE X)) ?_
 unfold Ep2
 rw[ok_owe,ok_jmp]
 refine⟨hE (by omega), ?_⟩
 refine At.tree (dCtr_ok qnone_ok) (Ep3_eq k n s (Tm.cellsL l) (Tm.cellsL (xrL X)) (xrE X) (Tm.cellsL pl.1) pl.2) ?_
 unfold Ep3
 rw[ok_owe,ok_jmp]
 exact⟨hP hv hg (by omega),hgo hd hv hg⟩
end Go.Proofs.YtfoklncmfoogcaaGreatDoor
