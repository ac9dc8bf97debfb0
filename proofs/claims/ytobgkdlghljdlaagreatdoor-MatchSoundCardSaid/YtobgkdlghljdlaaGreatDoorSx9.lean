/- Own work: a layer over the kit: plain data,a walk over it,its soundness. -/
import Derived.Lib.Join
import Derived.Sort.OwnSorted
import Derived.Lib.SlicesCompact
import Derived.Calls
import Derived.CallsIn
import Derived.Test.YtobgkdlghljdlaaGreatDoorSx8
set_option linter.unusedSectionVars false
set_option linter.unusedVariables false
set_option linter.unusedSimpArgs false
set_option linter.deprecated false
/- MATCHING,PLAIN: what a pattern wants,and the expansions of the pattern with the binding applied. -/
namespace Go.Sx
theorem prodL_cons {α:Type} {r:List α} {x:List α} {ps:List (List α)}:r∈prodL (x::ps) ↔ ∃ a∈x, ∃ q∈prodL ps,r=a::q:=by
 rw[mem_prodL]
 constructor
 ·rintro⟨h1,h2⟩
  cases r with
  | nil=>simp at h1
  | cons a q =>
   refine⟨a,h2 0 (by simp) (by simp),q,mem_prodL.2 ⟨by simpa using h1,fun i h h'=> ?_⟩,rfl⟩
   have:=h2 (i+1) (by simpa using h) (by simpa using h')
   simpa using this
 ·rintro⟨a,ha,q,hq,rfl⟩
  obtain⟨h1,h2⟩:=mem_prodL.1 hq
  refine⟨by simp[h1],fun i h h'=> ?_⟩
  cases i with
  | zero=>exact ha
  | succ i=>simpa using h2 i (by simpa using h) (by simpa using h')
theorem prodL_nil {α:Type} {r:List α}:r∈prodL ([]:List (List α)) ↔ r=[]:=by
 rw[mem_prodL]
 exact⟨fun h=>by simpa using h.1,fun h=>by subst h; exact⟨rfl,fun i h=>by simp at h⟩⟩
theorem fnX_mem {s:List UInt8} {ps:List (List Tm)} {L:List Tm} (h:fnX s ps=some L) {v:Tm}:v∈L ↔ ∃ r∈prodL ps,v= .mk 4 0 s r:=by
 unfold fnX at h
 split at h
 ·rename_i he
  cases h
  obtain⟨x,hx,hxe⟩:=List.any_eq_true.1 he
  refine⟨fun h=>by simp at h,fun ⟨r,hr,_⟩=> ?_⟩
  obtain⟨h1,h2⟩:=mem_prodL.1 hr
  obtain⟨i,hi,rfl⟩:=List.getElem_of_mem hx
  have:=h2 i (by omega) hi
  rw[List.isEmpty_iff] at hxe
  rw[hxe] at this
  cases this
 ·split at h
  ·cases h
   rw[List.mem_map]
   exact⟨fun ⟨r,h1,h2⟩=>⟨r,h1,h2.symm⟩,fun ⟨r,h1,h2⟩=>⟨r,h1,h2.symm⟩⟩
  ·cases h
def Cnd (b:List Bd) (w:Wn):Prop:=(∀ x∈w.1,getB b x.1=some x.2)/\ ∀ y∈w.2, ∃ L,(y.1.ap b).xp=some L/\y.2∈L
theorem cnd_join {b:List Bd} {x y:Wn}:Cnd b (x.1++y.1,x.2++y.2) ↔ Cnd b x/\Cnd b y:=by
 unfold Cnd
 simp only[List.mem_append]
 constructor
 ·rintro⟨h1,h2⟩
  exact⟨⟨fun z hz=>h1 z (.inl hz),fun z hz=>h2 z (.inl hz)⟩,fun z hz=>h1 z (.inr hz),fun z hz=>h2 z (.inr hz)⟩
 ·rintro⟨⟨h1,h2⟩,h3,h4⟩
  exact⟨fun z hz=>hz.elim (h1 z) (h3 z),fun z hz=>hz.elim (h2 z) (h4 z)⟩
def CndO (b:List Bd) (q:Option Wn):Prop:= ∃ w,q=some w/\Cnd b w
theorem cndO_join {b:List Bd} {x y:Option Wn}:CndO b (wJ x y) ↔ CndO b x/\CndO b y:=by
 cases x with
 | none=>exact⟨fun ⟨w,h,_⟩=>by simp[wJ] at h,fun ⟨⟨w,h,_⟩,_⟩=>by cases h⟩
 | some x =>
  cases y with
  | none=>exact⟨fun ⟨w,h,_⟩=>by simp[wJ] at h,fun ⟨_,⟨w,h,_⟩⟩=>by cases h⟩
  | some y =>
   constructor
   ·rintro⟨w,h,hc⟩
    cases h
    have:=cnd_join.1 hc
    exact⟨⟨x,rfl,this.1⟩,y,rfl,this.2⟩
   ·rintro⟨⟨w1,e1,h1⟩,w2,e2,h2⟩
    cases e1; cases e2
    exact⟨_,rfl,cnd_join.2 ⟨h1,h2⟩⟩
theorem cndO_nil (b:List Bd):CndO b (some ([],[])):=⟨_,rfl,⟨fun x h=>(by cases h),fun x h=>(by cases h)⟩⟩
theorem val_xp: ∀ v:Tm,v.all Tm.plain=true->v.all Tm.shape=true->v.xp=some [v]
 | .mk k n s l,hp0,hs0=>by
  have hp:=all_split.1 hp0
  have hs:=all_split.1 hs0
  rw[Tm.xp]
  split
  ·rename_i he
   rw[List.isEmpty_iff.1 he]
  ·rename_i he
   have hne:l≠[]:=fun e=>he (by rw[e]; rfl)
   have hlen:l.length≠0:=fun e=>hne (List.length_eq_zero_iff.1 e)
   have h1:=hp.1
   simp only[Tm.plain,Bool.or_eq_true,decide_eq_true_eq] at h1
   have hsh:=hs.1
   have hk:k=4/\n=0:=by
    rcases h1 with (rfl | rfl) | rfl
    ·simp only[Tm.shape,shapeB] at hsh
     simp at hsh
     exact absurd hsh.2 hne
    ·simp only[Tm.shape,shapeB] at hsh
     simp at hsh
     exact absurd hsh.2 hne
    ·simp only[Tm.shape,shapeB] at hsh
     simp at hsh
     exact⟨rfl,hsh.1.1.1⟩
   obtain⟨rfl,rfl⟩:=hk
   have hL: ∀ q:List Tm,(∀ x∈q,x∈l)->Tm.xpL q=some (q.map fun x=>[x]):=by
    intro q
    induction q with
    | nil=>intro _; rfl
    | cons a r ih =>
     intro h
     have ha:=h a (List.mem_cons_self ..)
     rw[Tm.xpL,ih (fun x hx=>h x (List.mem_cons_of_mem _ hx)),val_xp a (hp.2 a ha) (hs.2 a ha)]
     rfl
   have hP: ∀ q:List Tm,prodL (q.map fun x=>[x])=[q]:=by
    intro q
    induction q with
    | nil=>rfl
    | cons a r ih=>simp[prodL,ih]
   rw[hL l (fun x h=>h)]
   unfold xpK fnX
   have hany:(l.map fun x=>[x]).any List.isEmpty=false:=by
    rw[List.any_eq_false]
    intro x hx
    obtain⟨y,_,rfl⟩:=List.mem_map.1 hx
    simp
   simp[hany,hP]
termination_by v=>SizeOf.sizeOf v
decreasing_by
 have:=List.sizeOf_lt_of_mem ha
 simp only[Tm.mk.sizeOf_spec]
 omega
theorem prs_xp {b:List Bd} (hb: ∀ x∈b,x.v.value=true): ∀ (p:Tm) (L:List Tm) (v:Tm),p.all Tm.shape=true->(p.ap b).all Tm.gr=true->(p.ap b).xp=some L->(v∈L ↔ CndO b (p.prs v))
 | .mk k n s l,L,.mk k' n' s' l',hs0,hg0,h=>by
  have hs:=all_split.1 hs0
  by_cases h3:k=3
  ·subst h3
   rw[Tm.ap,apK,if_pos rfl] at h hg0
   rw[Tm.prs,if_pos rfl]
   cases hg:getB b s with
   | none =>
    rw[hg] at hg0
    have:=(all_split.1 hg0).1
    simp[Tm.gr] at this
   | some u =>
    rw[hg] at h
    simp only at h
    have hu:=hb _ (getB_some hg)
    simp only[Tm.value,Tm.valid,Bool.and_eq_true] at hu
    rw[val_xp u hu.1 hu.2.2] at h
    cases h
    rw[List.mem_singleton]
    constructor
    ·intro e
     exact⟨_,rfl,fun x hx=>by rw[List.mem_singleton.1 hx]; exact hg.trans (by rw[e]),fun y hy=>by cases hy⟩
    ·rintro⟨w,e,h1,_⟩
     cases e
     have:=h1 _ (List.mem_singleton.2 rfl)
     rw[hg] at this
     exact (Option.some.inj this).symm
  ·by_cases h56:k=5\/k=6
   ·rw[Tm.prs,if_neg h3,if_pos h56]
    constructor
    ·intro hv
     exact⟨_,rfl,fun x hx=>(by cases hx),fun y hy=>by rw[List.mem_singleton.1 hy]; exact⟨L,h,hv⟩⟩
    ·rintro⟨w,e,_,h2⟩
     cases e
     obtain⟨L',h3,h4⟩:=h2 _ (List.mem_singleton.2 rfl)
     rw[h] at h3
     cases h3
     exact h4
   ·rw[Tm.prs,if_neg h3,if_neg h56]
    rw[Tm.ap,apK,if_neg h3,apL_map] at h hg0
    rw[Tm.xp] at h
    split at h
    ·rename_i he
     cases h
     have he:l=[]:=by simpa using he
     subst he
     rw[List.mem_singleton]
     constructor
     ·intro e
      cases e
      rw[if_pos ⟨rfl,rfl,rfl⟩]
      exact cndO_nil b
     ·rintro⟨w,h,_⟩
      split at h
      ·rename_i e
       obtain⟨rfl,rfl,rfl⟩:=e
       cases l' with
       | nil=>rfl
       | cons=>simp[Tm.prsL] at h
      ·cases h
    ·rename_i he
     have hne:l≠[]:=fun e=>he (by rw[e]; rfl)
     have hsh:=hs.1
     have hk:k=4/\n=0:=by
      simp only[Tm.shape,shapeB] at hsh
      simp only[not_or] at h56
      by_cases h1:k=1
      ·subst h1; simp at hsh; exact absurd hsh.2 hne
      ·by_cases h2:k=2
       ·subst h2; simp at hsh; exact absurd hsh.2 hne
       ·by_cases h4:k=4
        ·subst h4; simp at hsh; exact⟨rfl,hsh.1.1.1⟩
        ·have e1: ¬ (k:Int)=1:=by omega
         have e2: ¬ (k:Int)=2:=by omega
         have e3: ¬ (k:Int)=3:=by omega
         have e4: ¬ (k:Int)=4:=by omega
         have e5: ¬ (k:Int)=5:=by omega
         have e6: ¬ (k:Int)=6:=by omega
         simp[e1,e2,e3,e4,e5,e6] at hsh
     obtain⟨rfl,rfl⟩:=hk
     have hg:=(all_split.1 hg0).2
     have hQ: ∀ (q:List Tm),(∀ x∈q,x∈l)-> ∀ (ps:List (List Tm)) (r:List Tm),Tm.xpL (q.map (Tm.ap b))=some ps->(r∈prodL ps ↔ CndO b (Tm.prsL q r)):=by
      intro q
      induction q with
      | nil =>
       intro _ ps r hx
       cases hx
       rw[prodL_nil]
       constructor
       ·intro e; subst e; exact cndO_nil b
       ·rintro⟨w,h,_⟩
        cases r with
        | nil=>rfl
        | cons=>simp[Tm.prsL] at h
      | cons a q ih =>
       intro hq ps r hx
       have ha:=hq a (List.mem_cons_self ..)
       rw[List.map_cons,Tm.xpL] at hx
       unfold consX at hx
       split at hx
       ·rename_i x qs e1 e2
        cases hx
        rw[prodL_cons]
        cases r with
        | nil=>exact⟨fun ⟨_,_,_,_,e⟩=>(by cases e),fun ⟨w,h,_⟩=>(by simp[Tm.prsL] at h)⟩
        | cons y r =>
         have hy:=prs_xp hb a x y (hs.2 a ha) (hg _ (List.mem_map_of_mem ha)) e1
         have hr:=ih (fun x hx=>hq x (List.mem_cons_of_mem _ hx)) qs r e2
         rw[Tm.prsL,cndO_join,<- hy,<- hr]
         constructor
         ·rintro⟨a',h1,q',h2,e⟩
          cases e
          exact⟨h1,h2⟩
         ·rintro⟨h1,h2⟩
          exact⟨y,h1,r,h2,rfl⟩
       ·cases hx
     cases hp:Tm.xpL (l.map (Tm.ap b)) with
     | none=>rw[hp] at h; simp[xpK] at h
     | some ps =>
      rw[hp] at h
      have h':fnX s ps=some L:=by simpa [xpK] using h
      rw[fnX_mem h']
      constructor
      ·rintro⟨r,hr,e⟩
       cases e
       rw[if_pos ⟨rfl,rfl,rfl⟩]
       exact (hQ l (fun x h=>h) ps _ hp).1 hr
      ·intro hc
       split at hc
       ·rename_i e
        obtain⟨rfl,rfl,rfl⟩:=e
        exact⟨l',(hQ l (fun x h=>h) ps l' hp).2 hc,rfl⟩
       ·obtain⟨w,h,_⟩:=hc
        cases h
termination_by p=>SizeOf.sizeOf p
decreasing_by
 have:=List.sizeOf_lt_of_mem ha
 simp only[Tm.mk.sizeOf_spec]
 omega
end Go.Sx
/- MATCHING,PLAIN: the wants' names and values; a matched pattern is ground. -/
namespace Go.Sx
theorem wJ_some {x y:Option Wn} {w:Wn} (h:wJ x y=some w): ∃ a b,x=some a/\y=some b/\w=(a.1++b.1,a.2++b.2):=by
 cases x with
 | none=>simp[wJ] at h
 | some a =>
  cases y with
  | none=>simp[wJ] at h
  | some b=>cases h; exact⟨a,b,rfl,rfl,rfl⟩
mutual
def Tm.outs:Tm->List (List UInt8)
 | .mk k n s l=>if k=5\/k=6 then [] else (if k=3 then [s] else [])++Tm.outsL l
def Tm.outsL:List Tm->List (List UInt8)
 | []=>[]
 | a::r=>Tm.outs a++Tm.outsL r
end
theorem shape3 {k:Nat} {n:Int} {s:List UInt8} {l:List Tm} (h:(Tm.mk k n s l).shape=true) (hk:k=3):Lx.variableB s=true/\l=[]:=by
 subst hk
 simp only[Tm.shape,shapeB] at h
 simp at h
 exact⟨h.1.2,h.2⟩
mutual
theorem prs_names: ∀ (p v:Tm) (w:Wn),p.all Tm.shape=true->p.prs v=some w->w.1.map Prod.fst=p.outs
 | .mk k n s l,.mk k' n' s' l',w,hs,h=>by
  rw[Tm.prs] at h
  rw[Tm.outs]
  rw[Tm.all,Bool.and_eq_true] at hs
  by_cases h3:k=3
  ·rw[if_pos h3] at h
   cases h
   obtain⟨_,rfl⟩:=shape3 hs.1 h3
   rw[if_neg (by omega),if_pos h3]
   rfl
  ·rw[if_neg h3] at h
   by_cases h5:k=5\/k=6
   ·rw[if_pos h5] at h ⊢
    cases h
    rfl
   ·rw[if_neg h5] at h ⊢
    rw[if_neg h3,List.nil_append]
    split at h
    ·exact prsL_names l l' w hs.2 h
    ·cases h
theorem prsL_names: ∀ (l l':List Tm) (w:Wn),Tm.allL Tm.shape l=true->Tm.prsL l l'=some w->w.1.map Prod.fst=Tm.outsL l
 | [],[],w,_,h=>by cases h; rfl
 | a::l,b::m,w,hs,h=>by
  rw[Tm.prsL] at h
  obtain⟨x,y,h1,h2,rfl⟩:=wJ_some h
  rw[Tm.allL,Bool.and_eq_true] at hs
  rw[Tm.outsL,List.map_append,prs_names a b x hs.1 h1,prsL_names l m y hs.2 h2]
 | [],_::_,w,_,h=>by simp[Tm.prsL] at h
 | _::_,[],w,_,h=>by simp[Tm.prsL] at h
end
mutual
theorem prs_vars: ∀ (p v:Tm) (w:Wn),p.all Tm.shape=true->p.prs v=some w-> ∀ x∈w.1,Lx.variableB x.1=true
 | .mk k n s l,.mk k' n' s' l',w,hs,h=>by
  rw[Tm.prs] at h
  rw[Tm.all,Bool.and_eq_true] at hs
  by_cases h3:k=3
  ·rw[if_pos h3] at h
   cases h
   intro x hx
   rw[List.mem_singleton.1 hx]
   exact (shape3 hs.1 h3).1
  ·rw[if_neg h3] at h
   by_cases h5:k=5\/k=6
   ·rw[if_pos h5] at h
    cases h
    intro x hx; cases hx
   ·rw[if_neg h5] at h
    split at h
    ·exact prsL_vars l l' w hs.2 h
    ·cases h
theorem prsL_vars: ∀ (l l':List Tm) (w:Wn),Tm.allL Tm.shape l=true->Tm.prsL l l'=some w-> ∀ x∈w.1,Lx.variableB x.1=true
 | [],[],w,_,h=>by cases h; intro x hx; cases hx
 | a::l,b::m,w,hs,h=>by
  rw[Tm.prsL] at h
  obtain⟨x,y,h1,h2,rfl⟩:=wJ_some h
  rw[Tm.allL,Bool.and_eq_true] at hs
  intro z hz
  rcases List.mem_append.1 hz with hz | hz
  ·exact prs_vars a b x hs.1 h1 z hz
  ·exact prsL_vars l m y hs.2 h2 z hz
 | [],_::_,w,_,h=>by simp[Tm.prsL] at h
 | _::_,[],w,_,h=>by simp[Tm.prsL] at h
end
mutual
theorem prs_all {g h:Tm->Bool}: ∀ (p v:Tm) (w:Wn),p.all g=true->v.all h=true->p.prs v=some w->(∀ x∈w.1,x.2.all h=true/\x.2.depth<=v.depth)/\ ∀ y∈w.2,y.1.all g=true/\y.1.depth<=p.depth/\y.2.all h=true/\y.2.depth<=v.depth
 | .mk k n s l,.mk k' n' s' l',w,hg,hh,he=>by
  rw[Tm.prs] at he
  by_cases h3:k=3
  ·rw[if_pos h3] at he
   cases he
   refine⟨fun x hx=> ?_,fun y hy=>by cases hy⟩
   rw[List.mem_singleton.1 hx]
   exact⟨hh,Nat.le_refl _⟩
  ·rw[if_neg h3] at he
   by_cases h5:k=5\/k=6
   ·rw[if_pos h5] at he
    cases he
    refine⟨fun x hx=>(by cases hx),fun y hy=> ?_⟩
    rw[List.mem_singleton.1 hy]
    exact⟨hg,Nat.le_refl _,hh,Nat.le_refl _⟩
   ·rw[if_neg h5] at he
    split at he
    ·rw[Tm.all,Bool.and_eq_true] at hg hh
     obtain⟨q1,q2⟩:=prsL_all l l' w hg.2 hh.2 he
     have e1:Tm.depthL l<=(Tm.mk k n s l).depth:=by rw[Tm.depth]; omega
     have e2:Tm.depthL l'<=(Tm.mk k' n' s' l').depth:=by rw[Tm.depth]; omega
     exact⟨fun x hx=>⟨(q1 x hx).1,Nat.le_trans (q1 x hx).2 e2⟩,fun y hy=>⟨(q2 y hy).1,Nat.le_trans (q2 y hy).2.1 e1,(q2 y hy).2.2.1,Nat.le_trans (q2 y hy).2.2.2 e2⟩⟩
    ·cases he
theorem prsL_all {g h:Tm->Bool}: ∀ (l l':List Tm) (w:Wn),Tm.allL g l=true->Tm.allL h l'=true->Tm.prsL l l'=some w->(∀ x∈w.1,x.2.all h=true/\x.2.depth<=Tm.depthL l')/\ ∀ y∈w.2,y.1.all g=true/\y.1.depth<=Tm.depthL l/\y.2.all h=true/\y.2.depth<=Tm.depthL l'
 | [],[],w,_,_,he=>by cases he; exact⟨fun x hx=>(by cases hx),fun x hx=>(by cases hx)⟩
 | a::l,b::m,w,hg,hh,he=>by
  rw[Tm.prsL] at he
  obtain⟨x,y,h1,h2,rfl⟩:=wJ_some he
  rw[Tm.allL,Bool.and_eq_true] at hg hh
  obtain⟨a1,a2⟩:=prs_all a b x hg.1 hh.1 h1
  obtain⟨b1,b2⟩:=prsL_all l m y hg.2 hh.2 h2
  have e1:a.depth<=Tm.depthL (a::l):=by rw[Tm.depthL]; exact Nat.le_max_left _ _
  have e2:Tm.depthL l<=Tm.depthL (a::l):=by rw[Tm.depthL]; exact Nat.le_max_right _ _
  have e3:b.depth<=Tm.depthL (b::m):=by rw[Tm.depthL]; exact Nat.le_max_left _ _
  have e4:Tm.depthL m<=Tm.depthL (b::m):=by rw[Tm.depthL]; exact Nat.le_max_right _ _
  refine⟨fun z hz=> ?_,fun z hz=> ?_⟩
  ·rcases List.mem_append.1 hz with hz | hz
   ·exact⟨(a1 z hz).1,Nat.le_trans (a1 z hz).2 e3⟩
   ·exact⟨(b1 z hz).1,Nat.le_trans (b1 z hz).2 e4⟩
  ·rcases List.mem_append.1 hz with hz | hz
   ·exact⟨(a2 z hz).1,Nat.le_trans (a2 z hz).2.1 e1,(a2 z hz).2.2.1,Nat.le_trans (a2 z hz).2.2.2 e3⟩
   ·exact⟨(b2 z hz).1,Nat.le_trans (b2 z hz).2.1 e2,(b2 z hz).2.2.1,Nat.le_trans (b2 z hz).2.2.2 e4⟩
 | [],_::_,w,_,_,he=>by simp[Tm.prsL] at he
 | _::_,[],w,_,_,he=>by simp[Tm.prsL] at he
end
mutual
theorem prs_gr {c:List Bd}: ∀ (p v:Tm) (w:Wn),p.prs v=some w->(∀ x∈w.1,(getB c x.1)=some x.2/\x.2.all Tm.gr=true)->(∀ y∈w.2,(y.1.ap c).all Tm.gr=true)->(p.ap c).all Tm.gr=true
 | .mk k n s l,.mk k' n' s' l',w,he,h1,h2=>by
  rw[Tm.prs] at he
  by_cases h3:k=3
  ·rw[if_pos h3] at he
   cases he
   obtain⟨q1,q2⟩:=h1 _ (List.mem_singleton.2 rfl)
   simp only at q1 q2
   rw[Tm.ap,apK,if_pos h3,q1]
   exact q2
  ·rw[if_neg h3] at he
   by_cases h5:k=5\/k=6
   ·rw[if_pos h5] at he
    cases he
    exact h2 _ (List.mem_singleton.2 rfl)
   ·rw[if_neg h5] at he
    split at he
    ·rw[Tm.ap,apK,if_neg h3,Tm.all,Bool.and_eq_true]
     exact⟨by simp[Tm.gr,h3],prsL_gr l l' w he h1 h2⟩
    ·cases he
theorem prsL_gr {c:List Bd}: ∀ (l l':List Tm) (w:Wn),Tm.prsL l l'=some w->(∀ x∈w.1,(getB c x.1)=some x.2/\x.2.all Tm.gr=true)->(∀ y∈w.2,(y.1.ap c).all Tm.gr=true)->Tm.allL Tm.gr (Tm.apL c l)=true
 | [],[],w,_,_,_=>rfl
 | a::l,b::m,w,he,h1,h2=>by
  rw[Tm.prsL] at he
  obtain⟨x,y,e1,e2,rfl⟩:=wJ_some he
  rw[Tm.apL,Tm.allL,Bool.and_eq_true]
  exact⟨prs_gr a b x e1 (fun z hz=>h1 z (List.mem_append.2 (.inl hz))) (fun z hz=>h2 z (List.mem_append.2 (.inl hz))),prsL_gr l m y e2 (fun z hz=>h1 z (List.mem_append.2 (.inr hz))) (fun z hz=>h2 z (List.mem_append.2 (.inr hz)))⟩
 | [],_::_,w,he,_,_=>by simp[Tm.prsL] at he
 | _::_,[],w,he,_,_=>by simp[Tm.prsL] at he
end
end Go.Sx
/- MATCHING,PLAIN: the stage's theorem. -/
namespace Go.Sx
theorem prsL_one (p v:Tm):Tm.prsL [p] [v]=p.prs v:=by
 rw[Tm.prsL,Tm.prsL]
 cases p.prs v <;> simp[wJ]
theorem lst_one {p v:Tm} {b c:List Bd}:lstB [p] [v] b=some c ↔ validB b=true/\p.valid=true/\v.value=true/\ ∃ w,p.prs v=some w/\BndOf w.1 b c/\w.2.all (clsB c)=true:=by
 unfold lstB
 by_cases hc:(validB b && ([p].all Tm.valid && [v].all Tm.value))=true
 ·rw[if_pos hc,prsL_one]
  simp only[List.all_cons,List.all_nil,Bool.and_true,Bool.and_eq_true] at hc
  obtain⟨h1,h2,h3⟩:=hc
  have hs:=(validB_iff.1 h1).1
  cases hp:p.prs v with
  | none=>simp[oA]
  | some w =>
   simp only[oA,List.nil_append]
   constructor
   ·intro h
    cases hb:bndA w.1 b with
    | none=>rw[hb] at h; cases h
    | some d =>
     rw[hb] at h
     simp only at h
     split at h
     ·rename_i ha
      cases h
      exact⟨h1,h2,h3,w,rfl,(bndA_iff hs).1 hb,ha⟩
     ·cases h
   ·rintro⟨_,_,_,w',e,hB,ha⟩
    cases e
    rw[(bndA_iff hs).2 hB]
    simp only[ha,if_true]
 ·rw[if_neg hc]
  constructor
  ·intro h; cases h
  ·rintro⟨h1,h2,h3,_⟩
   exact absurd (by simp[h1,h2,h3]) hc
theorem cls_xp {b:List Bd} {y:Tm × Tm} (h:clsB b y=true):(y.1.ap b).all Tm.gr=true/\ ∃ L,(y.1.ap b).xp=some L/\y.2∈L:=by
 unfold clsB Tm.expd at h
 split at h
 ·rename_i l he
  split at he
  ·rename_i hc
   simp only[Bool.and_eq_true] at hc
   split at he
   ·rename_i l' hx
    cases he
    obtain⟨z,hz,e⟩:=List.any_eq_true.1 h
    have e:=eqb_eq.1 e
    subst e
    exact⟨hc.2,l,hx,hz⟩
   ·cases he
  ·cases he
 ·cases h
structure Snd (p v:Tm) (b c:List Bd):Prop where
 vb:validB b=true
 vc:validB c=true
 pv:p.valid=true
 vv:v.value=true
 old: ∀ x∈b,getB c x.n=some x.v
 only: ∀ x∈c,getB b x.n=some x.v\/x.n∈p.outs
 outs: ∀ s∈p.outs, ∃ u,getB c s=some u
 again:lstB [p] [v] c=some c
 gr:(p.ap c).all Tm.gr=true
 among: ∀ l,(p.ap c).expd= .ok l->v∈l
theorem lst_sound {p v:Tm} {b c:List Bd} (h:lstB [p] [v] b=some c):Snd p v b c:=by
 obtain⟨h1,h2,h3,w,hw,hB,ha⟩:=lst_one.1 h
 have hb:=validB_iff.1 h1
 have hp:=h2
 simp only[Tm.valid,Bool.and_eq_true] at hp
 have hv:=h3
 simp only[Tm.value,Tm.valid,Bool.and_eq_true,decide_eq_true_eq] at hv
 have hva:=prs_vars p v w hp.2 hw
 have hpl:=(prs_all (g:=Tm.shape) (h:=Tm.plain) p v w hp.2 hv.1 hw).1
 have hsh:=(prs_all (g:=Tm.shape) (h:=Tm.shape) p v w hp.2 hv.2.2 hw).1
 have hnm:=prs_names p v w hp.2 hw
 have hval: ∀ x∈w.1,x.2.value=true:=fun x hx=>by
  simp only[Tm.value,Tm.valid,Bool.and_eq_true,decide_eq_true_eq]
  exact⟨(hpl x hx).1,Nat.le_trans (hpl x hx).2 hv.2.1,(hsh x hx).1⟩
 have hnew: ∀ x∈c,getB b x.n=some x.v\/(x.n,x.v)∈w.1:=fun x hx=>hB.new _ _ (getB_mem hB.srt hx)
 have hvc:validB c=true:=validB_iff.2 ⟨hB.srt,fun x hx=>by
  rcases hnew x hx with h | h
  ·exact hb.2 _ (getB_some h)
  ·exact⟨hva _ h,hval _ h⟩⟩
 have hBc:BndOf w.1 c c:=⟨hB.srt,hB.all,fun _ _ h=>h,fun _ _ h=> .inl h⟩
 have hcl:=List.all_eq_true.1 ha
 have hgr:=prs_gr (c:=c) p v w hw (fun x hx=>⟨hB.all x hx,plain_gr _ (hpl x hx).1⟩) (fun y hy=>(cls_xp (hcl y hy)).1)
 refine⟨h1,hvc,h2,h3,fun x hx=>hB.old _ _ (getB_mem hb.1 hx),fun x hx=> ?_,fun s hs=> ?_,lst_one.2 ⟨hvc,h2,h3,w,hw,hBc,ha⟩,hgr,fun l hl=> ?_⟩
 ·rcases hnew x hx with h | h
  ·exact .inl h
  ·refine .inr ?_
   rw[<- hnm]
   exact List.mem_map.2 ⟨_,h,rfl⟩
 ·rw[<- hnm] at hs
  obtain⟨x,hx,rfl⟩:=List.mem_map.1 hs
  exact⟨_,hB.all x hx⟩
 ·unfold Tm.expd at hl
  split at hl
  ·split at hl
   ·rename_i l' hx
    cases hl
    exact (prs_xp (fun x hx=>((validB_iff.1 hvc).2 x hx).2) p l v hp.2 hgr hx).2 ⟨w,hw,hB.all,fun y hy=>(cls_xp (hcl y hy)).2⟩
   ·cases hl
  ·cases hl
end Go.Sx
/- Laws of the lexer. -/
namespace Go.Sx.Lx
open Go.Sx
def run (o:Nat) (l:List UInt8):List Tk × Option (Nat × Int) × Nat:=toksF (l.length+1) (o+skp false l) (l.drop (skp false l))
def shift (d:Nat) (r:List Tk × Option (Nat × Int) × Nat):List Tk × Option (Nat × Int) × Nat:=(r.1.map fun t=>(t.1,t.2.1,t.2.2+d),r.2.1.map fun e=>(e.1+d,e.2),r.2.2+d)
end Go.Sx.Lx
namespace Go.Sx.Lx
end Go.Sx.Lx
namespace Go.Sx.Lx
end Go.Sx.Lx
namespace Go.Sx.Lx
end Go.Sx.Lx
namespace Go.Sx.Lx
def fills:List (List UInt8):=[[32],[10],[9,32],[37,10],[32,37,32,97,46,32,35,120,10],[13,10]]
def pickF (g:Int):Int:=pickG g 6
def fillOf (g:Int):List UInt8:=fills.getD (pickF g).toNat []
def gapF (gs:List Int) (i:Nat):Int:=if i<gs.length then gs.getD i 0 else i
def finB (gs:List Int):Nat->List Tk->List UInt8->List Int->List UInt8 × List Int
 | _,[],s,o=>(s,o)
 | i,t::r,s,o=>finB gs (i+1) r (s++fillOf (gapF gs i)++t.2.1) (o++[((s++fillOf (gapF gs i)).length:Int)])
end Go.Sx.Lx
/- The reference model's lexer,plainly: its tests are the lexer's. -/
namespace Go.Sx.Lx
open Go.Sx
end Go.Sx.Lx
/- Numbers and signs of the reference model. -/
namespace Go.Sx.Lx
open Go.Sx
def valN (a:Nat) (l:List UInt8):Nat:=l.foldl (fun a c=>a*10+(c.toNat-48)) a
attribute [irreducible] valN
end Go.Sx.Lx
/- The lexer's run,byte by byte. -/
namespace Go.Sx.Lx
open Go.Sx
/- What a token is,by its first byte. -/
end Go.Sx.Lx
/- OWN ROWS OF TEXTS,SORTED AND MADE COMPACT IN PLACE BY THE LIBRARY. -/
namespace Go.Sx
open Go.RowKit Go.Sort
open Go.Proofs (encStr)
variable [Globs] [Codes]
variable {P:Program} {f:FuncId}
def srt (l:List (List UInt8)):List (List UInt8):=l.mergeSort fun x y=>decide (x<=y)
end Go.Sx
/- The variables of a term. -/
namespace Go.Sx
def Tm.v1:Tm->List (List UInt8)
 | .mk k _ s _=>if k=3 then [s] else []
mutual
def Tm.vs:Tm->List (List UInt8)
 | .mk k n s l=>Tm.v1 (.mk k n s l)++Tm.vsL l
def Tm.vsL:List Tm->List (List UInt8)
 | []=>[]
 | a::r=>a.vs++Tm.vsL r
end
end Go.Sx
/- MATCHING,PLAIN: every expansion of an applied pattern is matched. -/
namespace Go.Sx
end Go.Sx
/- MATCHING,PLAIN: what is in the pairs,and how many there are. -/
namespace Go.Sx
def Her (P:Tm->Prop):Prop:= ∀ k n s l,P (.mk k n s l)-> ∀ x∈l,P x
theorem her_wf (B:Nat):Her (Tm.wf B):=fun k n s l h x hx=>by
 simp only[Tm.wf] at h
 exact wfL_all.1 h.2.2.2.2.2 x hx
theorem her_few (N:Nat):Her (Tm.few N):=fun k n s l h x hx=>by
 simp only[Tm.few] at h
 exact fewL_all.1 h.2 x hx
theorem her_depth (N:Nat):Her fun x=>x.depth<=N:=fun k n s l h x hx=>by
 simp only[Tm.depth] at h
 have:=depthL_mem0 hx
 omega
theorem her_and {P Q:Tm->Prop} (hP:Her P) (hQ:Her Q):Her fun x=>P x/\Q x:=fun k n s l h x hx=>⟨hP k n s l h.1 x hx,hQ k n s l h.2 x hx⟩
mutual
def Tm.cnt:Tm->Nat
 | .mk _ _ _ l=>Tm.cntL l+1
def Tm.cntL:List Tm->Nat
 | []=>0
 | a::r=>a.cnt+Tm.cntL r
end
mutual
theorem prs_her {P Q:Tm->Prop} (hP:Her P) (hQ:Her Q): ∀ (p v:Tm) (w:Wn),P p->Q v->p.prs v=some w->(∀ x∈w.1,Q x.2)/\ ∀ y∈w.2,P y.1/\Q y.2
 | .mk k n s l,.mk k' n' s' l',w,hp,hv,h=>by
  simp only[Tm.prs] at h
  split at h
  ·cases h
   exact⟨fun x hx=>by rw[List.mem_singleton] at hx; subst hx; exact hv,fun y hy=>by cases hy⟩
  ·split at h
   ·cases h
    exact⟨fun x hx=>(by cases hx),fun y hy=>by rw[List.mem_singleton] at hy; subst hy; exact⟨hp,hv⟩⟩
   ·split at h
    ·exact prsL_her hP hQ l l' w (hP _ _ _ _ hp) (hQ _ _ _ _ hv) h
    ·cases h
theorem prsL_her {P Q:Tm->Prop} (hP:Her P) (hQ:Her Q): ∀ (l l':List Tm) (w:Wn),(∀ x∈l,P x)->(∀ x∈l',Q x)->Tm.prsL l l'=some w->(∀ x∈w.1,Q x.2)/\ ∀ y∈w.2,P y.1/\Q y.2
 | [],[],w,hp,hv,h=>by
  simp only[Tm.prsL] at h
  cases h
  exact⟨fun x hx=>(by cases hx),fun y hy=>(by cases hy)⟩
 | a::l,b::m,w,hp,hv,h=>by
  simp only[Tm.prsL] at h
  obtain⟨u,v,h1,h2,rfl⟩:=wJ_some h
  obtain⟨q1,q2⟩:=prs_her hP hQ a b u (hp a (List.mem_cons_self ..)) (hv b (List.mem_cons_self ..)) h1
  obtain⟨q3,q4⟩:=prsL_her hP hQ l m v (fun x hx=>hp x (List.mem_cons_of_mem _ hx)) (fun x hx=>hv x (List.mem_cons_of_mem _ hx)) h2
  exact⟨fun x hx=>(List.mem_append.1 hx).elim (q1 x) (q3 x),fun x hx=>(List.mem_append.1 hx).elim (q2 x) (q4 x)⟩
 | [],_::_,w,hp,hv,h=>by simp only[Tm.prsL] at h; cases h
 | _::_,[],w,hp,hv,h=>by simp only[Tm.prsL] at h; cases h
end
mutual
theorem prs_cnt: ∀ (p v:Tm) (w:Wn),p.prs v=some w->w.1.length+w.2.length<=p.cnt
 | .mk k n s l,.mk k' n' s' l',w,h=>by
  simp only[Tm.prs] at h
  simp only[Tm.cnt]
  split at h
  ·cases h; simp
  ·split at h
   ·cases h; simp
   ·split at h
    ·have:=prsL_cnt l l' w h; omega
    ·cases h
theorem prsL_cnt: ∀ (l l':List Tm) (w:Wn),Tm.prsL l l'=some w->w.1.length+w.2.length<=Tm.cntL l
 | [],[],w,h=>by
  simp only[Tm.prsL] at h
  cases h
  simp
 | a::l,b::m,w,h=>by
  simp only[Tm.prsL] at h
  obtain⟨u,v,h1,h2,rfl⟩:=wJ_some h
  have q1:=prs_cnt a b u h1
  have q2:=prsL_cnt l m v h2
  simp only[Tm.cntL,List.length_append]
  omega
 | [],_::_,w,h=>by simp only[Tm.prsL] at h; cases h
 | _::_,[],w,h=>by simp only[Tm.prsL] at h; cases h
end
theorem prsL_len: ∀ (l l':List Tm) (w:Wn),Tm.prsL l l'=some w->l.length=l'.length
 | [],[],w,h=>rfl
 | a::l,b::m,w,h=>by
  simp only[Tm.prsL] at h
  obtain⟨u,v,h1,h2,rfl⟩:=wJ_some h
  have:=prsL_len l m v h2
  simp only[List.length_cons]
  omega
 | [],_::_,w,h=>by simp only[Tm.prsL] at h; cases h
 | _::_,[],w,h=>by simp only[Tm.prsL] at h; cases h
theorem bnd1_len {b c:List Bd} {s:List UInt8} {v:Tm} (h:bnd1 b s v=some c):c.length<=b.length+1/\ ∀ x∈c,x∈b\/x=⟨s,v⟩:=by
 unfold bnd1 at h
 split at h
 ·split at h
  ·cases h; exact⟨by omega,fun x hx=> .inl hx⟩
  ·cases h
 ·cases h
  refine⟨by rw[insB_len]; omega,fun x hx=> ?_⟩
  rcases insB_mem.1 hx with h | h
  ·exact .inr h
  ·exact .inl h
theorem bndA_len: ∀ {l:List (List UInt8 × Tm)} {b c:List Bd},bndA l b=some c->c.length<=b.length+l.length/\ ∀ x∈c,x∈b\/(x.n,x.v)∈l
 | [],b,c,h=>by
  simp only[bndA] at h
  cases h
  exact⟨Nat.le_refl _,fun x hx=> .inl hx⟩
 | y::l,b,c,h=>by
  simp only[bndA] at h
  split at h
  ·rename_i c1 h1
   obtain⟨q1,q2⟩:=bnd1_len h1
   obtain⟨q3,q4⟩:=bndA_len h
   refine⟨by simp only[List.length_cons]; omega,fun x hx=> ?_⟩
   rcases q4 x hx with h | h
   ·rcases q2 x h with h | h
    ·exact .inl h
    ·subst h; exact .inr (List.mem_cons_self ..)
   ·exact .inr (List.mem_cons_of_mem _ h)
  ·cases h
structure StB (N:Nat) (b:List Bd) (os:List (Tm × Tm)):Prop where
 srt:srtB b
 len:b.length+N<=1000000
 olen:os.length+N<=1000000
 wf: ∀ x∈b,x.v.wf 281474976710656/\x.v.few 1000/\x.v.depth<=100000000
 owf: ∀ y∈os,(y.1.wf 281474976710656/\y.1.few 1000/\y.1.depth<=100000000)/\(y.2.wf 281474976710656/\y.2.few 1000/\y.2.depth<=100000000)
abbrev TmB (x:Tm):Prop:=x.wf 281474976710656/\x.few 1000/\x.depth<=100000000
theorem her_tmB:Her TmB:=her_and (her_wf _) (her_and (her_few _) (her_depth _))
theorem StB.mono {M N:Nat} {b:List Bd} {os:List (Tm × Tm)} (h:StB M b os) (hN:N<=M):StB N b os:=⟨h.srt,by have:=h.len; omega,by have:=h.olen; omega,h.wf,h.owf⟩
theorem oA_some {q:Option Wn} {b:List Bd} {os:List (Tm × Tm)} {r:List Bd × List (Tm × Tm)} (h:oA q b os=some r): ∃ w,q=some w/\bndA w.1 b=some r.1/\r.2=os++w.2:=by
 cases q with
 | none=>simp only[oA] at h; cases h
 | some x =>
  simp only[oA] at h
  split at h
  ·cases h
  ·rename_i c hc
   cases h
   exact⟨x,rfl,hc,rfl⟩
theorem oA_stB {p:Tm} {v:Tm} {N:Nat} {b:List Bd} {os:List (Tm × Tm)} {r:List Bd × List (Tm × Tm)} (hp:TmB p) (hv:TmB v) (h:StB (p.cnt+N) b os) (hr:oA (p.prs v) b os=some r):StB N r.1 r.2:=by
 obtain⟨w,h1,h2,h3⟩:=oA_some hr
 obtain⟨q1,q2⟩:=prs_her her_tmB her_tmB p v w hp hv h1
 have q3:=prs_cnt p v w h1
 obtain⟨q4,q5⟩:=bndA_len h2
 have e1:=h.len
 have e2:=h.olen
 refine⟨((bndA_iff h.srt).1 h2).srt,by omega,by rw[h3,List.length_append]; omega,fun x hx=> ?_,fun y hy=> ?_⟩
 ·rcases q5 x hx with hx | hx
  ·exact h.wf x hx
  ·exact q1 _ hx
 ·rw[h3] at hy
  rcases List.mem_append.1 hy with hy | hy
  ·exact h.owf y hy
  ·exact q2 y hy
theorem oA_stBL {l l':List Tm} {N:Nat} {b:List Bd} {os:List (Tm × Tm)} {r:List Bd × List (Tm × Tm)} (hp: ∀ x∈l,TmB x) (hv: ∀ x∈l',TmB x) (h:StB (Tm.cntL l+N) b os) (hr:oA (Tm.prsL l l') b os=some r):StB N r.1 r.2:=by
 obtain⟨w,h1,h2,h3⟩:=oA_some hr
 obtain⟨q1,q2⟩:=prsL_her her_tmB her_tmB l l' w hp hv h1
 have q3:=prsL_cnt l l' w h1
 obtain⟨q4,q5⟩:=bndA_len h2
 have e1:=h.len
 have e2:=h.olen
 refine⟨((bndA_iff h.srt).1 h2).srt,by omega,by rw[h3,List.length_append]; omega,fun x hx=> ?_,fun y hy=> ?_⟩
 ·rcases q5 x hx with hx | hx
  ·exact h.wf x hx
  ·exact q1 _ hx
 ·rw[h3] at hy
  rcases List.mem_append.1 hy with hy | hy
  ·exact h.owf y hy
  ·exact q2 y hy
mutual
theorem sz_cnt: ∀ (x:Tm) (m:Int),x.sz m<=m->(x.cnt:Int)<=x.sz m
 | .mk k n s l,m,h=>by
  simp only[Tm.sz] at h ⊢
  have:=szL_cnt l (m-1) 0 (by omega)
  simp only[Tm.cnt]
  omega
theorem szL_cnt: ∀ (l:List Tm) (m n:Int),Tm.szL l m n<=m->n+(Tm.cntL l:Int)<=Tm.szL l m n
 | [],m,n,h=>by simp only[Tm.szL,Tm.cntL]; omega
 | a::r,m,n,h=>by
  simp only[Tm.szL] at h ⊢
  split at h
  ·rename_i hn
   rw[if_pos hn]
   have g:=szL_ge r m (n+a.sz (m-n))
   have h1:=sz_cnt a (m-n) (by omega)
   have h2:=szL_cnt r m (n+a.sz (m-n)) h
   simp only[Tm.cntL]
   omega
  ·omega
end
mutual
theorem ap_depth {b:List Bd} {N:Nat} (hb: ∀ x∈b,x.v.depth<=N): ∀ t:Tm,(t.ap b).depth<=t.depth+N
 | .mk k n s l=>by
  have hl:=apL_depth hb l
  have hk:(Tm.mk k n s (Tm.apL b l)).depth<=(Tm.mk k n s l).depth+N:=by
   simp only[Tm.depth]
   omega
  rw[Tm.ap]
  rw[apK]
  split
  ·cases hq:getB b s with
   | none=>exact hk
   | some v =>
    have h1:v.depth<=N:=hb _ (getB_some hq)
    show v.depth<=_
    omega
  ·exact hk
theorem apL_depth {b:List Bd} {N:Nat} (hb: ∀ x∈b,x.v.depth<=N): ∀ l:List Tm,Tm.depthL (Tm.apL b l)<=Tm.depthL l+N
 | []=>Nat.zero_le _
 | a::r=>by
  have h1:=ap_depth hb a
  have h2:=apL_depth hb r
  show Nat.max (a.ap b).depth (Tm.depthL (Tm.apL b r))<=Nat.max a.depth (Tm.depthL r)+N
  have e1:Nat.max (a.ap b).depth (Tm.depthL (Tm.apL b r))=max (a.ap b).depth (Tm.depthL (Tm.apL b r)):=rfl
  have e2:Nat.max a.depth (Tm.depthL r)=max a.depth (Tm.depthL r):=rfl
  rw[e1,e2]
  omega
end
end Go.Sx
/- THE COUNT OF DRAWS NEVER FALLS: over whatever steps of the machine. -/
namespace Go.Sx.Dr
open Go
def Res.w {α:Type}:Result α->World
 | .ok _ w=>w
 | .halt _ w=>w
theorem ask_le {α:Type}: ∀ (a:Ask α) (w:World),w.drawn<=(w.ask a).2.drawn:=by
 intro a
 induction a with
 | done a=>exact fun w=>Nat.le_refl _
 | ask what range k ih =>
  intro w
  simp only[World.ask]
  split
  ·exact ih _ w
  ·exact Nat.le_trans (Nat.le_succ _) (ih _ { w with drawn:=w.drawn+1 })
theorem sys_le (w:World) (c:Sys):w.drawn<=(w.sys c).2.drawn:=by
 unfold World.sys
 have h:=ask_le (Kernel.perform c w.os) w
 split
 ·exact Nat.le_refl _
 ·rename_i h1 h2
  rw[h2] at h; exact h
theorem view_eq {p:Program} {w:World} {a:Addr} {u:TypeId} {k:Addr} {v:Value} {b:Bool} {r:World × List Addr} (h:w.viewStore p a u k v b= .ok r):r.1.drawn=w.drawn:=by
 unfold World.viewStore at h
 simp only[bind,Except.bind,pure,Except.pure] at h
 repeat' split at h
 all_goals first
  | (cases h; done)
  | (cases h; rfl)
theorem far_eq {p:Program} {w:World} {a:Addr} {v:Value} {b:Bool} {r:World × List Addr} (h:w.farStore p a v b= .ok r):r.1.drawn=w.drawn:=by
 unfold World.farStore at h
 split at h
 ·split at h
  ·rename_i hv; cases h; exact view_eq hv
  ·cases h
 ·cases h
theorem freeze_eq (w:World) (a:Addr) (n:Nat):(w.freeze a n).drawn=w.drawn:=by
 unfold World.freeze
 repeat' split
 all_goals rfl
theorem run_le {α:Type} (p:Program): ∀ (s:Sem α) (w:World),w.drawn<=(Res.w (s.run p w)).drawn:=by
 intro s
 induction s with
 | pure a=>exact fun w=>Nat.le_refl _
 | load m a k ih =>
  intro w
  simp only[Sem.run]
  split
  ·exact ih _ w
  ·split
   ·exact ih _ w
   ·exact Nat.le_refl _
 | store m a v k ih =>
  intro w
  cases v <;> simp only[Sem.run] <;> (repeat' split) <;> first
   | exact Nat.le_refl _
   | exact ih (w.setCell a _)
   | (rename_i h; exact Nat.le_trans (Nat.le_of_eq (far_eq h).symm) (ih _))
 | new o k ih=>exact fun w=>ih _ { w with heap:=w.heap.push o }
 | shape r k ih=>exact fun w=>ih _ w
 | freeze a n k ih=>exact fun w=>Nat.le_trans (Nat.le_of_eq (freeze_eq w a n).symm) (ih _)
 | frozen a k ih=>exact fun w=>ih _ w
 | getObj r k ih =>
  intro w
  simp only[Sem.run]
  repeat' split
  all_goals first
   | exact Nat.le_refl _
   | exact ih _ w
 | setObj r o k ih =>
  intro w
  simp only[Sem.run]
  repeat' split
  all_goals first
   | exact Nat.le_refl _
   | exact ih { w with heap:=w.heap.setIfInBounds r o }
 | choose q k ih =>
  intro w
  simp only[Sem.run]
  split
  ·exact ih _ w
  ·exact Nat.le_trans (Nat.le_succ _) (ih _ { w with drawn:=w.drawn+1 })
 | sys c k ih=>exact fun w=>Nat.le_trans (sys_le w c) (ih _ _)
 | program k ih=>exact fun w=>ih _ w
 | mark m k ih=>exact fun w=>ih w
 | halt h=>exact fun w=>Nat.le_refl _
theorem runT_le {α:Type} (p:Program): ∀ (s:Sem α) (w:World) (es:Array Event),w.drawn<=(Res.w (s.runT p w es).1).drawn:=by
 intro s
 induction s with
 | pure a=>exact fun w _=>Nat.le_refl _
 | load m a k ih =>
  intro w es
  simp only[Sem.runT]
  split
  ·exact ih _ w _
  ·split
   ·exact ih _ w _
   ·exact Nat.le_refl _
 | store m a v k ih =>
  intro w es
  cases v <;> simp only[Sem.runT] <;> (repeat' split) <;> first
   | exact Nat.le_refl _
   | exact ih (w.setCell a _) _
   | (rename_i h; exact Nat.le_trans (Nat.le_of_eq (far_eq h).symm) (ih _ _))
 | new o k ih=>exact fun w es=>ih _ { w with heap:=w.heap.push o } es
 | shape r k ih=>exact fun w es=>ih _ w es
 | freeze a n k ih=>exact fun w es=>Nat.le_trans (Nat.le_of_eq (freeze_eq w a n).symm) (ih _ es)
 | frozen a k ih=>exact fun w es=>ih _ w es
 | getObj r k ih =>
  intro w es
  simp only[Sem.runT]
  repeat' split
  all_goals first
   | exact Nat.le_refl _
   | exact ih _ w _
 | setObj r o k ih =>
  intro w es
  simp only[Sem.runT]
  repeat' split
  all_goals first
   | exact Nat.le_refl _
   | exact ih { w with heap:=w.heap.setIfInBounds r o } _
 | choose q k ih =>
  intro w es
  simp only[Sem.runT]
  split
  ·exact ih _ w es
  ·exact Nat.le_trans (Nat.le_succ _) (ih _ { w with drawn:=w.drawn+1 } es)
 | sys c k ih=>exact fun w es=>Nat.le_trans (sys_le w c) (ih _ _ _)
 | program k ih=>exact fun w es=>ih _ w es
 | mark m k ih=>exact fun w es=>ih w _
 | halt h=>exact fun w es=>Nat.le_refl _
def Gok (d:Nat):GStep->Prop
 | .go _ w _=>d<=w.drawn
 | .comm _ _ _ _ w _=>d<=w.drawn
 | .spawn _ _ w _=>d<=w.drawn
 | .count _ w _=>d<=w.drawn
 | .timer _ _ w _=>d<=w.drawn
 | .alone _ _ w _=>d<=w.drawn
 | .newcoro _ _ _ w _=>d<=w.drawn
 | .coroswitch _ _ _ w _=>d<=w.drawn
 | .collect _ w _=>d<=w.drawn
 | .watch _ w _=>d<=w.drawn
 | .ended .. => True
theorem gok_after {d:Nat} {es:Array Event} {s:GStep} (h:Gok d s):Gok d (s.after es):=by cases s <;> exact h
theorem gok_le {d e:Nat} {s:GStep} (h:Gok d s) (he:e<=d):Gok e s:=by
 cases s <;> first | exact Nat.le_trans he h | trivial
theorem end_ok {d:Nat} (w:World) (fd:Nat) (t:ByteArray) (o:Outcome):Gok d (endWith w fd t o):=by
 unfold endWith
 simp only
 repeat' split
 all_goals trivial
theorem throw_ok (fr:Frame) (m:String) (w:World):Gok w.drawn (endThrow fr m w):=Nat.le_refl _
theorem print_ok (p:Program) (fr:Frame) (v:Value) (w:World):Gok w.drawn (endPrinting p fr v w):=by
 unfold endPrinting
 simp only
 split
 ·exact Nat.le_refl _
 ·trivial
theorem fatal_ok (p:Program) (fr:Frame) (cs:List Frame) (dy:Option Dying) (m:String) (w:World):Gok w.drawn (endFatal p fr cs dy m w):=by
 unfold endFatal
 simp only
 split
 ·rename_i h
  have:=congrArg (fun r=>(Res.w r).drawn) h
  exact Nat.le_trans (run_le p _ w) (Nat.le_of_eq this)
 ·trivial
 ·trivial
theorem gite {d:Nat} {c:Prop} [Decidable c] {a b:GStep} (ha:Gok d a) (hb:Gok d b):Gok d (if c then a else b):=by split <;> assumption
theorem pair {α:Type} (p:Program) (s:Sem α) (w:World) (es:Array Event): ∃ r es',s.runT p w es=(r,es')/\w.drawn<=(Res.w r).drawn :=
 ⟨_,_,rfl,runT_le p s w es⟩
theorem one {α:Type} (p:Program) (s:Sem α) (w:World): ∃ r,s.run p w=r/\w.drawn<=(Res.w r).drawn:=⟨_,rfl,run_le p s w⟩
theorem gthrow {d:Nat} {fr:Frame} {m:String} {w:World} (h:d<=w.drawn):Gok d (endThrow fr m w):=gok_le (throw_ok fr m w) h
theorem gfatal {d:Nat} {p:Program} {fr:Frame} {cs:List Frame} {dy:Option Dying} {m:String} {w:World} (h:d<=w.drawn):Gok d (endFatal p fr cs dy m w):=gok_le (fatal_ok p fr cs dy m w) h
theorem gprint {d:Nat} {p:Program} {fr:Frame} {v:Value} {w:World} (h:d<=w.drawn):Gok d (endPrinting p fr v w):=gok_le (print_ok p fr v w) h
theorem write_ok (p:Program) (fr:Frame) (d:Dying) (f:Fatal) (w:World):Gok w.drawn (writeOn p fr d f w):=by
 unfold writeOn
 simp only
 split
 ·trivial
 ·split
  ·rename_i h
   exact Nat.le_trans (runT_le p _ w #[]) (Nat.le_of_eq (congrArg (fun r=>(Res.w r.1).drawn) h))
  ·rename_i h
   exact Nat.le_trans (runT_le p _ w #[]) (Nat.le_of_eq (congrArg (fun r=>(Res.w r.1).drawn) h))
  ·trivial
  ·trivial
theorem die_ok (p:Program) (fr:Frame) (d:Dying) (w:World):Gok w.drawn (die p fr d w):=by
 unfold die
 split
 ·exact write_ok _ _ _ _ _
 ·split
  ·split
   ·exact Nat.le_refl _
   ·exact end_ok _ _ _ _
  ·simp only
   split
   ·exact Nat.le_refl _
   ·split
    ·rename_i h
     exact Nat.le_trans (run_le p _ w) (Nat.le_of_eq (congrArg (fun r=>(Res.w r).drawn) h))
    ·trivial
   ·rename_i t recv name _
    obtain⟨r,es',hr,hle⟩:=pair p (invoke (.fn (.method name) #[]) #[.iface t recv]) w #[]
    rw[hr]
    refine gok_after ?_
    try simp only
    split <;> first | exact hle | trivial | exact gprint hle
   ·trivial
theorem ret_ok (p:Program) (main:Bool) (fr:Frame) (cs:List Frame) (dy:Option Dying) (v:Value) (w:World):Gok w.drawn (doReturn p main fr cs dy v w):=by
 unfold doReturn
 simp only
 repeat' split
 all_goals first | exact Nat.le_refl _ | trivial
theorem gret {d:Nat} {p:Program} {main:Bool} {fr:Frame} {cs:List Frame} {dy:Option Dying} {v:Value} {w:World} (h:d<=w.drawn):Gok d (doReturn p main fr cs dy v w):=gok_le (ret_ok ..) h
theorem defer_ok (p:Program) (fr:Frame) (cs:List Frame) (dy:Option Dying) (d:Deferred) (w:World):Gok w.drawn (callDeferred p fr cs dy d w):=by
 unfold callDeferred
 refine gite ?_ ?_
 ·trivial
 ·obtain⟨r,es',hr,hle⟩:=pair p (invoke d.target d.args) w #[]
  rw[hr]
  refine gok_after ?_
  try simp only
  split <;> first | exact hle | trivial | exact gthrow hle | exact gfatal hle | (split <;> exact hle)
theorem unwind_ok (p:Program) (main:Bool) (fr:Frame) (cs:List Frame) (dy:Option Dying) (w:World):Gok w.drawn (unwind p main fr cs dy w):=by
 unfold unwind
 split
 ·rename_i block _ ds _
  obtain⟨r,es',hr,hle⟩:=pair p (Instr.takeDeferred block) w #[]
  rw[hr]
  refine gok_after ?_
  try simp only
  split
  ·exact hle
  ·trivial
 ·exact defer_ok _ _ _ _ _ _
 ·split
  ·trivial
  ·split
   ·trivial
   ·split
    ·exact Nat.le_refl _
    ·split
     ·split
      ·exact Nat.le_refl _
      ·split
       ·rename_i h
        exact Nat.le_trans (run_le p _ w) (Nat.le_of_eq (congrArg (fun r=>(Res.w r).drawn) h))
       ·trivial
       ·trivial
     ·split
      ·exact print_ok _ _ _ _
      ·trivial
  ·split
   ·exact ret_ok ..
   ·rename_i fn _
    obtain⟨r,es',hr,hle⟩:=pair p (results fn fr.tmps) w #[]
    rw[hr]
    refine gok_after ?_
    try simp only
    split
    ·exact gret hle
    ·trivial
    ·trivial
theorem early_ok (p:Program) (fr:Frame) (cs:List Frame) (dy:Option Dying) (g:Nat) (w:World):Gok w.drawn (early p fr cs dy g w):=by
 have nyet: ∀ (w':World) (e1:String),w.drawn<=w'.drawn->Gok w.drawn (match w'.heap[g]? with
  | some (.pending c elem)=> .go { frame:=fr,callers:=cs,status:= .running,dying:=dy } { w' with heap:=w'.heap.setIfInBounds g (.cells c elem) }
  | _=> .ended (.stuck e1 (fr.pos p)) w'):=fun w' e1 h=>by
  split
  ·exact h
  ·trivial
 unfold early
 simp only
 split
 ·exact nyet w _ (Nat.le_refl _)
 ·split
  ·trivial
  ·split
   ·exact nyet w _ (Nat.le_refl _)
   ·split
    ·exact nyet w _ (Nat.le_refl _)
    ·split
     ·trivial
     ·exact Nat.le_refl _
     ·trivial
     ·exact nyet w _ (Nat.le_refl _)
     ·split
      ·exact Nat.le_refl _
      ·split
       ·exact nyet w _ (Nat.le_refl _)
       ·split
        ·rename_i h
         exact nyet _ _ (Nat.le_trans (run_le p _ w) (Nat.le_of_eq (congrArg (fun r=>(Res.w r).drawn) h)))
        ·rename_i h
         exact Nat.le_trans (run_le p _ w) (Nat.le_of_eq (congrArg (fun r=>(Res.w r).drawn) h))
        ·trivial
theorem gearly {d:Nat} {p:Program} {fr:Frame} {cs:List Frame} {dy:Option Dying} {g:Nat} {w:World} (h:d<=w.drawn):Gok d (early p fr cs dy g w):=gok_le (early_ok ..) h
theorem apply_ok (p:Program) (listen:Bool) (fr:Frame) (cs:List Frame) (dy:Option Dying) (s:Sem Next) (w:World):Gok w.drawn (stepG.apply p listen fr cs dy s w):=by
 unfold stepG.apply
 simp only
 have hle:w.drawn<=(Res.w (if listen=true then s.runT p w #[] else (s.run p w, #[])).1).drawn:=by
  split
  ·exact runT_le p s w #[]
  ·exact run_le p s w
 generalize (if listen=true then s.runT p w #[] else (s.run p w, #[]))=q at hle ⊢
 obtain⟨r,es⟩:=q
 refine gok_after ?_
 simp only at hle ⊢
 split <;> first
  | exact hle
  | trivial
  | exact gthrow hle
  | exact gfatal hle
  | exact gearly hle
  | exact gite (gthrow hle) hle
  | (split <;> first | exact hle | exact gthrow hle)
theorem oper_ok (p:Program) (listen:Bool) (fr:Frame) (cs:List Frame) (dy:Option Dying) (w:World):Gok w.drawn (stepG.oper p listen fr cs dy w):=by
 unfold stepG.oper
 split
 ·trivial
 ·split <;> exact apply_ok ..
theorem gapply {d:Nat} {p:Program} {listen:Bool} {fr:Frame} {cs:List Frame} {dy:Option Dying} {s:Sem Next} {w:World} (h:d<=w.drawn):Gok d (stepG.apply p listen fr cs dy s w):=gok_le (apply_ok ..) h
theorem exec_ok (p:Program) (main listen:Bool) (fr:Frame) (cs:List Frame) (dy:Option Dying) (w:World):Gok w.drawn (stepG.exec p main listen fr cs dy w):=by
 have leave: ∀ (jump:Option Code) (e1 e2:String),Gok w.drawn (match fr.roundOf with
   | none=>if (match jump with | none | some .ret=>true | _=>false)=true then GStep.go { frame:={ fr with mode:= .returning },callers:=cs,status:= .running,dying:=dy } w else .ended (.stuck e1 (fr.pos p)) w
   | some l =>
    match (Instr.endRound l jump).runT p w #[] with
    | (r,es)=>GStep.after (seen p fr.fn es) (match r with
     | .ok v w=>doReturn p main fr cs dy v w
     | .halt _ w=> .ended (.stuck e2 (fr.pos p)) w)):=fun jump e1 e2=>by
  split
  ·exact gite (Nat.le_refl _) trivial
  ·rename_i l _
   obtain⟨r,es',hr,hle⟩:=pair p (Instr.endRound l jump) w #[]
   rw[hr]
   refine gok_after ?_
   try simp only
   split
   ·exact gret hle
   ·trivial
 have eli: ∀ (o:Option (List Item)) (j:Code) (f:List Item->GStep),(∀ k,Gok w.drawn (f k))-> ∀ g,Gok w.drawn g->Gok w.drawn (o.elim g f):=fun o j f hf g hg=>by
  cases o
  ·exact hg
  ·exact hf _
 unfold stepG.exec
 simp only
 split
 ·exact leave none "" _
 ·exact leave (some .ret) "" _
 all_goals try exact Nat.le_refl _
 all_goals try trivial
 all_goals try exact apply_ok ..
 ·split
  ·exact Nat.le_refl _
  ·trivial
 ·rename_i id k _
  exact eli _ .skip _ (fun _=>Nat.le_refl _) _ (leave (some (.exit id)) _ _)
 ·rename_i id k _
  exact eli _ .skip _ (fun _=>Nat.le_refl _) _ (leave (some (.goto id)) _ _)
 ·rename_i f ps asg body k _
  obtain⟨r,es',hr,hle⟩:=pair p (Instr.enterLoop fr.fn fr.tmps ps asg body fr.roundOf) w #[]
  rw[hr]
  refine gok_after ?_
  try simp only
  split
  ·exact gapply hle
  ·trivial
 ·rename_i l k _
  obtain⟨r,es',hr,hle⟩:=pair p (Instr.endLoop l) w #[]
  rw[hr]
  refine gok_after ?_
  try simp only
  split
  ·exact hle
  ·exact hle
  ·trivial
 ·rename_i row args _ _
  cases Extern.next row
  ·trivial
  ·exact apply_ok ..
 ·split
  ·exact Nat.le_refl _
  ·split
   ·rename_i h
    exact Nat.le_trans (run_le p _ w) (Nat.le_of_eq (congrArg (fun r=>(Res.w r).drawn) h))
   ·trivial
 ·refine gite (oper_ok ..) (Nat.le_refl _)
theorem stepG_ok (p:Program) (main:Bool) (g:Goroutine) (w:World) (listen:Bool):Gok w.drawn (stepG p main g w listen):=by
 unfold stepG
 split
 try simp only
 split
 ·exact die_ok ..
 ·exact exec_ok ..
 ·exact unwind_ok ..
def Sok (d:Nat):Stepped->Prop
 | .next m=>d<=m.world.drawn
 | .ended .. => True
theorem sok_le {d e:Nat} {s:Stepped} (h:Sok d s) (he:e<=d):Sok e s:=by
 cases s
 ·exact Nat.le_trans he h
 ·trivial
theorem look_ok (p:Program) (gs:Array Goroutine) (rest:Rest) (w:World):Sok w.drawn (look p gs rest w):=by
 unfold look
 split
 ·simp only
  split
  ·trivial
  ·split
   ·trivial
   ·split
    ·rename_i h
     exact Nat.le_trans (run_le p _ w) (Nat.le_of_eq (congrArg (fun r=>(Res.w r).drawn) h))
    ·trivial
    ·trivial
 ·trivial
theorem wait_ok {rest:Rest} {cases:Array CommCase} {w w':World} (h:waitingAt rest cases w=some w'):w'.drawn=w.drawn:=by
 unfold waitingAt at h
 split at h
 ·split at h
  ·cases h; rfl
  ·cases h
 ·cases h; rfl
theorem comm_ok (p:Program) (rest:Rest) (gs:Array Goroutine) (i:Nat) (g:Goroutine) (cases:Array CommCase) (blocking:Bool) (shape:CommShape) (w:World):Sok w.drawn (communicate p rest gs i g cases blocking shape w).1:=by
 unfold communicate
 simp only
 split
 ·trivial
 ·split
  ·split
   ·split
    ·rename_i h; exact Nat.le_of_eq (wait_ok h).symm
    ·trivial
   ·exact Nat.le_refl _
  ·split
   ·trivial
   ·rename_i h
    have hle:=Nat.le_trans (run_le p _ w) (Nat.le_of_eq (congrArg (fun r=>(Res.w r).drawn) h))
    simp only[Res.w] at hle
    split
    ·split
     ·rename_i h2
      exact Nat.le_trans hle (Nat.le_trans (run_le p _ _) (Nat.le_of_eq (congrArg (fun r=>(Res.w r).drawn) h2)))
     ·trivial
    ·exact hle
    ·exact hle
    ·split
     ·exact hle
     ·split
      ·rename_i h2
       exact Nat.le_trans hle (Nat.le_trans (run_le p _ _) (Nat.le_of_eq (congrArg (fun r=>(Res.w r).drawn) h2)))
      ·trivial
    ·exact hle
    ·exact hle
    ·trivial
theorem serve_ok (p:Program) (m:Machine) (k:Nat):Sok m.world.drawn (serve p m k):=by
 unfold serve
 split
 ·trivial
 ·exact Nat.le_refl _
 ·simp only
  split
  ·trivial
  ·exact Nat.le_refl _
theorem drain_eq (w:World) (c:Nat):(drain w c).2.drawn=w.drawn:=by
 unfold drain
 split <;> rfl
theorem retime_eq (m:Machine) (k:Nat) (t:Timer) (a b:Nat):(retime m k t a b).2.world.drawn=m.world.drawn:=by
 unfold retime
 simp only
 split
 ·exact drain_eq _ _
 ·rfl
theorem opened_eq {m m':Machine} {a:Addr} (h:timerOp.opened m a=some m'):m'.world.drawn=m.world.drawn:=by
 unfold timerOp.opened at h
 split at h
 ·split at h
  ·cases h; rfl
  ·cases h
 ·cases h; rfl
theorem named_eq {m:Machine} {a:Addr} {f:Nat->Timer->Value × Machine} {d:Nat} (hf: ∀ k t,(f k t).2.world.drawn=d) {r:Value × Machine} (h:timerOp.named m a f= .ok r):r.2.world.drawn=d:=by
 unfold timerOp.named at h
 split at h
 ·cases h; exact hf _ _
 ·cases h
theorem timer_eq {m:Machine} {op:TimerOp} {r:Value × Machine} (h:timerOp m op= .ok r):r.2.world.drawn=m.world.drawn:=by
 unfold timerOp at h
 split at h
 ·split at h
  ·cases h; rfl
  ·split at h
   ·split at h
    ·cases h
    ·cases h; rfl
   ·cases h
 ·exact named_eq (fun k t=>retime_eq ..) h
 ·split at h
  ·rename_i ho
   exact named_eq (fun k t=>(retime_eq ..).trans (opened_eq ho)) h
  ·cases h
 ·cases h; rfl
theorem mrun_ok (p:Program) (m:Machine) (i:Nat) (listen:Bool):Sok m.world.drawn (runT p m i listen).1:=by
 unfold runT
 simp only
 have h:=stepG_ok p (i == 0) (m.gs.swapAt! i { (default:Goroutine) with status:= .finished }).1 m.world listen
 generalize stepG p (i == 0) (m.gs.swapAt! i { (default:Goroutine) with status:= .finished }).1 m.world listen=s at h ⊢
 cases s with
 | ended o w es=>trivial
 | comm g cases b sh w es=>exact sok_le (comm_ok ..) h
 | go g w es=>exact h
 | spawn g c w es=>exact h
 | count g w es =>
  simp only
  split
  ·trivial
  ·exact h
 | alone g on w es=>exact h
 | collect g w es=>exact sok_le (look_ok ..) h
 | watch g w es=>exact h
 | newcoro g c d w es=>exact h
 | coroswitch g c ex w es =>
  simp only
  split
  ·exact h
  ·split
   ·rename_i h2
    unfold endThrow dieOf at h2
    cases h2
    exact h
   ·trivial
  ·trivial
 | timer g op w es =>
  simp only
  split
  ·rename_i h2
   exact Nat.le_trans h (Nat.le_of_eq (timer_eq h2).symm)
  ·split
   ·rename_i h2
    unfold endThrow dieOf at h2
    cases h2
    exact h
   ·trivial
  ·trivial
  ·trivial
def Mok (d:Nat):Move->Prop
 | .goroutine m _=>d<=m.world.drawn
 | .machine s _=>Sok d s
theorem mok_le {d e:Nat} {s:Move} (h:Mok d s) (he:e<=d):Mok e s:=by
 cases s
 ·exact Nat.le_trans he h
 ·exact sok_le h he
theorem askOn_ok (p:Program) (m:Machine):Mok m.world.drawn (askOn p m):=by
 unfold askOn
 simp only
 split
 ·trivial
 ·rename_i h1
  have h1:=Nat.le_trans (run_le p _ _) (Nat.le_of_eq (congrArg (fun r=>(Res.w r).drawn) h1))
  simp only[Res.w] at h1
  split
  ·exact sok_le (serve_ok ..) h1
  ·split
   ·split
    ·exact h1
    ·split
     ·exact h1
     ·split
      ·trivial
      ·trivial
   ·split
    ·split
     ·trivial
     ·rename_i h8
      have h8:=Nat.le_trans h1 (Nat.le_trans (run_le p _ _) (Nat.le_of_eq (congrArg (fun r=>(Res.w r).drawn) h8)))
      split
      ·exact h8
      ·split
       ·trivial
       ·rename_i h9
        exact Nat.le_trans h8 (Nat.le_trans (run_le p _ _) (Nat.le_of_eq (congrArg (fun r=>(Res.w r).drawn) h9)))
    ·split
     ·trivial
     ·rename_i h2
      have h2:=Nat.le_trans h1 (Nat.le_trans (run_le p _ _) (Nat.le_of_eq (congrArg (fun r=>(Res.w r).drawn) h2)))
      split
      ·trivial
      ·rename_i h8
       have h8:=Nat.le_trans h2 (Nat.le_trans (run_le p _ _) (Nat.le_of_eq (congrArg (fun r=>(Res.w r).drawn) h8)))
       split
       ·exact h8
       ·split
        ·trivial
        ·rename_i h9
         exact Nat.le_trans h8 (Nat.le_trans (run_le p _ _) (Nat.le_of_eq (congrArg (fun r=>(Res.w r).drawn) h9)))
     ·rename_i h2
      exact Nat.le_trans h1 (Nat.le_trans (run_le p _ _) (Nat.le_of_eq (congrArg (fun r=>(Res.w r).drawn) h2)))
     ·rename_i h2
      have h2:=Nat.le_trans h1 (Nat.le_trans (run_le p _ _) (Nat.le_of_eq (congrArg (fun r=>(Res.w r).drawn) h2)))
      split
      ·trivial
      ·rename_i h8
       have h8:=Nat.le_trans (m:=(Machine.world (Machine.advanceTo { m with world:=_ } _)).drawn) h2 (Nat.le_trans (run_le p _ _) (Nat.le_of_eq (congrArg (fun r=>(Res.w r).drawn) h8)))
       split
       ·exact h8
       ·split
        ·trivial
        ·rename_i h9
         exact Nat.le_trans h8 (Nat.le_trans (run_le p _ _) (Nat.le_of_eq (congrArg (fun r=>(Res.w r).drawn) h9)))
theorem ask_ok (p:Program) (m:Machine):Mok m.world.drawn (ask p m):=by
 unfold ask
 split
 ·split
  ·trivial
  ·rename_i world h1
   have h1:=Nat.le_trans (run_le p _ _) (Nat.le_of_eq (congrArg (fun r=>(Res.w r).drawn) h1))
   have h2:=look_ok p m.gs m.rest world
   split
   ·rename_i h3
    rw[h3] at h2
    exact mok_le (askOn_ok ..) (Nat.le_trans h1 h2)
   ·exact sok_le h2 h1
  ·rename_i h1
   have h1:=Nat.le_trans (run_le p _ _) (Nat.le_of_eq (congrArg (fun r=>(Res.w r).drawn) h1))
   exact mok_le (askOn_ok p { m with world:=_ }) h1
 ·exact askOn_ok ..
theorem move_ok (p:Program) (m:Machine):Mok m.world.drawn (move p m):=by
 unfold move
 split
 ·split
  ·exact Nat.le_refl _
  ·trivial
 ·split
  ·split
   ·exact Nat.le_refl _
   ·exact ask_ok p { m with rest:=_ }
  ·exact ask_ok ..
theorem step_le {p:Program} {m m':Machine} (h:step p m= .next m'):m.world.drawn<=m'.world.drawn:=by
 have h1:=move_ok p m
 unfold step stepT at h
 generalize move p m=mv at h h1
 cases mv with
 | goroutine m1 i =>
  have h2:=mrun_ok p m1 i true
  simp only at h
  rw[h] at h2
  exact Nat.le_trans h1 h2
 | machine s ops =>
  simp only at h
  subst h
  exact h1
theorem steps_le {p:Program} {m m':Machine} (h:Steps p m m'):m.world.drawn<=m'.world.drawn:=by
 obtain⟨n,hn⟩:=h
 induction n generalizing m with
 | zero=>simp only[runN,Stepped.next.injEq] at hn; subst hn; exact Nat.le_refl _
 | succ n ih =>
  simp only[runN] at hn
  cases hs:step p m with
  | next m1=>rw[hs] at hn; exact Nat.le_trans (step_le hs) (ih hn)
  | ended o w=>rw[hs] at hn; cases hn
theorem calls_le {P:Program} {f:FuncId} {args:Array Value} {w:World} {R:Ending->World->Prop} (h:Calls P f args w R) (hn: ∀ w',¬ R .outgrown w'):Calls P f args w fun e w'=>R e w'/\w.drawn<=w'.drawn:=fun cs=>by
 obtain⟨e,w',fr,hR,hc,h1,h2⟩:=h cs
 refine⟨e,w',fr,⟨hR, ?_⟩,hc,h1,h2⟩
 cases e with
 | returned v=>exact steps_le (m:=lone _ cs w) (m':=lone fr cs w') hc
 | panicked ch=>exact steps_le (m:=lone _ cs w) (m':=lone fr cs w') hc
 | outgrown=>exact absurd hR (hn _)
end Go.Sx.Dr
