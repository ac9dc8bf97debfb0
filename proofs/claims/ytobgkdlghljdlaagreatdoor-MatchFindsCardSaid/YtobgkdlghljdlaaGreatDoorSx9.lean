/- Own work: a layer over the kit: plain data,a walk over it,its soundness. -/
import Derived.Lib.Join
import Derived.Sort.OwnSorted
import Derived.Lib.SlicesCompact
import Derived.Calls
import Derived.CallsIn
import Derived.Test.YtobgkdlghljdlaaGreatDoorSx8
set_option linter.unusedSectionVars false
set_option linter.unusedVariables false
set_option linter.unusedSimpArgs false
set_option linter.deprecated false
/- MATCHING,PLAIN: what a pattern wants,and the expansions of the pattern with the binding applied. -/
namespace Go.Sx
theorem Z7S {α:Type} {r:List α} {x:List α} {ps:List (List α)}:r∈Zu (x::ps) ↔ ∃ a∈x, ∃ q∈Zu ps,r=a::q:=by
 rw[Qe]
 constructor
 ·rintro⟨h1,h2⟩
  cases r with
  | nil=>simp at h1
  | cons a q =>
   refine⟨a,h2 0 (by simp) (by simp),q,Qe.2 ⟨by simpa using h1,fun i h h'=> ?_⟩,rfl⟩
   have:=h2 (i+1) (by simpa using h) (by simpa using h')
   simpa using this
 ·rintro⟨a,ha,q,hq,rfl⟩
  obtain⟨h1,h2⟩:=Qe.1 hq
  refine⟨by simp[h1],fun i h h'=> ?_⟩
  cases i with
  | zero=>exact ha
  | succ i=>simpa using h2 i (by simpa using h) (by simpa using h')
theorem Z9j {α:Type} {r:List α}:r∈Zu ([]:List (List α)) ↔ r=[]:=by
 rw[Qe]
 exact⟨fun h=>by simpa using h.1,fun h=>by subst h; exact⟨rfl,fun i h=>by simp at h⟩⟩
theorem Zh6 {s:List UInt8} {ps:List (List Tm)} {L:List Tm} (h:fnX s ps=some L) {v:Tm}:v∈L ↔ ∃ r∈Zu ps,v= .mk 4 0 s r:=by
 unfold fnX at h
 split at h
 ·rename_i he
  cases h
  obtain⟨x,hx,hxe⟩:=List.any_eq_true.1 he
  refine⟨fun h=>by simp at h,fun ⟨r,hr,_⟩=> ?_⟩
  obtain⟨h1,h2⟩:=Qe.1 hr
  obtain⟨i,hi,rfl⟩:=List.getElem_of_mem hx
  have:=h2 i (by omega) hi
  rw[List.isEmpty_iff] at hxe
  rw[hxe] at this
  cases this
 ·split at h
  ·cases h
   rw[List.mem_map]
   exact⟨fun ⟨r,h1,h2⟩=>⟨r,h1,h2.symm⟩,fun ⟨r,h1,h2⟩=>⟨r,h1,h2.symm⟩⟩
  ·cases h
def Cnd (b:List Bd) (w:Wn):Prop:=(∀ x∈w.1,getB b x.1=some x.2)/\ ∀ y∈w.2, ∃ L,(y.1.ap b).xp=some L/\y.2∈L
theorem Z7b {b:List Bd} {x y:Wn}:Cnd b (x.1++y.1,x.2++y.2) ↔ Cnd b x/\Cnd b y:=by
 unfold Cnd
 simp only[List.mem_append]
 constructor
 ·rintro⟨h1,h2⟩
  exact⟨⟨fun z hz=>h1 z (.inl hz),fun z hz=>h2 z (.inl hz)⟩,fun z hz=>h1 z (.inr hz),fun z hz=>h2 z (.inr hz)⟩
 ·rintro⟨⟨h1,h2⟩,h3,h4⟩
  exact⟨fun z hz=>hz.elim (h1 z) (h3 z),fun z hz=>hz.elim (h2 z) (h4 z)⟩
def CndO (b:List Bd) (q:Option Wn):Prop:= ∃ w,q=some w/\Cnd b w
theorem Zat {b:List Bd} {x y:Option Wn}:CndO b (wJ x y) ↔ CndO b x/\CndO b y:=by
 cases x with
 | none=>exact⟨fun ⟨w,h,_⟩=>by simp[wJ] at h,fun ⟨⟨w,h,_⟩,_⟩=>by cases h⟩
 | some x =>
  cases y with
  | none=>exact⟨fun ⟨w,h,_⟩=>by simp[wJ] at h,fun ⟨_,⟨w,h,_⟩⟩=>by cases h⟩
  | some y =>
   constructor
   ·rintro⟨w,h,hc⟩
    cases h
    have:=Z7b.1 hc
    exact⟨⟨x,rfl,this.1⟩,y,rfl,this.2⟩
   ·rintro⟨⟨w1,e1,h1⟩,w2,e2,h2⟩
    cases e1; cases e2
    exact⟨_,rfl,Z7b.2 ⟨h1,h2⟩⟩
theorem Z7c (b:List Bd):CndO b (some ([],[])):=⟨_,rfl,⟨fun x h=>(by cases h),fun x h=>(by cases h)⟩⟩
theorem Zdj: ∀ v:Tm,v.all Tm.plain=true->v.all Tm.shape=true->v.xp=some [v]
 | .mk k n s l,hp0,hs0=>by
  have hp:=Zj.1 hp0
  have hs:=Zj.1 hs0
  rw[Tm.xp]
  split
  ·rename_i he
   rw[List.isEmpty_iff.1 he]
  ·rename_i he
   have hne:l≠[]:=fun e=>he (by rw[e]; rfl)
   have hlen:l.length≠0:=fun e=>hne (List.length_eq_zero_iff.1 e)
   have h1:=hp.1
   simp only[Tm.plain,Bool.or_eq_true,decide_eq_true_eq] at h1
   have hsh:=hs.1
   have hk:k=4/\n=0:=by
    rcases h1 with (rfl | rfl) | rfl
    ·simp only[Tm.shape,ZP] at hsh
     simp at hsh
     exact absurd hsh.2 hne
    ·simp only[Tm.shape,ZP] at hsh
     simp at hsh
     exact absurd hsh.2 hne
    ·simp only[Tm.shape,ZP] at hsh
     simp at hsh
     exact⟨rfl,hsh.1.1.1⟩
   obtain⟨rfl,rfl⟩:=hk
   have hL: ∀ q:List Tm,(∀ x∈q,x∈l)->Tm.xpL q=some (q.map fun x=>[x]):=by
    intro q
    induction q with
    | nil=>intro _; rfl
    | cons a r ih =>
     intro h
     have ha:=h a (List.mem_cons_self ..)
     rw[Tm.xpL,ih (fun x hx=>h x (List.mem_cons_of_mem _ hx)),Zdj a (hp.2 a ha) (hs.2 a ha)]
     rfl
   have hP: ∀ q:List Tm,Zu (q.map fun x=>[x])=[q]:=by
    intro q
    induction q with
    | nil=>rfl
    | cons a r ih=>simp[Zu,ih]
   rw[hL l (fun x h=>h)]
   unfold xpK fnX
   have hany:(l.map fun x=>[x]).any List.isEmpty=false:=by
    rw[List.any_eq_false]
    intro x hx
    obtain⟨y,_,rfl⟩:=List.mem_map.1 hx
    simp
   simp[hany,hP]
termination_by v=>SizeOf.sizeOf v
decreasing_by
 have:=List.sizeOf_lt_of_mem ha
 simp only[Tm.mk.sizeOf_spec]
 omega
theorem ZdE {b:List Bd} (hb: ∀ x∈b,x.v.value=true): ∀ (p:Tm) (L:List Tm) (v:Tm),p.all Tm.shape=true->(p.ap b).all Tm.gr=true->(p.ap b).xp=some L->(v∈L ↔ CndO b (p.prs v))
 | .mk k n s l,L,.mk k' n' s' l',hs0,hg0,h=>by
  have hs:=Zj.1 hs0
  by_cases h3:k=3
  ·subst h3
   rw[Tm.ap,apK,if_pos rfl] at h hg0
   rw[Tm.prs,if_pos rfl]
   cases hg:getB b s with
   | none =>
    rw[hg] at hg0
    have:=(Zj.1 hg0).1
    simp[Tm.gr] at this
   | some u =>
    rw[hg] at h
    simp only at h
    have hu:=hb _ (ZI hg)
    simp only[Tm.value,Tm.valid,Bool.and_eq_true] at hu
    rw[Zdj u hu.1 hu.2.2] at h
    cases h
    rw[List.mem_singleton]
    constructor
    ·intro e
     exact⟨_,rfl,fun x hx=>by rw[List.mem_singleton.1 hx]; exact hg.trans (by rw[e]),fun y hy=>by cases hy⟩
    ·rintro⟨w,e,h1,_⟩
     cases e
     have:=h1 _ (List.mem_singleton.2 rfl)
     rw[hg] at this
     exact (Option.some.inj this).symm
  ·by_cases h56:k=5\/k=6
   ·rw[Tm.prs,if_neg h3,if_pos h56]
    constructor
    ·intro hv
     exact⟨_,rfl,fun x hx=>(by cases hx),fun y hy=>by rw[List.mem_singleton.1 hy]; exact⟨L,h,hv⟩⟩
    ·rintro⟨w,e,_,h2⟩
     cases e
     obtain⟨L',h3,h4⟩:=h2 _ (List.mem_singleton.2 rfl)
     rw[h] at h3
     cases h3
     exact h4
   ·rw[Tm.prs,if_neg h3,if_neg h56]
    rw[Tm.ap,apK,if_neg h3,Z2F] at h hg0
    rw[Tm.xp] at h
    split at h
    ·rename_i he
     cases h
     have he:l=[]:=by simpa using he
     subst he
     rw[List.mem_singleton]
     constructor
     ·intro e
      cases e
      rw[if_pos ⟨rfl,rfl,rfl⟩]
      exact Z7c b
     ·rintro⟨w,h,_⟩
      split at h
      ·rename_i e
       obtain⟨rfl,rfl,rfl⟩:=e
       cases l' with
       | nil=>rfl
       | cons=>simp[Tm.prsL] at h
      ·cases h
    ·rename_i he
     have hne:l≠[]:=fun e=>he (by rw[e]; rfl)
     have hsh:=hs.1
     have hk:k=4/\n=0:=by
      simp only[Tm.shape,ZP] at hsh
      simp only[not_or] at h56
      by_cases h1:k=1
      ·subst h1; simp at hsh; exact absurd hsh.2 hne
      ·by_cases h2:k=2
       ·subst h2; simp at hsh; exact absurd hsh.2 hne
       ·by_cases h4:k=4
        ·subst h4; simp at hsh; exact⟨rfl,hsh.1.1.1⟩
        ·have e1: ¬ (k:Int)=1:=by omega
         have e2: ¬ (k:Int)=2:=by omega
         have e3: ¬ (k:Int)=3:=by omega
         have e4: ¬ (k:Int)=4:=by omega
         have e5: ¬ (k:Int)=5:=by omega
         have e6: ¬ (k:Int)=6:=by omega
         simp[e1,e2,e3,e4,e5,e6] at hsh
     obtain⟨rfl,rfl⟩:=hk
     have hg:=(Zj.1 hg0).2
     have hQ: ∀ (q:List Tm),(∀ x∈q,x∈l)-> ∀ (ps:List (List Tm)) (r:List Tm),Tm.xpL (q.map (Tm.ap b))=some ps->(r∈Zu ps ↔ CndO b (Tm.prsL q r)):=by
      intro q
      induction q with
      | nil =>
       intro _ ps r hx
       cases hx
       rw[Z9j]
       constructor
       ·intro e; subst e; exact Z7c b
       ·rintro⟨w,h,_⟩
        cases r with
        | nil=>rfl
        | cons=>simp[Tm.prsL] at h
      | cons a q ih =>
       intro hq ps r hx
       have ha:=hq a (List.mem_cons_self ..)
       rw[List.map_cons,Tm.xpL] at hx
       unfold Zap at hx
       split at hx
       ·rename_i x qs e1 e2
        cases hx
        rw[Z7S]
        cases r with
        | nil=>exact⟨fun ⟨_,_,_,_,e⟩=>(by cases e),fun ⟨w,h,_⟩=>(by simp[Tm.prsL] at h)⟩
        | cons y r =>
         have hy:=ZdE hb a x y (hs.2 a ha) (hg _ (List.mem_map_of_mem ha)) e1
         have hr:=ih (fun x hx=>hq x (List.mem_cons_of_mem _ hx)) qs r e2
         rw[Tm.prsL,Zat,<- hy,<- hr]
         constructor
         ·rintro⟨a',h1,q',h2,e⟩
          cases e
          exact⟨h1,h2⟩
         ·rintro⟨h1,h2⟩
          exact⟨y,h1,r,h2,rfl⟩
       ·cases hx
     cases hp:Tm.xpL (l.map (Tm.ap b)) with
     | none=>rw[hp] at h; simp[xpK] at h
     | some ps =>
      rw[hp] at h
      have h':fnX s ps=some L:=by simpa [xpK] using h
      rw[Zh6 h']
      constructor
      ·rintro⟨r,hr,e⟩
       cases e
       rw[if_pos ⟨rfl,rfl,rfl⟩]
       exact (hQ l (fun x h=>h) ps _ hp).1 hr
      ·intro hc
       split at hc
       ·rename_i e
        obtain⟨rfl,rfl,rfl⟩:=e
        exact⟨l',(hQ l (fun x h=>h) ps l' hp).2 hc,rfl⟩
       ·obtain⟨w,h,_⟩:=hc
        cases h
termination_by p=>SizeOf.sizeOf p
decreasing_by
 have:=List.sizeOf_lt_of_mem ha
 simp only[Tm.mk.sizeOf_spec]
 omega
end Go.Sx
/- MATCHING,PLAIN: the wants' names and values; a matched pattern is ground. -/
namespace Go.Sx
theorem Z0f {x y:Option Wn} {w:Wn} (h:wJ x y=some w): ∃ a b,x=some a/\y=some b/\w=(a.1++b.1,a.2++b.2):=by
 cases x with
 | none=>simp[wJ] at h
 | some a =>
  cases y with
  | none=>simp[wJ] at h
  | some b=>cases h; exact⟨a,b,rfl,rfl,rfl⟩
mutual
def Tm.outs:Tm->List (List UInt8)
 | .mk k n s l=>if k=5\/k=6 then [] else (if k=3 then [s] else [])++Tm.outsL l
def Tm.outsL:List Tm->List (List UInt8)
 | []=>[]
 | a::r=>Tm.outs a++Tm.outsL r
end
theorem Zdw {k:Nat} {n:Int} {s:List UInt8} {l:List Tm} (h:(Tm.mk k n s l).shape=true) (hk:k=3):Lx.variableB s=true/\l=[]:=by
 subst hk
 simp only[Tm.shape,ZP] at h
 simp at h
 exact⟨h.1.2,h.2⟩
mutual
theorem Z4t: ∀ (p v:Tm) (w:Wn),p.all Tm.shape=true->p.prs v=some w->w.1.map Prod.fst=p.outs
 | .mk k n s l,.mk k' n' s' l',w,hs,h=>by
  rw[Tm.prs] at h
  rw[Tm.outs]
  rw[Tm.all,Bool.and_eq_true] at hs
  by_cases h3:k=3
  ·rw[if_pos h3] at h
   cases h
   obtain⟨_,rfl⟩:=Zdw hs.1 h3
   rw[if_neg (by omega),if_pos h3]
   rfl
  ·rw[if_neg h3] at h
   by_cases h5:k=5\/k=6
   ·rw[if_pos h5] at h ⊢
    cases h
    rfl
   ·rw[if_neg h5] at h ⊢
    rw[if_neg h3,List.nil_append]
    split at h
    ·exact Z31 l l' w hs.2 h
    ·cases h
theorem Z31: ∀ (l l':List Tm) (w:Wn),Tm.allL Tm.shape l=true->Tm.prsL l l'=some w->w.1.map Prod.fst=Tm.outsL l
 | [],[],w,_,h=>by cases h; rfl
 | a::l,b::m,w,hs,h=>by
  rw[Tm.prsL] at h
  obtain⟨x,y,h1,h2,rfl⟩:=Z0f h
  rw[Tm.allL,Bool.and_eq_true] at hs
  rw[Tm.outsL,List.map_append,Z4t a b x hs.1 h1,Z31 l m y hs.2 h2]
 | [],_::_,w,_,h=>by simp[Tm.prsL] at h
 | _::_,[],w,_,h=>by simp[Tm.prsL] at h
end
mutual
theorem Z9h {g h:Tm->Bool}: ∀ (p v:Tm) (w:Wn),p.all g=true->v.all h=true->p.prs v=some w->(∀ x∈w.1,x.2.all h=true/\x.2.depth<=v.depth)/\ ∀ y∈w.2,y.1.all g=true/\y.1.depth<=p.depth/\y.2.all h=true/\y.2.depth<=v.depth
 | .mk k n s l,.mk k' n' s' l',w,hg,hh,he=>by
  rw[Tm.prs] at he
  by_cases h3:k=3
  ·rw[if_pos h3] at he
   cases he
   refine⟨fun x hx=> ?_,fun y hy=>by cases hy⟩
   rw[List.mem_singleton.1 hx]
   exact⟨hh,Nat.le_refl _⟩
  ·rw[if_neg h3] at he
   by_cases h5:k=5\/k=6
   ·rw[if_pos h5] at he
    cases he
    refine⟨fun x hx=>(by cases hx),fun y hy=> ?_⟩
    rw[List.mem_singleton.1 hy]
    exact⟨hg,Nat.le_refl _,hh,Nat.le_refl _⟩
   ·rw[if_neg h5] at he
    split at he
    ·rw[Tm.all,Bool.and_eq_true] at hg hh
     obtain⟨q1,q2⟩:=Z6v l l' w hg.2 hh.2 he
     have e1:Tm.depthL l<=(Tm.mk k n s l).depth:=by rw[Tm.depth]; omega
     have e2:Tm.depthL l'<=(Tm.mk k' n' s' l').depth:=by rw[Tm.depth]; omega
     exact⟨fun x hx=>⟨(q1 x hx).1,Nat.le_trans (q1 x hx).2 e2⟩,fun y hy=>⟨(q2 y hy).1,Nat.le_trans (q2 y hy).2.1 e1,(q2 y hy).2.2.1,Nat.le_trans (q2 y hy).2.2.2 e2⟩⟩
    ·cases he
theorem Z6v {g h:Tm->Bool}: ∀ (l l':List Tm) (w:Wn),Tm.allL g l=true->Tm.allL h l'=true->Tm.prsL l l'=some w->(∀ x∈w.1,x.2.all h=true/\x.2.depth<=Tm.depthL l')/\ ∀ y∈w.2,y.1.all g=true/\y.1.depth<=Tm.depthL l/\y.2.all h=true/\y.2.depth<=Tm.depthL l'
 | [],[],w,_,_,he=>by cases he; exact⟨fun x hx=>(by cases hx),fun x hx=>(by cases hx)⟩
 | a::l,b::m,w,hg,hh,he=>by
  rw[Tm.prsL] at he
  obtain⟨x,y,h1,h2,rfl⟩:=Z0f he
  rw[Tm.allL,Bool.and_eq_true] at hg hh
  obtain⟨a1,a2⟩:=Z9h a b x hg.1 hh.1 h1
  obtain⟨b1,b2⟩:=Z6v l m y hg.2 hh.2 h2
  have e1:a.depth<=Tm.depthL (a::l):=by rw[Tm.depthL]; exact Nat.le_max_left _ _
  have e2:Tm.depthL l<=Tm.depthL (a::l):=by rw[Tm.depthL]; exact Nat.le_max_right _ _
  have e3:b.depth<=Tm.depthL (b::m):=by rw[Tm.depthL]; exact Nat.le_max_left _ _
  have e4:Tm.depthL m<=Tm.depthL (b::m):=by rw[Tm.depthL]; exact Nat.le_max_right _ _
  refine⟨fun z hz=> ?_,fun z hz=> ?_⟩
  ·rcases List.mem_append.1 hz with hz | hz
   ·exact⟨(a1 z hz).1,Nat.le_trans (a1 z hz).2 e3⟩
   ·exact⟨(b1 z hz).1,Nat.le_trans (b1 z hz).2 e4⟩
  ·rcases List.mem_append.1 hz with hz | hz
   ·exact⟨(a2 z hz).1,Nat.le_trans (a2 z hz).2.1 e1,(a2 z hz).2.2.1,Nat.le_trans (a2 z hz).2.2.2 e3⟩
   ·exact⟨(b2 z hz).1,Nat.le_trans (b2 z hz).2.1 e2,(b2 z hz).2.2.1,Nat.le_trans (b2 z hz).2.2.2 e4⟩
 | [],_::_,w,_,_,he=>by simp[Tm.prsL] at he
 | _::_,[],w,_,_,he=>by simp[Tm.prsL] at he
end
end Go.Sx
/- MATCHING,PLAIN: the stage's theorem. -/
namespace Go.Sx
theorem Zcc (p v:Tm):Tm.prsL [p] [v]=p.prs v:=by
 rw[Tm.prsL,Tm.prsL]
 cases p.prs v <;> simp[wJ]
theorem Z9A {p v:Tm} {b c:List Bd}:lstB [p] [v] b=some c ↔ ZT b=true/\p.valid=true/\v.value=true/\ ∃ w,p.prs v=some w/\BndOf w.1 b c/\w.2.all (clsB c)=true:=by
 unfold lstB
 by_cases hc:(ZT b && ([p].all Tm.valid && [v].all Tm.value))=true
 ·rw[if_pos hc,Zcc]
  simp only[List.all_cons,List.all_nil,Bool.and_true,Bool.and_eq_true] at hc
  obtain⟨h1,h2,h3⟩:=hc
  have hs:=(Qo.1 h1).1
  cases hp:p.prs v with
  | none=>simp[oA]
  | some w =>
   simp only[oA,List.nil_append]
   constructor
   ·intro h
    cases hb:bndA w.1 b with
    | none=>rw[hb] at h; cases h
    | some d =>
     rw[hb] at h
     simp only at h
     split at h
     ·rename_i ha
      cases h
      exact⟨h1,h2,h3,w,rfl,(Z0G hs).1 hb,ha⟩
     ·cases h
   ·rintro⟨_,_,_,w',e,hB,ha⟩
    cases e
    rw[(Z0G hs).2 hB]
    simp only[ha,if_true]
 ·rw[if_neg hc]
  constructor
  ·intro h; cases h
  ·rintro⟨h1,h2,h3,_⟩
   exact absurd (by simp[h1,h2,h3]) hc
structure Snd (p v:Tm) (b c:List Bd):Prop where
 vb:ZT b=true
 vc:ZT c=true
 pv:p.valid=true
 vv:v.value=true
 old: ∀ x∈b,getB c x.n=some x.v
 only: ∀ x∈c,getB b x.n=some x.v\/x.n∈p.outs
 outs: ∀ s∈p.outs, ∃ u,getB c s=some u
 again:lstB [p] [v] c=some c
 gr:(p.ap c).all Tm.gr=true
 among: ∀ l,(p.ap c).expd= .ok l->v∈l
end Go.Sx
/- Laws of the lexer. -/
namespace Go.Sx.Lx
open Go.Sx
def run (o:Nat) (l:List UInt8):List Tk × Option (Nat × Int) × Nat:=Zji (l.length+1) (o+skp false l) (l.drop (skp false l))
def shift (d:Nat) (r:List Tk × Option (Nat × Int) × Nat):List Tk × Option (Nat × Int) × Nat:=(r.1.map fun t=>(t.1,t.2.1,t.2.2+d),r.2.1.map fun e=>(e.1+d,e.2),r.2.2+d)
end Go.Sx.Lx
namespace Go.Sx.Lx
end Go.Sx.Lx
namespace Go.Sx.Lx
end Go.Sx.Lx
namespace Go.Sx.Lx
end Go.Sx.Lx
namespace Go.Sx.Lx
def ZpT:List (List UInt8):=[[32],[10],[9,32],[37,10],[32,37,32,97,46,32,35,120,10],[13,10]]
def ZoU (g:Int):Int:=ZoT g 6
def ZdW (g:Int):List UInt8:=ZpT.getD (ZoU g).toNat []
def gapF (gs:List Int) (i:Nat):Int:=if i<gs.length then gs.getD i 0 else i
def finB (gs:List Int):Nat->List Tk->List UInt8->List Int->List UInt8 × List Int
 | _,[],s,o=>(s,o)
 | i,t::r,s,o=>finB gs (i+1) r (s++ZdW (gapF gs i)++t.2.1) (o++[((s++ZdW (gapF gs i)).length:Int)])
end Go.Sx.Lx
/- The reference model's lexer,plainly: its tests are the lexer's. -/
namespace Go.Sx.Lx
open Go.Sx
end Go.Sx.Lx
/- Numbers and signs of the reference model. -/
namespace Go.Sx.Lx
open Go.Sx
def valN (a:Nat) (l:List UInt8):Nat:=l.foldl (fun a c=>a*10+(c.toNat-48)) a
attribute [irreducible] valN
end Go.Sx.Lx
/- The lexer's run,byte by byte. -/
namespace Go.Sx.Lx
open Go.Sx
/- What a token is,by its first byte. -/
end Go.Sx.Lx
/- OWN ROWS OF TEXTS,SORTED AND MADE COMPACT IN PLACE BY THE LIBRARY. -/
namespace Go.Sx
open Go.RowKit Go.Sort
open Go.Proofs (encStr)
variable [Globs] [Codes]
variable {P:Program} {f:FuncId}
def srt (l:List (List UInt8)):List (List UInt8):=l.mergeSort fun x y=>decide (x<=y)
theorem encS (s:List UInt8):encStr s= .string ⟨s.toArray⟩:=rfl
theorem arrS {own:Nat->Prop} {fz:Bool} {ty:TypeId} {φ:Mem} {h:Nat->Value} {w:World} {hv:Value} {l:List (List UInt8)} (ho:ObR own φ h w hv (.arr fz 1 ty (strC l))) (hne:l≠[]) :
  ∃ g cap cur,hv= .slice (some ⟨g,0,none⟩) l.length cap/\own g/\w.heap[g]? = some (.cells cur ty (0,0))/\l.length<=cap/\cap<=maxLen/\cur.size=cap*1/\cur.toList.take l.length=l.map encStr ∧
   ∀ o,φ g o=if fz=true/\o<l.length then some (encStr (l.getD o [])) else none:=by
 obtain⟨_,hsz,xs,hown,hrep,hb⟩:=ho
 have hlen:(strC l).length=l.length:=ZY l
 rw[hlen] at hown hb
 have hxs:xs=l.map encStr:=by
  have hl:=hown.1
  rw[Nat.mul_one] at hl
  apply List.ext_getElem (by simpa using hl)
  intro i h1 h2
  simp at h2
  have:=hrep i _ 0 (D.str (l.getD i [])) (Z3r h2) rfl
  simp only[Nat.mul_one,Nat.add_zero] at this
  have h3:=(RV.pure (h:=h) this).str_inv
  rw[List.getD_eq_getElem?_getD,List.getElem?_eq_getElem h1,Option.getD_some] at h3
  rw[h3,List.getElem_map,encS]
  simp[List.getD,h2]
 subst hxs
 rcases hown.2 with ⟨_,h0⟩ | ⟨g,cap,cur,hv',_,hblk,hn,hcap,hcs,htk⟩
 ·exact absurd (List.length_eq_zero_iff.1 h0) hne
 ·have hb2:=hb g (by rw[hv']; rfl)
  refine⟨g,cap,cur,hv',hb2.1,hblk,hn,hcap,hcs,by rw[Nat.mul_one] at htk; exact htk,fun o=> ?_⟩
  rw[hb2.2 o,Nat.mul_one]
  by_cases ho:fz=true/\o<l.length
  ·rw[if_pos ho,if_pos ho,List.getElem?_map,List.getElem?_eq_getElem ho.2,List.getD_eq_getElem?_getD,List.getElem?_eq_getElem ho.2]
   rfl
  ·rw[if_neg ho,if_neg ho]
theorem ZaI {own:Nat->Prop} {fz:Bool} {ty:TypeId} {φ:Mem} {h:Nat->Value} {w:World} {g cap:Nat} {cur:Array Value} {l:List (List UInt8)} (ho:own g) (hblk:w.heap[g]? = some (.cells cur ty (0,0))) (hn:l.length<=cap) (hcap:cap<=maxLen) (hcs:cur.size=cap*1) (htk:cur.toList.take l.length=l.map encStr)
  (hφ: ∀ o,φ g o=if fz=true/\o<l.length then some (encStr (l.getD o [])) else none):ObR own φ h w (.slice (some ⟨g,0,none⟩) l.length cap) (.arr fz 1 ty (strC l)):=by
 refine⟨by decide,fun x hx=> ?_,l.map encStr, ?_,fun i x j d hi hj=> ?_,fun b hb=> ?_⟩
 ·unfold strC at hx
  obtain⟨t,_,rfl⟩:=List.mem_map.1 hx
  rfl
 ·rw[ZY]
  exact⟨by simp,.inr ⟨g,cap,cur,rfl,Nat.zero_le _,hblk,hn,hcap,hcs,by rw[Nat.mul_one]; exact htk⟩⟩
 ·have hi2:i<l.length:=by
   rcases Nat.lt_or_ge i l.length with h | h
   ·exact h
   ·rw[List.getElem?_eq_none (by rw[ZY]; exact h)] at hi; cases hi
  rw[Z3r hi2] at hi
  cases hi
  cases j with
  | succ j=>simp at hj
  | zero =>
   cases hj
   rw[Nat.mul_one,Nat.add_zero,List.getD_eq_getElem?_getD,List.getElem?_map,List.getElem?_eq_getElem hi2,Option.map_some,Option.getD_some,encS]
   have:=Rep.str (φ:=φ) (l.getD i [])
   simpa [List.getD,hi2] using this
 ·cases hb
  refine⟨ho,fun o=> ?_⟩
  rw[hφ o,ZY,Nat.mul_one]
  by_cases h:fz=true/\o<l.length
  ·rw[if_pos h,if_pos h,List.getElem?_map,List.getElem?_eq_getElem h.2,List.getD_eq_getElem?_getD,List.getElem?_eq_getElem h.2]
   rfl
  ·rw[if_neg h,if_neg h]
theorem CallL.sortS (hpf:Zz P f=true) (H: ∀ (blk cap:Nat) (ss:List (List UInt8)) (w:World),Holds encStr w blk 0 ss.toArray->blk<w.heap.size->ss.length<4611686018427387904 →
   Calls P f #[.slice (some ⟨blk,0,none⟩) ss.length cap] w fun e w'=>e= .returned (.tuple #[])/\ ∃ n os,w'=grow (putRow encStr (Sort.ahead w n) blk 0 (ss.mergeSort fun x y=>decide (x<=y)).toArray) os)
  (ty:TypeId) (l:List (List UInt8)) (hne:l≠[]) (hlt:l.length<4611686018427387904):CallL P (.func (.func f) [] []) [.vec 0] [(0,.arr false 1 ty (strC l))] fun r ob=>r= .tuple []/\ob=[(0,.arr false 1 ty (strC (srt l)))]:=by
 intro F hF n φ h w v vs hp hv hvs
 obtain⟨va,vc,rfl,hva,hvc⟩: ∃ va vc,v= .func (.func f) va vc/\va.size=0/\vc.size=0:=by
  cases hv with
  | pure hr=>cases hr
  | func _ vf vc _ _ hf hc _ _=>exact⟨vf,vc,rfl,hf,hc⟩
 obtain⟨u,rfl,hu⟩:=vs1 hvs
 have hu':=hu.vec_inv
 subst hu'
 rw[Zg hpf]
 have ea:va= #[]:=by simpa using hva
 have ec:vc= #[]:=by simpa using hvc
 subst ea; subst ec
 simp only[Array.empty_append,Array.append_empty,DynOut]
 obtain⟨g,cap,cur,hh,_,hblk,hn,hcap,hcs,htk,hφ⟩:=arrS (hp.obj 0 _ rfl) hne
 have hφ0: ∀ o,φ g o=none:=fun o=>by rw[hφ o]; rfl
 have hZ:ZOf [(0,Ob.arr false 1 ty (strC l))] h g:=⟨0,rfl,by rw[hh]; rfl⟩
 have hg:g<w.heap.size:=(Array.getElem?_eq_some_iff.1 hblk).1
 rw[hh]
 refine hF.calls ((H g cap l w (holds_of_block hblk htk) hg hlt).mono ?_) n
 rintro e w' ⟨rfl,m,os,rfl⟩
 have hsl:(srt l).length=l.length:=by unfold srt; simp
 have hG:=grownBy_sorted (w:=w) (g:=g) (n:=m) (os:=os) (srt l).toArray
 have hS:=heap_sorted (n:=m) (os:=os) (srt l).toArray hblk
 have hT:=take_putCells cur (srt l) (by rw[hsl]; omega)
 show Post _ φ h w _ _ (grow (putRow encStr (Sort.ahead w m) g 0 (srt l).toArray) os)
 generalize grow (putRow encStr (Sort.ahead w m) g 0 (srt l).toArray) os=w' at hG hS
 have hfr: ∀ b,b<w.heap.size->b≠g->w'.heap[b]? = w.heap[b]? := fun b hb hne=>hG.block b hb (by simpa using hne)
 have hold: ∀ b o,w.heap[b]? = some o->b≠g->w'.heap[b]? = some o:=fun b o hb hne=>by rw[hfr b (Array.getElem?_eq_some_iff.1 hb).1 hne,hb]
 have hZe: ∀ b,ZOf [(0,Ob.arr false 1 ty (strC (srt l)))] h b->ZOf [(0,Ob.arr false 1 ty (strC l))] h b:=by
  rintro b ⟨i,hi,hb⟩
  cases i with
  | zero=>exact⟨0,rfl,hb⟩
  | succ i=>simp[lk] at hi
 refine .ret ⟨rfl,rfl⟩ (.tuple _ _ rfl (by simp)) (φ':=φ) (h':=h) ⟨⟨hp.one,⟨hp.glob.ok,fun g' arr hx=> ?_,fun g' hx=> ?_⟩,fun b o u hu=> ?_,fun i ob hob=> ?_,fun i j b hi hj _ _=> ?_⟩,fun _ _ _ h=>h,fun b o u h1 h2=>(by rw[h1] at h2; cases h2),fun b hb hz=>hfr b hb fun e=>hz (e ▸ hZ),fun _ _=>rfl,hG.os,hG.tape,hG.output,hG.size⟩
 ·obtain⟨⟨ty',fr,hw⟩,hz⟩:=hp.glob.x g' arr hx
  exact⟨⟨ty',fr,hold _ _ hw fun e=>hz (e ▸ hZ)⟩,fun hz'=>hz (hZe _ hz')⟩
 ·obtain⟨⟨arr,ty',fr,q,hw,ha⟩,hz⟩:=hp.glob.i g' hx
  exact⟨⟨arr,ty',fr,q,hold _ _ hw fun e=>hz (e ▸ hZ),ha⟩,fun hz'=>hz (hZe _ hz')⟩
 ·have hbg:b≠g:=fun e=>by rw[e,hφ0 o] at hu; cases hu
  have hlt:b<w.heap.size:=Sub.lt (w:=w) hp.mem hu
  rw[World.cell?_of_block (a:=⟨b,o,none⟩) (hfr b hlt hbg)]
  exact hp.mem b o u hu
 ·cases i with
  | succ i=>simp[lk] at hob
  | zero =>
   simp only[lk,if_true,Option.some.injEq] at hob
   subst hob
   rw[hh,<- hsl]
   exact ZaI (.inr hZ) hS (by omega) hcap (by simpa [putCells] using hcs) hT fun o=>by rw[hφ0 o]; rfl
 ·cases i with
  | succ i=>simp[lk] at hi
  | zero=>cases j with
   | succ j=>simp[lk] at hj
   | zero=>rfl
theorem Zhq (l:List (List UInt8)):(Lib.compact l).length<=l.length:=by
 unfold Lib.compact Lib.compactUpTo
 rw[List.length_map]
 refine Nat.le_trans (List.length_filter_le _ _) ?_
 simp
theorem ZcO {cur:Array Value} {l:List (List UInt8)} {d:List (List UInt8)} (hd:d.length<=cur.size) {k:Nat} (hk:k<=d.length):(putCells encStr 0 d.toArray cur).toList.take k=(d.take k).map encStr:=by
 have h:=take_putCells cur d hd
 rw[<- List.map_take.symm,<- h,List.take_take,Nat.min_eq_left hk]
def memG (φ:Mem) (g:Nat) (k:List (List UInt8)):Mem:=fun b o=>if b=g then (if o<k.length then some (encStr (k.getD o [])) else none) else φ b o
theorem CallL.compactS (hpf:Zz P f=true) (H: ∀ (blk cap:Nat) (zs:List (List UInt8)) (w:World),Holds encStr w blk 0 zs.toArray->zs.length<=9223372036854775807->zs.length<=cap →
   Calls P f #[.slice (some ⟨blk,0,none⟩) zs.length cap] w fun e w'=>e= .returned (.slice (some ⟨blk,0,none⟩) (Lib.compact zs).length cap)/\ ∃ q,w'=putRow encStr (Sort.ahead w q) blk 0 (Lib.compact zs++List.replicate (zs.length-(Lib.compact zs).length) []).toArray)
  (ty:TypeId) (l:List (List UInt8)) (hne:l≠[]) (hlt:l.length<4611686018427387904):CallL P (.func (.func f) [] []) [.vec 0] [(0,.arr false 1 ty (strC l))] fun r ob=>r= .vec 1/\ob=[(1,.arr true 1 ty (strC (Lib.compact l)))]:=by
 intro F hF n φ h w v vs hp hv hvs
 obtain⟨va,vc,rfl,hva,hvc⟩: ∃ va vc,v= .func (.func f) va vc/\va.size=0/\vc.size=0:=by
  cases hv with
  | pure hr=>cases hr
  | func _ vf vc _ _ hf hc _ _=>exact⟨vf,vc,rfl,hf,hc⟩
 obtain⟨u,rfl,hu⟩:=vs1 hvs
 have hu':=hu.vec_inv
 subst hu'
 rw[Zg hpf]
 have ea:va= #[]:=by simpa using hva
 have ec:vc= #[]:=by simpa using hvc
 subst ea; subst ec
 simp only[Array.empty_append,Array.append_empty,DynOut]
 obtain⟨g,cap,cur,hh,_,hblk,hn,hcap,hcs,htk,hφ⟩:=arrS (hp.obj 0 _ rfl) hne
 have hφ0: ∀ o,φ g o=none:=fun o=>by rw[hφ o]; rfl
 have hZ:ZOf [(0,Ob.arr false 1 ty (strC l))] h g:=⟨0,rfl,by rw[hh]; rfl⟩
 have hg:g<w.heap.size:=(Array.getElem?_eq_some_iff.1 hblk).1
 rw[hh]
 refine hF.calls ((H g cap l w (holds_of_block hblk htk) (by omega) hn).mono ?_) n
 rintro e w' ⟨rfl,m,rfl⟩
 have hcl:=Zhq l
 have hdl:(Lib.compact l++List.replicate (l.length-(Lib.compact l).length) []).length=l.length:=by simp; omega
 have hG:=grownBy_sorted (w:=w) (g:=g) (n:=m) (os:= #[]) (Lib.compact l++List.replicate (l.length-(Lib.compact l).length) []).toArray
 have hS:=heap_sorted (n:=m) (os:= #[]) (Lib.compact l++List.replicate (l.length-(Lib.compact l).length) []).toArray hblk
 have hT:=ZcO (cur:=cur) (l:=l) (d:=Lib.compact l++List.replicate (l.length-(Lib.compact l).length) []) (by rw[hdl]; omega) (k:=(Lib.compact l).length) (by rw[hdl]; exact hcl)
 rw[List.take_left] at hT
 rw[grow_empty] at hG hS
 generalize putRow encStr (Sort.ahead w m) g 0 (Lib.compact l++List.replicate (l.length-(Lib.compact l).length) []).toArray=w' at hG hS ⊢
 generalize hcur:putCells encStr 0 (Lib.compact l++List.replicate (l.length-(Lib.compact l).length) []).toArray cur=cur' at hS hT
 have hcs':cur'.size=cap*1:=by rw[<- hcur]; simpa [putCells] using hcs
 generalize Lib.compact l=k at hcl hT ⊢
 have hfr: ∀ b,b<w.heap.size->b≠g->w'.heap[b]? = w.heap[b]? := fun b hb hne=>hG.block b hb (by simpa using hne)
 have hold: ∀ b o,w.heap[b]? = some o->b≠g->w'.heap[b]? = some o:=fun b o hb hne=>by rw[hfr b (Array.getElem?_eq_some_iff.1 hb).1 hne,hb]
 have hh1:updH h 1 (.slice (some ⟨g,0,none⟩) k.length cap) 1= .slice (some ⟨g,0,none⟩) k.length cap:=Zi ..
 have hZe: ∀ b,ZOf [(1,Ob.arr true 1 ty (strC k))] (updH h 1 (.slice (some ⟨g,0,none⟩) k.length cap)) b->ZOf [(0,Ob.arr false 1 ty (strC l))] h b:=by
  rintro b ⟨i,hi,hb⟩
  simp only[lk] at hi
  split at hi
  ·rename_i e
   subst e
   rw[hh1] at hb
   simp only[blk,Option.some.injEq] at hb
   exact hb ▸ hZ
  ·cases hi
 obtain⟨φ',hφd⟩: ∃ m,m=memG φ g k:=⟨_,rfl⟩
 have hφn: ∀ b o,b≠g->φ' b o=φ b o:=fun b o hb=>by rw[hφd]; exact if_neg hb
 have hφ': ∀ b o v,φ b o=some v->φ' b o=some v:=fun b o v hv=>by
  have hbg:b≠g:=fun e=>by rw[e,hφ0 o] at hv; cases hv
  rw[hφn b o hbg]; exact hv
 have hφg: ∀ o,φ' g o=if o<k.length then some (encStr (k.getD o [])) else none:=fun o=>by rw[hφd]; exact if_pos rfl
 have hcell: ∀ o,o<k.length->w'.cell? ⟨g,o,none⟩=some (encStr (k.getD o [])):=fun o ho=>by
  have h1:(cur'.toList.take k.length)[o]? = (k.map encStr)[o]? := by rw[hT]
  rw[List.getElem?_take_of_lt ho,List.getElem?_map,List.getElem?_eq_getElem ho,Option.map_some,Array.getElem?_toList] at h1
  simp only[World.cell?,hS,h1,List.getD_eq_getElem?_getD,List.getElem?_eq_getElem ho,Option.getD_some]
  rfl
 refine .ret ⟨rfl,rfl⟩ (φ':=φ') (h':=updH h 1 (.slice (some ⟨g,0,none⟩) k.length cap)) ?_ ⟨⟨fun i=> ?_,⟨fun g' cs hgc=>(hp.glob.ok g' cs hgc).mono hφ',fun g' arr hx=> ?_,fun g' hx=> ?_⟩,fun b o u hu=> ?_,fun i ob hob=> ?_,fun i j b hi hj _ _=> ?_⟩,hφ',fun b o u h1 h2=> ?_,fun b hb hz=>hfr b hb fun e=>hz (e ▸ hZ),fun i hi=> ?_,hG.os,hG.tape,hG.output,hG.size⟩
 ·have:=RV.vec (φ:=φ') (h:=updH h 1 (.slice (some ⟨g,0,none⟩) k.length cap)) 1 (by rw[hh1]; rfl)
  rw[hh1] at this
  exact this
 ·by_cases hi:i=1
  ·subst hi; rw[hh1]; rfl
  ·rw[Z9 _ _ hi]; exact hp.one i
 ·obtain⟨⟨ty',fr,hw⟩,hz⟩:=hp.glob.x g' arr hx
  exact⟨⟨ty',fr,hold _ _ hw fun e=>hz (e ▸ hZ)⟩,fun hz'=>hz (hZe _ hz')⟩
 ·obtain⟨⟨arr,ty',fr,q,hw,ha⟩,hz⟩:=hp.glob.i g' hx
  exact⟨⟨arr,ty',fr,q,hold _ _ hw fun e=>hz (e ▸ hZ),ha⟩,fun hz'=>hz (hZe _ hz')⟩
 ·by_cases hbg:b=g
  ·subst hbg
   rw[hφg] at hu
   split at hu
   ·rename_i ho
    rw[hcell o ho]; exact hu
   ·cases hu
  ·have hu':φ b o=some u:=by
    rw[<- hφn b o hbg]; exact hu
   have hlt:b<w.heap.size:=Sub.lt (w:=w) hp.mem hu'
   rw[World.cell?_of_block (a:=⟨b,o,none⟩) (hfr b hlt hbg)]
   exact hp.mem b o u hu'
 ·simp only[lk] at hob
  split at hob
  ·rename_i e
   subst e
   cases hob
   rw[hh1]
   exact ZaI (.inr hZ) hS (by omega) hcap hcs' hT fun o=>by rw[hφg o]; simp
  ·cases hob
 ·simp only[lk] at hi hj
  split at hi
  ·split at hj
   ·omega
   ·cases hj
  ·cases hi
 ·by_cases hbg:b=g
  ·exact .inr (hbg ▸ hZ)
  ·rw[hφn b o hbg,h2] at h1; cases h1
 ·have:i≠1:=fun e=>by rw[e] at hi; simp[lk] at hi
  exact Z9 _ _ this
theorem After.same {φ:Mem} {h:Nat->Value} {w:World} {ob:Obs} (hp:Loc (fun _=>True) ob φ h w):After [] φ h w [] φ h w :=
 ⟨⟨hp.one,hp.glob.sub fun b ⟨i,hi,_⟩=>by simp[lk] at hi,hp.mem,fun i o ho=>by simp[lk] at ho,fun i j b hi=>by simp[lk] at hi⟩,fun _ _ _ h=>h,fun b o u h1 h2=>(by rw[h1] at h2; cases h2),fun _ _ _=>rfl,fun _ _=>rfl,rfl,rfl,rfl,Nat.le_refl _⟩
theorem Z9x {φ:Mem} {h:Nat->Value} {v:Value} (hv:RV φ h v (.slice [] [])): ∃ p c,v= .slice p 0 c:=by
 cases hv with
 | pure hr=>cases hr with
  | nil=>exact⟨none,0,rfl⟩
  | nilA a c=>exact⟨some a,c,rfl⟩
  | slice b off cap sz _ _ vals _ _ _ _=>exact⟨some ⟨b,off,none⟩,cap,rfl⟩
theorem CallL.sortN (hpf:Zz P f=true) (H: ∀ (p:Option Addr) (cap:Nat) (w:World),Calls P f #[.slice p 0 cap] w fun e w'=>e= .returned (.tuple #[])/\w'=w):CallL P (.func (.func f) [] []) [.slice [] []] [] fun r ob=>r= .tuple []/\ob=[]:=by
 intro F hF n φ h w v vs hp hv hvs
 obtain⟨va,vc,rfl,hva,hvc⟩: ∃ va vc,v= .func (.func f) va vc/\va.size=0/\vc.size=0:=by
  cases hv with
  | pure hr=>cases hr
  | func _ vf vc _ _ hf hc _ _=>exact⟨vf,vc,rfl,hf,hc⟩
 obtain⟨u,rfl,hu⟩:=vs1 hvs
 obtain⟨p,c,rfl⟩:=Z9x hu
 rw[Zg hpf]
 have ea:va= #[]:=by simpa using hva
 have ec:vc= #[]:=by simpa using hvc
 subst ea; subst ec
 simp only[Array.empty_append,Array.append_empty,DynOut]
 refine hF.calls ((H p c w).mono ?_) n
 rintro e w' ⟨rfl,rfl⟩
 exact .ret ⟨rfl,rfl⟩ (φ':=φ) (h':=h) (.tuple _ _ rfl (by simp)) (After.same hp)
theorem CallL.compactN (hpf:Zz P f=true) (H: ∀ (p:Option Addr) (cap:Nat) (w:World),Calls P f #[.slice p 0 cap] w fun e w'=>e= .returned (.slice p 0 cap)/\w'=w):CallL P (.func (.func f) [] []) [.slice [] []] [] fun r ob=>r= .slice [] []/\ob=[]:=by
 intro F hF n φ h w v vs hp hv hvs
 obtain⟨va,vc,rfl,hva,hvc⟩: ∃ va vc,v= .func (.func f) va vc/\va.size=0/\vc.size=0:=by
  cases hv with
  | pure hr=>cases hr
  | func _ vf vc _ _ hf hc _ _=>exact⟨vf,vc,rfl,hf,hc⟩
 obtain⟨u,rfl,hu⟩:=vs1 hvs
 obtain⟨p,c,rfl⟩:=Z9x hu
 rw[Zg hpf]
 have ea:va= #[]:=by simpa using hva
 have ec:vc= #[]:=by simpa using hvc
 subst ea; subst ec
 simp only[Array.empty_append,Array.append_empty,DynOut]
 refine hF.calls ((H p c w).mono ?_) n
 rintro e w' ⟨rfl,rfl⟩
 exact .ret ⟨rfl,rfl⟩ (φ':=φ) (h':=h) hu (After.same hp)
theorem QC (a b:List (List UInt8)):strC (a++b)=strC a++strC b:=by simp[strC]
theorem FnOK.freezeS {args:List D} {ty:TypeId} {l:List (List UInt8)} (h:FnOK P f args (.own 1 ty (strC l))) (hne:l≠[]):FnOK P f args (.slice (strC l) []):=by
 intro φ hh w vs h1 h2 h3 h4 h5
 refine (h φ hh w vs h1 h2 h3 h4 h5).mono ?_
 rintro e w' ⟨v,φ',rfl,hR,rest⟩
 refine⟨v,φ',rfl, ?_,rest⟩
 obtain⟨g,cap,cur,rfl,_,_,hn,_,_,_,hφ⟩:=arrS (h:=noH) hR hne
 intro h'
 have hlen:(strC l).length=l.length:=ZY l
 have key: ∀ i e,(strC l++[])[i]? = some e->i<l.length/\e=[D.str (l.getD i [])]:=fun i e he=>by
  rw[List.append_nil] at he
  have hi:i<l.length:=by
   rcases Nat.lt_or_ge i l.length with h | h
   ·exact h
   ·rw[List.getElem?_eq_none (by rw[hlen]; exact h)] at he; cases he
  rw[Z3r hi] at he
  exact⟨hi,by cases he; rfl⟩
 refine .pure ?_
 conv=>arg 2; rw[<- hlen]
 refine .slice g 0 cap 1 _ _ (fun i j=>encStr (l.getD i [])) (by rw[hlen]; simpa using hn) (fun e he=> ?_) (fun i e j d he hd=> ?_) (fun i e j d he hd=> ?_)
 ·obtain⟨i,hi⟩:=List.mem_iff_getElem?.1 he
  rw[(key i e hi).2]; rfl
 ·obtain⟨hi,rfl⟩:=key i e he
  cases j with
  | succ j=>simp at hd
  | zero =>
   rw[Nat.zero_add,Nat.mul_one,Nat.add_zero,hφ i,if_pos ⟨rfl,hi⟩]
 ·obtain⟨hi,rfl⟩:=key i e he
  cases j with
  | succ j=>simp at hd
  | zero =>
   cases hd
   exact .str _
end Go.Sx
/- The variables of a term. -/
namespace Go.Sx
def Tm.v1:Tm->List (List UInt8)
 | .mk k _ s _=>if k=3 then [s] else []
mutual
def Tm.vs:Tm->List (List UInt8)
 | .mk k n s l=>Tm.v1 (.mk k n s l)++Tm.vsL l
def Tm.vsL:List Tm->List (List UInt8)
 | []=>[]
 | a::r=>a.vs++Tm.vsL r
end
theorem ZeH {l:List Tm} {x:Tm} (h:x∈l):x.vs.length<=(Tm.vsL l).length:=by
 induction l with
 | nil=>cases h
 | cons a r ih =>
  simp only[Tm.vsL,List.length_append]
  rcases List.mem_cons.1 h with rfl | h
  ·omega
  ·have:=ih h; omega
end Go.Sx
/- MATCHING,PLAIN: every expansion of an applied pattern is matched. -/
namespace Go.Sx
mutual
theorem Z6t {h:Tm->Bool} {c:List Bd}: ∀ (p v:Tm) (w:Wn),(p.ap c).all h=true->p.prs v=some w-> ∀ y∈w.2,(y.1.ap c).all h=true/\(y.1.ap c).depth<=(p.ap c).depth
 | .mk k n s l,.mk k' n' s' l',w,hh,he=>by
  rw[Tm.prs] at he
  by_cases h3:k=3
  ·rw[if_pos h3] at he
   cases he
   intro y hy; cases hy
  ·rw[if_neg h3] at he
   by_cases h5:k=5\/k=6
   ·rw[if_pos h5] at he
    cases he
    intro y hy
    rw[List.mem_singleton.1 hy]
    exact⟨hh,Nat.le_refl _⟩
   ·rw[if_neg h5] at he
    split at he
    ·rw[Tm.ap,apK,if_neg h3] at hh ⊢
     rw[Tm.all,Bool.and_eq_true] at hh
     intro y hy
     have q:=Z9i l l' w hh.2 he y hy
     rw[Tm.depth]
     exact⟨q.1,by omega⟩
    ·cases he
theorem Z9i {h:Tm->Bool} {c:List Bd}: ∀ (l l':List Tm) (w:Wn),Tm.allL h (Tm.apL c l)=true->Tm.prsL l l'=some w-> ∀ y∈w.2,(y.1.ap c).all h=true/\(y.1.ap c).depth<=Tm.depthL (Tm.apL c l)
 | [],[],w,_,he=>by cases he; intro y hy; cases hy
 | a::l,b::m,w,hh,he=>by
  rw[Tm.prsL] at he
  obtain⟨x,y,e1,e2,rfl⟩:=Z0f he
  rw[Tm.apL,Tm.allL,Bool.and_eq_true] at hh
  intro z hz
  rw[Tm.apL,Tm.depthL]
  have d1:(a.ap c).depth<=Nat.max (a.ap c).depth (Tm.depthL (Tm.apL c l)):=Nat.le_max_left _ _
  have d2:Tm.depthL (Tm.apL c l)<=Nat.max (a.ap c).depth (Tm.depthL (Tm.apL c l)):=Nat.le_max_right _ _
  rcases List.mem_append.1 hz with hz | hz
  ·have q:=Z6t a b x hh.1 e1 z hz
   exact⟨q.1,Nat.le_trans q.2 d1⟩
  ·have q:=Z9i l m y hh.2 e2 z hz
   exact⟨q.1,Nat.le_trans q.2 d2⟩
 | [],_::_,w,_,he=>by simp[Tm.prsL] at he
 | _::_,[],w,_,he=>by simp[Tm.prsL] at he
end
mutual
theorem Z7g {b c:List Bd}: ∀ t:Tm,(∀ s∈t.vs,getB b s=getB c s)->t.ap b=t.ap c
 | .mk k n s l,h=>by
  rw[Tm.vs] at h
  have hl:=Z4X l fun s hs=>h s (List.mem_append.2 (.inr hs))
  rw[Tm.ap,Tm.ap,hl]
  unfold apK
  by_cases h3:k=3
  ·rw[if_pos h3,if_pos h3,h s (List.mem_append.2 (.inl (by simp[Tm.v1,h3])))]
  ·rw[if_neg h3,if_neg h3]
theorem Z4X {b c:List Bd}: ∀ l:List Tm,(∀ s∈Tm.vsL l,getB b s=getB c s)->Tm.apL b l=Tm.apL c l
 | [],_=>rfl
 | a::r,h=>by
  rw[Tm.vsL] at h
  rw[Tm.apL,Tm.apL,Z7g a fun s hs=>h s (List.mem_append.2 (.inl hs)),Z4X r fun s hs=>h s (List.mem_append.2 (.inr hs))]
end
mutual
def Tm.inns:Tm->List (List UInt8)
 | .mk k n s l=>if k=5\/k=6 then (Tm.mk k n s l).vs else Tm.innsL l
def Tm.innsL:List Tm->List (List UInt8)
 | []=>[]
 | a::r=>Tm.inns a++Tm.innsL r
end
mutual
theorem Z6s: ∀ (p v:Tm) (w:Wn),p.prs v=some w-> ∀ y∈w.2, ∀ s∈y.1.vs,s∈p.inns
 | .mk k n s l,.mk k' n' s' l',w,he=>by
  rw[Tm.prs] at he
  rw[Tm.inns]
  by_cases h3:k=3
  ·rw[if_pos h3] at he
   cases he
   intro y hy; cases hy
  ·rw[if_neg h3] at he
   by_cases h5:k=5\/k=6
   ·rw[if_pos h5] at he ⊢
    cases he
    intro y hy s hs
    rw[List.mem_singleton.1 hy] at hs
    exact hs
   ·rw[if_neg h5] at he ⊢
    split at he
    ·exact Z4u l l' w he
    ·cases he
theorem Z4u: ∀ (l l':List Tm) (w:Wn),Tm.prsL l l'=some w-> ∀ y∈w.2, ∀ s∈y.1.vs,s∈Tm.innsL l
 | [],[],w,he=>by cases he; intro y hy; cases hy
 | a::l,b::m,w,he=>by
  rw[Tm.prsL] at he
  obtain⟨x,y,e1,e2,rfl⟩:=Z0f he
  intro z hz s hs
  rw[Tm.innsL]
  rcases List.mem_append.1 hz with hz | hz
  ·exact List.mem_append.2 (.inl (Z6s a b x e1 z hz s hs))
  ·exact List.mem_append.2 (.inr (Z4u l m y e2 z hz s hs))
 | [],_::_,w,he=>by simp[Tm.prsL] at he
 | _::_,[],w,he=>by simp[Tm.prsL] at he
end
mutual
theorem Z6Z {b:List Bd}: ∀ t:Tm,t.all Tm.shape=true->(t.ap b).all Tm.gr=true-> ∀ s∈t.vs, ∃ u,getB b s=some u
 | .mk k n s l,hs,h=>by
  rw[Tm.all,Bool.and_eq_true] at hs
  intro x hx
  rw[Tm.vs] at hx
  rw[Tm.ap,apK] at h
  by_cases h3:k=3
  ·obtain⟨_,rfl⟩:=Zdw hs.1 h3
   have hx:x=s:=by simpa [Tm.v1,Tm.vsL,h3] using hx
   subst hx
   rw[if_pos h3] at h
   cases hg:getB b x with
   | some u=>exact⟨u,rfl⟩
   | none =>
    rw[hg] at h
    have:=(Zj.1 h).1
    simp[Tm.gr,h3] at this
  ·rw[if_neg h3,Tm.all,Bool.and_eq_true] at h
   have hx:x∈Tm.vsL l:=by simpa [Tm.v1,h3] using hx
   exact Z4C l hs.2 h.2 x hx
theorem Z4C {b:List Bd}: ∀ l:List Tm,Tm.allL Tm.shape l=true->Tm.allL Tm.gr (Tm.apL b l)=true-> ∀ s∈Tm.vsL l, ∃ u,getB b s=some u
 | [],_,_=>fun s hs=>by simp[Tm.vsL] at hs
 | a::r,hs,h=>by
  rw[Tm.allL,Bool.and_eq_true] at hs
  rw[Tm.apL,Tm.allL,Bool.and_eq_true] at h
  intro x hx
  rw[Tm.vsL] at hx
  rcases List.mem_append.1 hx with hx | hx
  ·exact Z6Z a hs.1 h.1 x hx
  ·exact Z4C r hs.2 h.2 x hx
end
theorem Z7A {b:List Bd} (q:Bd->Bool) (h:srtB b):srtB (b.filter q):=List.Pairwise.filter q h
def Z1D (p:Tm) (b:List Bd):List Bd:=b.filter fun x=>p.inns.contains x.n && !p.outs.contains x.n
theorem Z9B {p v:Tm} {b:List Bd} {l:List Tm} (hp:p.valid=true) (hvb:ZT b=true) (he:(p.ap b).expd= .ok l) (hv:v∈l) :
  v.value=true/\(∃ c,lstB [p] [v] (Z1D p b)=some c/\ ∀ x∈c,getB b x.n=some x.v)/\lstB [p] [v] b=some b:=by
 have hb:=Qo.1 hvb
 have hps:=hp
 simp only[Tm.valid,Bool.and_eq_true] at hps
 unfold Tm.expd at he
 split at he
 case isFalse=>cases he
 rename_i hc
 simp only[Bool.and_eq_true] at hc
 obtain⟨hval,hgr⟩:=hc
 have hval':=hval
 simp only[Tm.valid,Bool.and_eq_true,decide_eq_true_eq] at hval'
 split at he
 case h_2=>cases he
 rename_i l' hx
 cases he
 have hvv:=QV _ _ _ hval'.2 hgr hx hv
 have hvval:v.value=true:=by
  simp only[Tm.value,Tm.valid,Bool.and_eq_true,decide_eq_true_eq]
  exact⟨hvv.1,Nat.le_trans hvv.2.2 hval'.1,hvv.2.1⟩
 obtain⟨w,hw,hC1,hC2⟩:=(ZdE (fun x hx=>(hb.2 x hx).2) p l v hps.2 hgr hx).1 hv
 have hcls: ∀ y∈w.2,clsB b y=true:=fun y hy=>by
  obtain⟨L,q1,q2⟩:=hC2 y hy
  have g1:=Z6t (h:=Tm.gr) p v w hgr hw y hy
  have g2:=Z6t (h:=Tm.shape) p v w hval'.2 hw y hy
  unfold clsB Tm.expd
  have:((y.1.ap b).valid && (y.1.ap b).all Tm.gr)=true:=by
   simp only[Tm.valid,Bool.and_eq_true,decide_eq_true_eq]
   exact⟨⟨Nat.le_trans g2.2 hval'.1,g2.1⟩,g1.1⟩
  rw[if_pos this,q1]
  exact List.any_eq_true.2 ⟨_,q2,Z2p.2 rfl⟩
 have hnm:=Z4t p v w hps.2 hw
 have hself:lstB [p] [v] b=some b:=Z9A.2 ⟨hvb,hp,hvval,w,hw,⟨hb.1,hC1,fun _ _ h=>h,fun _ _ h=> .inl h⟩,List.all_eq_true.2 hcls⟩
 refine⟨hvval, ?_,hself⟩
 have hsl:=Z7A (b:=b) (fun x=>p.inns.contains x.n && !p.outs.contains x.n) hb.1
 have hless: ∀ s u,getB (Z1D p b) s=some u->getB b s=some u:=fun s u h=>Z03 hb.1 (List.mem_filter.1 (ZI h)).1
 have hvl:ZT (Z1D p b)=true:=Qo.2 ⟨hsl,fun x hx=>hb.2 x (List.mem_filter.1 hx).1⟩
 -- the smaller binding takes the wants
 have hbd: ∀ (m:List (List UInt8 × Tm)) (d:List Bd),(∀ x∈m,getB b x.1=some x.2)->srtB d->(∀ s u,getB d s=some u->getB b s=some u)-> ∃ c,bndA m d=some c:=by
  intro m
  induction m with
  | nil=>intro d _ _ _; exact⟨d,rfl⟩
  | cons x r ih =>
   intro d h1 h2 h3
   have hx:=h1 x (List.mem_cons_self ..)
   cases h4:bnd1 d x.1 x.2 with
   | none =>
    obtain⟨u,hu,hne⟩:=Z4S h4
    have:=h3 _ _ hu
    rw[hx] at this
    exact absurd (Option.some.inj this).symm hne
   | some d' =>
    obtain⟨q1,q2,_⟩:=Z4R h2 h4
    simp only[bndA,h4]
    refine ih d' (fun y hy=>h1 y (List.mem_cons_of_mem _ hy)) q1 fun s u hs=> ?_
    rw[q2] at hs
    split at hs
    ·rename_i e; subst e; cases hs; exact hx
    ·exact h3 s u hs
 obtain⟨c,hcb⟩:=hbd w.1 (Z1D p b) hC1 hsl hless
 have hB:=(Z0G hsl).1 hcb
 have hcb': ∀ s u,getB c s=some u->getB b s=some u:=fun s u h=>by
  rcases hB.new s u h with h | h
  ·exact hless s u h
  ·exact hC1 _ h
 refine⟨c,Z9A.2 ⟨hvl,hp,hvval,w,hw,hB,List.all_eq_true.2 fun y hy=> ?_⟩,fun x hx=>hcb' _ _ (Z03 hB.srt hx)⟩
 have hysh:=((Z9h (g:=Tm.shape) (h:=Tm.plain) p v w hps.2 hvv.1 hw).2 y hy).1
 have hygr:=(Z6t (h:=Tm.gr) p v w hgr hw y hy).1
 have e:y.1.ap c=y.1.ap b:=Z7g y.1 fun s hs=>by
  obtain⟨u,hu⟩:=Z6Z y.1 hysh hygr s hs
  have hin:=Z6s p v w hw y hy s hs
  rw[hu]
  by_cases ho:s∈p.outs
  ·rw[<- hnm] at ho
   obtain⟨x,hx,rfl⟩:=List.mem_map.1 ho
   have h1:=hB.all x hx
   have h2:=hC1 x hx
   rw[hu] at h2
   rw[h1,<- h2]
  ·have hm:=ZI hu
   have:(⟨s,u⟩:Bd)∈Z1D p b:=List.mem_filter.2 ⟨hm,by simp[hin,ho]⟩
   exact hB.old _ _ (Z03 hsl this)
 have:=hcls y hy
 unfold clsB at this ⊢
 rw[e]
 exact this
end Go.Sx
/- MATCHING,PLAIN: what is in the pairs,and how many there are. -/
namespace Go.Sx
def Her (P:Tm->Prop):Prop:= ∀ k n s l,P (.mk k n s l)-> ∀ x∈l,P x
theorem ZdR (B:Nat):Her (Tm.wf B):=fun k n s l h x hx=>by
 simp only[Tm.wf] at h
 exact QW.1 h.2.2.2.2.2 x hx
theorem ZgQ (N:Nat):Her (Tm.few N):=fun k n s l h x hx=>by
 simp only[Tm.few] at h
 exact ZM.1 h.2 x hx
theorem Z9S (N:Nat):Her fun x=>x.depth<=N:=fun k n s l h x hx=>by
 simp only[Tm.depth] at h
 have:=Z0P hx
 omega
theorem Z9T {P Q:Tm->Prop} (hP:Her P) (hQ:Her Q):Her fun x=>P x/\Q x:=fun k n s l h x hx=>⟨hP k n s l h.1 x hx,hQ k n s l h.2 x hx⟩
mutual
def Tm.cnt:Tm->Nat
 | .mk _ _ _ l=>Tm.cntL l+1
def Tm.cntL:List Tm->Nat
 | []=>0
 | a::r=>a.cnt+Tm.cntL r
end
mutual
theorem Z9f {P Q:Tm->Prop} (hP:Her P) (hQ:Her Q): ∀ (p v:Tm) (w:Wn),P p->Q v->p.prs v=some w->(∀ x∈w.1,Q x.2)/\ ∀ y∈w.2,P y.1/\Q y.2
 | .mk k n s l,.mk k' n' s' l',w,hp,hv,h=>by
  simp only[Tm.prs] at h
  split at h
  ·cases h
   exact⟨fun x hx=>by rw[List.mem_singleton] at hx; subst hx; exact hv,fun y hy=>by cases hy⟩
  ·split at h
   ·cases h
    exact⟨fun x hx=>(by cases hx),fun y hy=>by rw[List.mem_singleton] at hy; subst hy; exact⟨hp,hv⟩⟩
   ·split at h
    ·exact Z1L hP hQ l l' w (hP _ _ _ _ hp) (hQ _ _ _ _ hv) h
    ·cases h
theorem Z1L {P Q:Tm->Prop} (hP:Her P) (hQ:Her Q): ∀ (l l':List Tm) (w:Wn),(∀ x∈l,P x)->(∀ x∈l',Q x)->Tm.prsL l l'=some w->(∀ x∈w.1,Q x.2)/\ ∀ y∈w.2,P y.1/\Q y.2
 | [],[],w,hp,hv,h=>by
  simp only[Tm.prsL] at h
  cases h
  exact⟨fun x hx=>(by cases hx),fun y hy=>(by cases hy)⟩
 | a::l,b::m,w,hp,hv,h=>by
  simp only[Tm.prsL] at h
  obtain⟨u,v,h1,h2,rfl⟩:=Z0f h
  obtain⟨q1,q2⟩:=Z9f hP hQ a b u (hp a (List.mem_cons_self ..)) (hv b (List.mem_cons_self ..)) h1
  obtain⟨q3,q4⟩:=Z1L hP hQ l m v (fun x hx=>hp x (List.mem_cons_of_mem _ hx)) (fun x hx=>hv x (List.mem_cons_of_mem _ hx)) h2
  exact⟨fun x hx=>(List.mem_append.1 hx).elim (q1 x) (q3 x),fun x hx=>(List.mem_append.1 hx).elim (q2 x) (q4 x)⟩
 | [],_::_,w,hp,hv,h=>by simp only[Tm.prsL] at h; cases h
 | _::_,[],w,hp,hv,h=>by simp only[Tm.prsL] at h; cases h
end
mutual
theorem Z9g: ∀ (p v:Tm) (w:Wn),p.prs v=some w->w.1.length+w.2.length<=p.cnt
 | .mk k n s l,.mk k' n' s' l',w,h=>by
  simp only[Tm.prs] at h
  simp only[Tm.cnt]
  split at h
  ·cases h; simp
  ·split at h
   ·cases h; simp
   ·split at h
    ·have:=Z1M l l' w h; omega
    ·cases h
theorem Z1M: ∀ (l l':List Tm) (w:Wn),Tm.prsL l l'=some w->w.1.length+w.2.length<=Tm.cntL l
 | [],[],w,h=>by
  simp only[Tm.prsL] at h
  cases h
  simp
 | a::l,b::m,w,h=>by
  simp only[Tm.prsL] at h
  obtain⟨u,v,h1,h2,rfl⟩:=Z0f h
  have q1:=Z9g a b u h1
  have q2:=Z1M l m v h2
  simp only[Tm.cntL,List.length_append]
  omega
 | [],_::_,w,h=>by simp only[Tm.prsL] at h; cases h
 | _::_,[],w,h=>by simp only[Tm.prsL] at h; cases h
end
theorem Z6u: ∀ (l l':List Tm) (w:Wn),Tm.prsL l l'=some w->l.length=l'.length
 | [],[],w,h=>rfl
 | a::l,b::m,w,h=>by
  simp only[Tm.prsL] at h
  obtain⟨u,v,h1,h2,rfl⟩:=Z0f h
  have:=Z6u l m v h2
  simp only[List.length_cons]
  omega
 | [],_::_,w,h=>by simp only[Tm.prsL] at h; cases h
 | _::_,[],w,h=>by simp only[Tm.prsL] at h; cases h
theorem ZcT {b c:List Bd} {s:List UInt8} {v:Tm} (h:bnd1 b s v=some c):c.length<=b.length+1/\ ∀ x∈c,x∈b\/x=⟨s,v⟩:=by
 unfold bnd1 at h
 split at h
 ·split at h
  ·cases h; exact⟨by omega,fun x hx=> .inl hx⟩
  ·cases h
 ·cases h
  refine⟨by rw[Zct]; omega,fun x hx=> ?_⟩
  rcases Z15.1 hx with h | h
  ·exact .inr h
  ·exact .inl h
theorem Z1h: ∀ {l:List (List UInt8 × Tm)} {b c:List Bd},bndA l b=some c->c.length<=b.length+l.length/\ ∀ x∈c,x∈b\/(x.n,x.v)∈l
 | [],b,c,h=>by
  simp only[bndA] at h
  cases h
  exact⟨Nat.le_refl _,fun x hx=> .inl hx⟩
 | y::l,b,c,h=>by
  simp only[bndA] at h
  split at h
  ·rename_i c1 h1
   obtain⟨q1,q2⟩:=ZcT h1
   obtain⟨q3,q4⟩:=Z1h h
   refine⟨by simp only[List.length_cons]; omega,fun x hx=> ?_⟩
   rcases q4 x hx with h | h
   ·rcases q2 x h with h | h
    ·exact .inl h
    ·subst h; exact .inr (List.mem_cons_self ..)
   ·exact .inr (List.mem_cons_of_mem _ h)
  ·cases h
structure StB (N:Nat) (b:List Bd) (os:List (Tm × Tm)):Prop where
 srt:srtB b
 len:b.length+N<=1000000
 olen:os.length+N<=1000000
 wf: ∀ x∈b,x.v.wf 281474976710656/\x.v.few 1000/\x.v.depth<=100000000
 owf: ∀ y∈os,(y.1.wf 281474976710656/\y.1.few 1000/\y.1.depth<=100000000)/\(y.2.wf 281474976710656/\y.2.few 1000/\y.2.depth<=100000000)
abbrev TmB (x:Tm):Prop:=x.wf 281474976710656/\x.few 1000/\x.depth<=100000000
theorem Z01:Her TmB:=Z9T (ZdR _) (Z9T (ZgQ _) (Z9S _))
theorem StB.mono {M N:Nat} {b:List Bd} {os:List (Tm × Tm)} (h:StB M b os) (hN:N<=M):StB N b os:=⟨h.srt,by have:=h.len; omega,by have:=h.olen; omega,h.wf,h.owf⟩
theorem Z3F {q:Option Wn} {b:List Bd} {os:List (Tm × Tm)} {r:List Bd × List (Tm × Tm)} (h:oA q b os=some r): ∃ w,q=some w/\bndA w.1 b=some r.1/\r.2=os++w.2:=by
 cases q with
 | none=>simp only[oA] at h; cases h
 | some x =>
  simp only[oA] at h
  split at h
  ·cases h
  ·rename_i c hc
   cases h
   exact⟨x,rfl,hc,rfl⟩
theorem ZdJ {p:Tm} {v:Tm} {N:Nat} {b:List Bd} {os:List (Tm × Tm)} {r:List Bd × List (Tm × Tm)} (hp:TmB p) (hv:TmB v) (h:StB (p.cnt+N) b os) (hr:oA (p.prs v) b os=some r):StB N r.1 r.2:=by
 obtain⟨w,h1,h2,h3⟩:=Z3F hr
 obtain⟨q1,q2⟩:=Z9f Z01 Z01 p v w hp hv h1
 have q3:=Z9g p v w h1
 obtain⟨q4,q5⟩:=Z1h h2
 have e1:=h.len
 have e2:=h.olen
 refine⟨((Z0G h.srt).1 h2).srt,by omega,by rw[h3,List.length_append]; omega,fun x hx=> ?_,fun y hy=> ?_⟩
 ·rcases q5 x hx with hx | hx
  ·exact h.wf x hx
  ·exact q1 _ hx
 ·rw[h3] at hy
  rcases List.mem_append.1 hy with hy | hy
  ·exact h.owf y hy
  ·exact q2 y hy
theorem Zgo {l l':List Tm} {N:Nat} {b:List Bd} {os:List (Tm × Tm)} {r:List Bd × List (Tm × Tm)} (hp: ∀ x∈l,TmB x) (hv: ∀ x∈l',TmB x) (h:StB (Tm.cntL l+N) b os) (hr:oA (Tm.prsL l l') b os=some r):StB N r.1 r.2:=by
 obtain⟨w,h1,h2,h3⟩:=Z3F hr
 obtain⟨q1,q2⟩:=Z1L Z01 Z01 l l' w hp hv h1
 have q3:=Z1M l l' w h1
 obtain⟨q4,q5⟩:=Z1h h2
 have e1:=h.len
 have e2:=h.olen
 refine⟨((Z0G h.srt).1 h2).srt,by omega,by rw[h3,List.length_append]; omega,fun x hx=> ?_,fun y hy=> ?_⟩
 ·rcases q5 x hx with hx | hx
  ·exact h.wf x hx
  ·exact q1 _ hx
 ·rw[h3] at hy
  rcases List.mem_append.1 hy with hy | hy
  ·exact h.owf y hy
  ·exact q2 y hy
mutual
theorem Zjn: ∀ (x:Tm) (m:Int),x.sz m<=m->(x.cnt:Int)<=x.sz m
 | .mk k n s l,m,h=>by
  simp only[Tm.sz] at h ⊢
  have:=Z59 l (m-1) 0 (by omega)
  simp only[Tm.cnt]
  omega
theorem Z59: ∀ (l:List Tm) (m n:Int),Tm.szL l m n<=m->n+(Tm.cntL l:Int)<=Tm.szL l m n
 | [],m,n,h=>by simp only[Tm.szL,Tm.cntL]; omega
 | a::r,m,n,h=>by
  simp only[Tm.szL] at h ⊢
  split at h
  ·rename_i hn
   rw[if_pos hn]
   have g:=Z1V r m (n+a.sz (m-n))
   have h1:=Zjn a (m-n) (by omega)
   have h2:=Z59 r m (n+a.sz (m-n)) h
   simp only[Tm.cntL]
   omega
  ·omega
end
mutual
theorem Z48 {b:List Bd} {N:Nat} (hb: ∀ x∈b,x.v.depth<=N): ∀ t:Tm,(t.ap b).depth<=t.depth+N
 | .mk k n s l=>by
  have hl:=Z4W hb l
  have hk:(Tm.mk k n s (Tm.apL b l)).depth<=(Tm.mk k n s l).depth+N:=by
   simp only[Tm.depth]
   omega
  rw[Tm.ap]
  rw[apK]
  split
  ·cases hq:getB b s with
   | none=>exact hk
   | some v =>
    have h1:v.depth<=N:=hb _ (ZI hq)
    show v.depth<=_
    omega
  ·exact hk
theorem Z4W {b:List Bd} {N:Nat} (hb: ∀ x∈b,x.v.depth<=N): ∀ l:List Tm,Tm.depthL (Tm.apL b l)<=Tm.depthL l+N
 | []=>Nat.zero_le _
 | a::r=>by
  have h1:=Z48 hb a
  have h2:=Z4W hb r
  show Nat.max (a.ap b).depth (Tm.depthL (Tm.apL b r))<=Nat.max a.depth (Tm.depthL r)+N
  have e1:Nat.max (a.ap b).depth (Tm.depthL (Tm.apL b r))=max (a.ap b).depth (Tm.depthL (Tm.apL b r)):=rfl
  have e2:Nat.max a.depth (Tm.depthL r)=max a.depth (Tm.depthL r):=rfl
  rw[e1,e2]
  omega
end
end Go.Sx
/- THE COUNT OF DRAWS NEVER FALLS: over whatever steps of the machine. -/
namespace Go.Sx.Dr
open Go
def Res.w {α:Type}:Result α->World
 | .ok _ w=>w
 | .halt _ w=>w
theorem Zna {α:Type}: ∀ (a:Ask α) (w:World),w.drawn<=(w.ask a).2.drawn:=by
 intro a
 induction a with
 | done a=>exact fun w=>Nat.le_refl _
 | ask what range k ih =>
  intro w
  simp only[World.ask]
  split
  ·exact ih _ w
  ·exact Nat.le_trans (Nat.le_succ _) (ih _ { w with drawn:=w.drawn+1 })
theorem Zdq (w:World) (c:Sys):w.drawn<=(w.sys c).2.drawn:=by
 unfold World.sys
 have h:=Zna (Kernel.perform c w.os) w
 split
 ·exact Nat.le_refl _
 ·rename_i h1 h2
  rw[h2] at h; exact h
theorem ZeI {p:Program} {w:World} {a:Addr} {u:TypeId} {k:Addr} {v:Value} {b:Bool} {r:World × List Addr} (h:w.viewStore p a u k v b= .ok r):r.1.drawn=w.drawn:=by
 unfold World.viewStore at h
 simp only[bind,Except.bind,pure,Except.pure] at h
 repeat' split at h
 all_goals first
  | (cases h; done)
  | (cases h; rfl)
theorem ZdZ {p:Program} {w:World} {a:Addr} {v:Value} {b:Bool} {r:World × List Addr} (h:w.farStore p a v b= .ok r):r.1.drawn=w.drawn:=by
 unfold World.farStore at h
 split at h
 ·split at h
  ·rename_i hv; cases h; exact ZeI hv
  ·cases h
 ·cases h
theorem Z4E (w:World) (a:Addr) (n:Nat):(w.freeze a n).drawn=w.drawn:=by
 unfold World.freeze
 repeat' split
 all_goals rfl
theorem ZL {α:Type} (p:Program): ∀ (s:Sem α) (w:World),w.drawn<=(Res.w (s.run p w)).drawn:=by
 intro s
 induction s with
 | pure a=>exact fun w=>Nat.le_refl _
 | load m a k ih =>
  intro w
  simp only[Sem.run]
  split
  ·exact ih _ w
  ·split
   ·exact ih _ w
   ·exact Nat.le_refl _
 | store m a v k ih =>
  intro w
  cases v <;> simp only[Sem.run] <;> (repeat' split) <;> first
   | exact Nat.le_refl _
   | exact ih (w.setCell a _)
   | (rename_i h; exact Nat.le_trans (Nat.le_of_eq (ZdZ h).symm) (ih _))
 | new o k ih=>exact fun w=>ih _ { w with heap:=w.heap.push o }
 | shape r k ih=>exact fun w=>ih _ w
 | freeze a n k ih=>exact fun w=>Nat.le_trans (Nat.le_of_eq (Z4E w a n).symm) (ih _)
 | frozen a k ih=>exact fun w=>ih _ w
 | getObj r k ih =>
  intro w
  simp only[Sem.run]
  repeat' split
  all_goals first
   | exact Nat.le_refl _
   | exact ih _ w
 | setObj r o k ih =>
  intro w
  simp only[Sem.run]
  repeat' split
  all_goals first
   | exact Nat.le_refl _
   | exact ih { w with heap:=w.heap.setIfInBounds r o }
 | choose q k ih =>
  intro w
  simp only[Sem.run]
  split
  ·exact ih _ w
  ·exact Nat.le_trans (Nat.le_succ _) (ih _ { w with drawn:=w.drawn+1 })
 | sys c k ih=>exact fun w=>Nat.le_trans (Zdq w c) (ih _ _)
 | program k ih=>exact fun w=>ih _ w
 | mark m k ih=>exact fun w=>ih w
 | halt h=>exact fun w=>Nat.le_refl _
theorem Z3w {α:Type} (p:Program): ∀ (s:Sem α) (w:World) (es:Array Event),w.drawn<=(Res.w (s.runT p w es).1).drawn:=by
 intro s
 induction s with
 | pure a=>exact fun w _=>Nat.le_refl _
 | load m a k ih =>
  intro w es
  simp only[Sem.runT]
  split
  ·exact ih _ w _
  ·split
   ·exact ih _ w _
   ·exact Nat.le_refl _
 | store m a v k ih =>
  intro w es
  cases v <;> simp only[Sem.runT] <;> (repeat' split) <;> first
   | exact Nat.le_refl _
   | exact ih (w.setCell a _) _
   | (rename_i h; exact Nat.le_trans (Nat.le_of_eq (ZdZ h).symm) (ih _ _))
 | new o k ih=>exact fun w es=>ih _ { w with heap:=w.heap.push o } es
 | shape r k ih=>exact fun w es=>ih _ w es
 | freeze a n k ih=>exact fun w es=>Nat.le_trans (Nat.le_of_eq (Z4E w a n).symm) (ih _ es)
 | frozen a k ih=>exact fun w es=>ih _ w es
 | getObj r k ih =>
  intro w es
  simp only[Sem.runT]
  repeat' split
  all_goals first
   | exact Nat.le_refl _
   | exact ih _ w _
 | setObj r o k ih =>
  intro w es
  simp only[Sem.runT]
  repeat' split
  all_goals first
   | exact Nat.le_refl _
   | exact ih { w with heap:=w.heap.setIfInBounds r o } _
 | choose q k ih =>
  intro w es
  simp only[Sem.runT]
  split
  ·exact ih _ w es
  ·exact Nat.le_trans (Nat.le_succ _) (ih _ { w with drawn:=w.drawn+1 } es)
 | sys c k ih=>exact fun w es=>Nat.le_trans (Zdq w c) (ih _ _ _)
 | program k ih=>exact fun w es=>ih _ w es
 | mark m k ih=>exact fun w es=>ih w _
 | halt h=>exact fun w es=>Nat.le_refl _
def Gok (d:Nat):GStep->Prop
 | .go _ w _=>d<=w.drawn
 | .comm _ _ _ _ w _=>d<=w.drawn
 | .spawn _ _ w _=>d<=w.drawn
 | .count _ w _=>d<=w.drawn
 | .timer _ _ w _=>d<=w.drawn
 | .alone _ _ w _=>d<=w.drawn
 | .newcoro _ _ _ w _=>d<=w.drawn
 | .coroswitch _ _ _ w _=>d<=w.drawn
 | .collect _ w _=>d<=w.drawn
 | .watch _ w _=>d<=w.drawn
 | .ended .. => True
theorem Qf {d:Nat} {es:Array Event} {s:GStep} (h:Gok d s):Gok d (s.after es):=by cases s <;> exact h
theorem Z37 {d e:Nat} {s:GStep} (h:Gok d s) (he:e<=d):Gok e s:=by
 cases s <;> first | exact Nat.le_trans he h | trivial
theorem ZmD {d:Nat} (w:World) (fd:Nat) (t:ByteArray) (o:Outcome):Gok d (endWith w fd t o):=by
 unfold endWith
 simp only
 repeat' split
 all_goals trivial
theorem ZbI (fr:Frame) (m:String) (w:World):Gok w.drawn (endThrow fr m w):=Nat.le_refl _
theorem Z6w (p:Program) (fr:Frame) (v:Value) (w:World):Gok w.drawn (endPrinting p fr v w):=by
 unfold endPrinting
 simp only
 split
 ·exact Nat.le_refl _
 ·trivial
theorem ZcC (p:Program) (fr:Frame) (cs:List Frame) (dy:Option Dying) (m:String) (w:World):Gok w.drawn (endFatal p fr cs dy m w):=by
 unfold endFatal
 simp only
 split
 ·rename_i h
  have:=congrArg (fun r=>(Res.w r).drawn) h
  exact Nat.le_trans (ZL p _ w) (Nat.le_of_eq this)
 ·trivial
 ·trivial
theorem gite {d:Nat} {c:Prop} [Decidable c] {a b:GStep} (ha:Gok d a) (hb:Gok d b):Gok d (if c then a else b):=by split <;> assumption
theorem pair {α:Type} (p:Program) (s:Sem α) (w:World) (es:Array Event): ∃ r es',s.runT p w es=(r,es')/\w.drawn<=(Res.w r).drawn :=
 ⟨_,_,rfl,Z3w p s w es⟩
theorem one {α:Type} (p:Program) (s:Sem α) (w:World): ∃ r,s.run p w=r/\w.drawn<=(Res.w r).drawn:=⟨_,rfl,ZL p s w⟩
theorem Z6Y {d:Nat} {fr:Frame} {m:String} {w:World} (h:d<=w.drawn):Gok d (endThrow fr m w):=Z37 (ZbI fr m w) h
theorem ZdT {d:Nat} {p:Program} {fr:Frame} {cs:List Frame} {dy:Option Dying} {m:String} {w:World} (h:d<=w.drawn):Gok d (endFatal p fr cs dy m w):=Z37 (ZcC p fr cs dy m w) h
theorem ZlH {d:Nat} {p:Program} {fr:Frame} {v:Value} {w:World} (h:d<=w.drawn):Gok d (endPrinting p fr v w):=Z37 (Z6w p fr v w) h
theorem Zbq (p:Program) (fr:Frame) (d:Dying) (f:Fatal) (w:World):Gok w.drawn (writeOn p fr d f w):=by
 unfold writeOn
 simp only
 split
 ·trivial
 ·split
  ·rename_i h
   exact Nat.le_trans (Z3w p _ w #[]) (Nat.le_of_eq (congrArg (fun r=>(Res.w r.1).drawn) h))
  ·rename_i h
   exact Nat.le_trans (Z3w p _ w #[]) (Nat.le_of_eq (congrArg (fun r=>(Res.w r.1).drawn) h))
  ·trivial
  ·trivial
theorem ZmF (p:Program) (fr:Frame) (d:Dying) (w:World):Gok w.drawn (die p fr d w):=by
 unfold die
 split
 ·exact Zbq _ _ _ _ _
 ·split
  ·split
   ·exact Nat.le_refl _
   ·exact ZmD _ _ _ _
  ·simp only
   split
   ·exact Nat.le_refl _
   ·split
    ·rename_i h
     exact Nat.le_trans (ZL p _ w) (Nat.le_of_eq (congrArg (fun r=>(Res.w r).drawn) h))
    ·trivial
   ·rename_i t recv name _
    obtain⟨r,es',hr,hle⟩:=pair p (invoke (.fn (.method name) #[]) #[.iface t recv]) w #[]
    rw[hr]
    refine Qf ?_
    try simp only
    split <;> first | exact hle | trivial | exact ZlH hle
   ·trivial
theorem ZdC (p:Program) (main:Bool) (fr:Frame) (cs:List Frame) (dy:Option Dying) (v:Value) (w:World):Gok w.drawn (doReturn p main fr cs dy v w):=by
 unfold doReturn
 simp only
 repeat' split
 all_goals first | exact Nat.le_refl _ | trivial
theorem gret {d:Nat} {p:Program} {main:Bool} {fr:Frame} {cs:List Frame} {dy:Option Dying} {v:Value} {w:World} (h:d<=w.drawn):Gok d (doReturn p main fr cs dy v w):=Z37 (ZdC ..) h
theorem ZcK (p:Program) (fr:Frame) (cs:List Frame) (dy:Option Dying) (d:Deferred) (w:World):Gok w.drawn (callDeferred p fr cs dy d w):=by
 unfold callDeferred
 refine gite ?_ ?_
 ·trivial
 ·obtain⟨r,es',hr,hle⟩:=pair p (invoke d.target d.args) w #[]
  rw[hr]
  refine Qf ?_
  try simp only
  split <;> first | exact hle | trivial | exact Z6Y hle | exact ZdT hle | (split <;> exact hle)
theorem Z8y (p:Program) (main:Bool) (fr:Frame) (cs:List Frame) (dy:Option Dying) (w:World):Gok w.drawn (unwind p main fr cs dy w):=by
 unfold unwind
 split
 ·rename_i block _ ds _
  obtain⟨r,es',hr,hle⟩:=pair p (Instr.takeDeferred block) w #[]
  rw[hr]
  refine Qf ?_
  try simp only
  split
  ·exact hle
  ·trivial
 ·exact ZcK _ _ _ _ _ _
 ·split
  ·trivial
  ·split
   ·trivial
   ·split
    ·exact Nat.le_refl _
    ·split
     ·split
      ·exact Nat.le_refl _
      ·split
       ·rename_i h
        exact Nat.le_trans (ZL p _ w) (Nat.le_of_eq (congrArg (fun r=>(Res.w r).drawn) h))
       ·trivial
       ·trivial
     ·split
      ·exact Z6w _ _ _ _
      ·trivial
  ·split
   ·exact ZdC ..
   ·rename_i fn _
    obtain⟨r,es',hr,hle⟩:=pair p (results fn fr.tmps) w #[]
    rw[hr]
    refine Qf ?_
    try simp only
    split
    ·exact gret hle
    ·trivial
    ·trivial
theorem ZcH (p:Program) (fr:Frame) (cs:List Frame) (dy:Option Dying) (g:Nat) (w:World):Gok w.drawn (early p fr cs dy g w):=by
 have nyet: ∀ (w':World) (e1:String),w.drawn<=w'.drawn->Gok w.drawn (match w'.heap[g]? with
  | some (.pending c elem)=> .go { frame:=fr,callers:=cs,status:= .running,dying:=dy } { w' with heap:=w'.heap.setIfInBounds g (.cells c elem) }
  | _=> .ended (.stuck e1 (fr.pos p)) w'):=fun w' e1 h=>by
  split
  ·exact h
  ·trivial
 unfold early
 simp only
 split
 ·exact nyet w _ (Nat.le_refl _)
 ·split
  ·trivial
  ·split
   ·exact nyet w _ (Nat.le_refl _)
   ·split
    ·exact nyet w _ (Nat.le_refl _)
    ·split
     ·trivial
     ·exact Nat.le_refl _
     ·trivial
     ·exact nyet w _ (Nat.le_refl _)
     ·split
      ·exact Nat.le_refl _
      ·split
       ·exact nyet w _ (Nat.le_refl _)
       ·split
        ·rename_i h
         exact nyet _ _ (Nat.le_trans (ZL p _ w) (Nat.le_of_eq (congrArg (fun r=>(Res.w r).drawn) h)))
        ·rename_i h
         exact Nat.le_trans (ZL p _ w) (Nat.le_of_eq (congrArg (fun r=>(Res.w r).drawn) h))
        ·trivial
theorem ZlK {d:Nat} {p:Program} {fr:Frame} {cs:List Frame} {dy:Option Dying} {g:Nat} {w:World} (h:d<=w.drawn):Gok d (early p fr cs dy g w):=Z37 (ZcH ..) h
theorem Z09 (p:Program) (listen:Bool) (fr:Frame) (cs:List Frame) (dy:Option Dying) (s:Sem Next) (w:World):Gok w.drawn (stepG.apply p listen fr cs dy s w):=by
 unfold stepG.apply
 simp only
 have hle:w.drawn<=(Res.w (if listen=true then s.runT p w #[] else (s.run p w, #[])).1).drawn:=by
  split
  ·exact Z3w p s w #[]
  ·exact ZL p s w
 generalize (if listen=true then s.runT p w #[] else (s.run p w, #[]))=q at hle ⊢
 obtain⟨r,es⟩:=q
 refine Qf ?_
 simp only at hle ⊢
 split <;> first
  | exact hle
  | trivial
  | exact Z6Y hle
  | exact ZdT hle
  | exact ZlK hle
  | exact gite (Z6Y hle) hle
  | (split <;> first | exact hle | exact Z6Y hle)
theorem Zgj (p:Program) (listen:Bool) (fr:Frame) (cs:List Frame) (dy:Option Dying) (w:World):Gok w.drawn (stepG.oper p listen fr cs dy w):=by
 unfold stepG.oper
 split
 ·trivial
 ·split <;> exact Z09 ..
theorem ZlL {d:Nat} {p:Program} {listen:Bool} {fr:Frame} {cs:List Frame} {dy:Option Dying} {s:Sem Next} {w:World} (h:d<=w.drawn):Gok d (stepG.apply p listen fr cs dy s w):=Z37 (Z09 ..) h
theorem Zhc (p:Program) (main listen:Bool) (fr:Frame) (cs:List Frame) (dy:Option Dying) (w:World):Gok w.drawn (stepG.exec p main listen fr cs dy w):=by
 have leave: ∀ (jump:Option Code) (e1 e2:String),Gok w.drawn (match fr.roundOf with
   | none=>if (match jump with | none | some .ret=>true | _=>false)=true then GStep.go { frame:={ fr with mode:= .returning },callers:=cs,status:= .running,dying:=dy } w else .ended (.stuck e1 (fr.pos p)) w
   | some l =>
    match (Instr.endRound l jump).runT p w #[] with
    | (r,es)=>GStep.after (seen p fr.fn es) (match r with
     | .ok v w=>doReturn p main fr cs dy v w
     | .halt _ w=> .ended (.stuck e2 (fr.pos p)) w)):=fun jump e1 e2=>by
  split
  ·exact gite (Nat.le_refl _) trivial
  ·rename_i l _
   obtain⟨r,es',hr,hle⟩:=pair p (Instr.endRound l jump) w #[]
   rw[hr]
   refine Qf ?_
   try simp only
   split
   ·exact gret hle
   ·trivial
 have eli: ∀ (o:Option (List Item)) (j:Code) (f:List Item->GStep),(∀ k,Gok w.drawn (f k))-> ∀ g,Gok w.drawn g->Gok w.drawn (o.elim g f):=fun o j f hf g hg=>by
  cases o
  ·exact hg
  ·exact hf _
 unfold stepG.exec
 simp only
 split
 ·exact leave none "" _
 ·exact leave (some .ret) "" _
 all_goals try exact Nat.le_refl _
 all_goals try trivial
 all_goals try exact Z09 ..
 ·split
  ·exact Nat.le_refl _
  ·trivial
 ·rename_i id k _
  exact eli _ .skip _ (fun _=>Nat.le_refl _) _ (leave (some (.exit id)) _ _)
 ·rename_i id k _
  exact eli _ .skip _ (fun _=>Nat.le_refl _) _ (leave (some (.goto id)) _ _)
 ·rename_i f ps asg body k _
  obtain⟨r,es',hr,hle⟩:=pair p (Instr.enterLoop fr.fn fr.tmps ps asg body fr.roundOf) w #[]
  rw[hr]
  refine Qf ?_
  try simp only
  split
  ·exact ZlL hle
  ·trivial
 ·rename_i l k _
  obtain⟨r,es',hr,hle⟩:=pair p (Instr.endLoop l) w #[]
  rw[hr]
  refine Qf ?_
  try simp only
  split
  ·exact hle
  ·exact hle
  ·trivial
 ·rename_i row args _ _
  cases Extern.next row
  ·trivial
  ·exact Z09 ..
 ·split
  ·exact Nat.le_refl _
  ·split
   ·rename_i h
    exact Nat.le_trans (ZL p _ w) (Nat.le_of_eq (congrArg (fun r=>(Res.w r).drawn) h))
   ·trivial
 ·refine gite (Zgj ..) (Nat.le_refl _)
theorem ZbL (p:Program) (main:Bool) (g:Goroutine) (w:World) (listen:Bool):Gok w.drawn (stepG p main g w listen):=by
 unfold stepG
 split
 try simp only
 split
 ·exact ZmF ..
 ·exact Zhc ..
 ·exact Z8y ..
def Sok (d:Nat):Stepped->Prop
 | .next m=>d<=m.world.drawn
 | .ended .. => True
theorem Z4i {d e:Nat} {s:Stepped} (h:Sok d s) (he:e<=d):Sok e s:=by
 cases s
 ·exact Nat.le_trans he h
 ·trivial
theorem Z9C (p:Program) (gs:Array Goroutine) (rest:Rest) (w:World):Sok w.drawn (look p gs rest w):=by
 unfold look
 split
 ·simp only
  split
  ·trivial
  ·split
   ·trivial
   ·split
    ·rename_i h
     exact Nat.le_trans (ZL p _ w) (Nat.le_of_eq (congrArg (fun r=>(Res.w r).drawn) h))
    ·trivial
    ·trivial
 ·trivial
theorem ZeG {rest:Rest} {cases:Array CommCase} {w w':World} (h:waitingAt rest cases w=some w'):w'.drawn=w.drawn:=by
 unfold waitingAt at h
 split at h
 ·split at h
  ·cases h; rfl
  ·cases h
 ·cases h; rfl
theorem Zhr (p:Program) (rest:Rest) (gs:Array Goroutine) (i:Nat) (g:Goroutine) (cases:Array CommCase) (blocking:Bool) (shape:CommShape) (w:World):Sok w.drawn (communicate p rest gs i g cases blocking shape w).1:=by
 unfold communicate
 simp only
 split
 ·trivial
 ·split
  ·split
   ·split
    ·rename_i h; exact Nat.le_of_eq (ZeG h).symm
    ·trivial
   ·exact Nat.le_refl _
  ·split
   ·trivial
   ·rename_i h
    have hle:=Nat.le_trans (ZL p _ w) (Nat.le_of_eq (congrArg (fun r=>(Res.w r).drawn) h))
    simp only[Res.w] at hle
    split
    ·split
     ·rename_i h2
      exact Nat.le_trans hle (Nat.le_trans (ZL p _ _) (Nat.le_of_eq (congrArg (fun r=>(Res.w r).drawn) h2)))
     ·trivial
    ·exact hle
    ·exact hle
    ·split
     ·exact hle
     ·split
      ·rename_i h2
       exact Nat.le_trans hle (Nat.le_trans (ZL p _ _) (Nat.le_of_eq (congrArg (fun r=>(Res.w r).drawn) h2)))
      ·trivial
    ·exact hle
    ·exact hle
    ·trivial
theorem ZbP (p:Program) (m:Machine) (k:Nat):Sok m.world.drawn (serve p m k):=by
 unfold serve
 split
 ·trivial
 ·exact Nat.le_refl _
 ·simp only
  split
  ·trivial
  ·exact Nat.le_refl _
theorem ZcJ (w:World) (c:Nat):(drain w c).2.drawn=w.drawn:=by
 unfold drain
 split <;> rfl
theorem Z4q (m:Machine) (k:Nat) (t:Timer) (a b:Nat):(retime m k t a b).2.world.drawn=m.world.drawn:=by
 unfold retime
 simp only
 split
 ·exact ZcJ _ _
 ·rfl
theorem Z9l {m m':Machine} {a:Addr} (h:timerOp.opened m a=some m'):m'.world.drawn=m.world.drawn:=by
 unfold timerOp.opened at h
 split at h
 ·split at h
  ·cases h; rfl
  ·cases h
 ·cases h; rfl
theorem Z6F {m:Machine} {a:Addr} {f:Nat->Timer->Value × Machine} {d:Nat} (hf: ∀ k t,(f k t).2.world.drawn=d) {r:Value × Machine} (h:timerOp.named m a f= .ok r):r.2.world.drawn=d:=by
 unfold timerOp.named at h
 split at h
 ·cases h; exact hf _ _
 ·cases h
theorem ZbH {m:Machine} {op:TimerOp} {r:Value × Machine} (h:timerOp m op= .ok r):r.2.world.drawn=m.world.drawn:=by
 unfold timerOp at h
 split at h
 ·split at h
  ·cases h; rfl
  ·split at h
   ·split at h
    ·cases h
    ·cases h; rfl
   ·cases h
 ·exact Z6F (fun k t=>Z4q ..) h
 ·split at h
  ·rename_i ho
   exact Z6F (fun k t=>(Z4q ..).trans (Z9l ho)) h
  ·cases h
 ·cases h; rfl
theorem Zgw (p:Program) (m:Machine) (i:Nat) (listen:Bool):Sok m.world.drawn (runT p m i listen).1:=by
 unfold runT
 simp only
 have h:=ZbL p (i == 0) (m.gs.swapAt! i { (default:Goroutine) with status:= .finished }).1 m.world listen
 generalize stepG p (i == 0) (m.gs.swapAt! i { (default:Goroutine) with status:= .finished }).1 m.world listen=s at h ⊢
 cases s with
 | ended o w es=>trivial
 | comm g cases b sh w es=>exact Z4i (Zhr ..) h
 | go g w es=>exact h
 | spawn g c w es=>exact h
 | count g w es =>
  simp only
  split
  ·trivial
  ·exact h
 | alone g on w es=>exact h
 | collect g w es=>exact Z4i (Z9C ..) h
 | watch g w es=>exact h
 | newcoro g c d w es=>exact h
 | coroswitch g c ex w es =>
  simp only
  split
  ·exact h
  ·split
   ·rename_i h2
    unfold endThrow dieOf at h2
    cases h2
    exact h
   ·trivial
  ·trivial
 | timer g op w es =>
  simp only
  split
  ·rename_i h2
   exact Nat.le_trans h (Nat.le_of_eq (ZbH h2).symm)
  ·split
   ·rename_i h2
    unfold endThrow dieOf at h2
    cases h2
    exact h
   ·trivial
  ·trivial
  ·trivial
def Mok (d:Nat):Move->Prop
 | .goroutine m _=>d<=m.world.drawn
 | .machine s _=>Sok d s
theorem ZdM {d e:Nat} {s:Move} (h:Mok d s) (he:e<=d):Mok e s:=by
 cases s
 ·exact Nat.le_trans he h
 ·exact Z4i h he
theorem Z47 (p:Program) (m:Machine):Mok m.world.drawn (askOn p m):=by
 unfold askOn
 simp only
 split
 ·trivial
 ·rename_i h1
  have h1:=Nat.le_trans (ZL p _ _) (Nat.le_of_eq (congrArg (fun r=>(Res.w r).drawn) h1))
  simp only[Res.w] at h1
  split
  ·exact Z4i (ZbP ..) h1
  ·split
   ·split
    ·exact h1
    ·split
     ·exact h1
     ·split
      ·trivial
      ·trivial
   ·split
    ·split
     ·trivial
     ·rename_i h8
      have h8:=Nat.le_trans h1 (Nat.le_trans (ZL p _ _) (Nat.le_of_eq (congrArg (fun r=>(Res.w r).drawn) h8)))
      split
      ·exact h8
      ·split
       ·trivial
       ·rename_i h9
        exact Nat.le_trans h8 (Nat.le_trans (ZL p _ _) (Nat.le_of_eq (congrArg (fun r=>(Res.w r).drawn) h9)))
    ·split
     ·trivial
     ·rename_i h2
      have h2:=Nat.le_trans h1 (Nat.le_trans (ZL p _ _) (Nat.le_of_eq (congrArg (fun r=>(Res.w r).drawn) h2)))
      split
      ·trivial
      ·rename_i h8
       have h8:=Nat.le_trans h2 (Nat.le_trans (ZL p _ _) (Nat.le_of_eq (congrArg (fun r=>(Res.w r).drawn) h8)))
       split
       ·exact h8
       ·split
        ·trivial
        ·rename_i h9
         exact Nat.le_trans h8 (Nat.le_trans (ZL p _ _) (Nat.le_of_eq (congrArg (fun r=>(Res.w r).drawn) h9)))
     ·rename_i h2
      exact Nat.le_trans h1 (Nat.le_trans (ZL p _ _) (Nat.le_of_eq (congrArg (fun r=>(Res.w r).drawn) h2)))
     ·rename_i h2
      have h2:=Nat.le_trans h1 (Nat.le_trans (ZL p _ _) (Nat.le_of_eq (congrArg (fun r=>(Res.w r).drawn) h2)))
      split
      ·trivial
      ·rename_i h8
       have h8:=Nat.le_trans (m:=(Machine.world (Machine.advanceTo { m with world:=_ } _)).drawn) h2 (Nat.le_trans (ZL p _ _) (Nat.le_of_eq (congrArg (fun r=>(Res.w r).drawn) h8)))
       split
       ·exact h8
       ·split
        ·trivial
        ·rename_i h9
         exact Nat.le_trans h8 (Nat.le_trans (ZL p _ _) (Nat.le_of_eq (congrArg (fun r=>(Res.w r).drawn) h9)))
theorem Ze7 (p:Program) (m:Machine):Mok m.world.drawn (ask p m):=by
 unfold ask
 split
 ·split
  ·trivial
  ·rename_i world h1
   have h1:=Nat.le_trans (ZL p _ _) (Nat.le_of_eq (congrArg (fun r=>(Res.w r).drawn) h1))
   have h2:=Z9C p m.gs m.rest world
   split
   ·rename_i h3
    rw[h3] at h2
    exact ZdM (Z47 ..) (Nat.le_trans h1 h2)
   ·exact Z4i h2 h1
  ·rename_i h1
   have h1:=Nat.le_trans (ZL p _ _) (Nat.le_of_eq (congrArg (fun r=>(Res.w r).drawn) h1))
   exact ZdM (Z47 p { m with world:=_ }) h1
 ·exact Z47 ..
theorem Zgx (p:Program) (m:Machine):Mok m.world.drawn (move p m):=by
 unfold move
 split
 ·split
  ·exact Nat.le_refl _
  ·trivial
 ·split
  ·split
   ·exact Nat.le_refl _
   ·exact Ze7 p { m with rest:=_ }
  ·exact Ze7 ..
theorem ZeU {p:Program} {m m':Machine} (h:step p m= .next m'):m.world.drawn<=m'.world.drawn:=by
 have h1:=Zgx p m
 unfold step stepT at h
 generalize move p m=mv at h h1
 cases mv with
 | goroutine m1 i =>
  have h2:=Zgw p m1 i true
  simp only at h
  rw[h] at h2
  exact Nat.le_trans h1 h2
 | machine s ops =>
  simp only at h
  subst h
  exact h1
theorem Z6i {p:Program} {m m':Machine} (h:Steps p m m'):m.world.drawn<=m'.world.drawn:=by
 obtain⟨n,hn⟩:=h
 induction n generalizing m with
 | zero=>simp only[runN,Stepped.next.injEq] at hn; subst hn; exact Nat.le_refl _
 | succ n ih =>
  simp only[runN] at hn
  cases hs:step p m with
  | next m1=>rw[hs] at hn; exact Nat.le_trans (ZeU hs) (ih hn)
  | ended o w=>rw[hs] at hn; cases hn
theorem calls_le {P:Program} {f:FuncId} {args:Array Value} {w:World} {R:Ending->World->Prop} (h:Calls P f args w R) (hn: ∀ w',¬ R .outgrown w'):Calls P f args w fun e w'=>R e w'/\w.drawn<=w'.drawn:=fun cs=>by
 obtain⟨e,w',fr,hR,hc,h1,h2⟩:=h cs
 refine⟨e,w',fr,⟨hR, ?_⟩,hc,h1,h2⟩
 cases e with
 | returned v=>exact Z6i (m:=lone _ cs w) (m':=lone fr cs w') hc
 | panicked ch=>exact Z6i (m:=lone _ cs w) (m':=lone fr cs w') hc
 | outgrown=>exact absurd hR (hn _)
end Go.Sx.Dr
