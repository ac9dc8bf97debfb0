/- Own work: a layer over the kit: plain data,a walk over it,its soundness. -/
import Derived.Lib.Join
import Derived.Sort.OwnSorted
import Derived.Lib.SlicesCompact
import Derived.Calls
import Derived.CallsIn
import Derived.Test.YtobgkdlghljdlaaGreatDoorSx8
set_option linter.unusedSectionVars false
set_option linter.unusedVariables false
set_option linter.unusedSimpArgs false
set_option linter.deprecated false
/- MATCHING,PLAIN: what a pattern wants,and the expansions of the pattern with the binding applied. -/
namespace Go.Sx
end Go.Sx
/- MATCHING,PLAIN: the wants' names and values; a matched pattern is ground. -/
namespace Go.Sx
theorem Z4O {x y:Option Wn} {w:Wn} (h:wJ x y=some w): ∃ a b,x=some a/\y=some b/\w=(a.1++b.1,a.2++b.2):=by
 cases x with
 | none=>simp[wJ] at h
 | some a =>
  cases y with
  | none=>simp[wJ] at h
  | some b=>cases h; exact⟨a,b,rfl,rfl,rfl⟩
mutual
def Tm.outs:Tm->List (List UInt8)
 | .mk k n s l=>if k=5\/k=6 then [] else (if k=3 then [s] else [])++Tm.outsL l
def Tm.outsL:List Tm->List (List UInt8)
 | []=>[]
 | a::r=>Tm.outs a++Tm.outsL r
end
end Go.Sx
/- MATCHING,PLAIN: the stage's theorem. -/
namespace Go.Sx
structure Snd (p v:Tm) (b c:List Bd):Prop where
 vb:Z08 b=true
 vc:Z08 c=true
 pv:p.valid=true
 vv:v.value=true
 old: ∀ x∈b,getB c x.n=some x.v
 only: ∀ x∈c,getB b x.n=some x.v\/x.n∈p.outs
 outs: ∀ s∈p.outs, ∃ u,getB c s=some u
 again:lstB [p] [v] c=some c
 gr:(p.ap c).all Tm.gr=true
 among: ∀ l,(p.ap c).expd= .ok l->v∈l
end Go.Sx
/- Laws of the lexer. -/
namespace Go.Sx.Lx
open Go.Sx
def run (o:Nat) (l:List UInt8):List Tk × Option (Nat × Int) × Nat:=Zi9 (l.length+1) (o+skp false l) (l.drop (skp false l))
def shift (d:Nat) (r:List Tk × Option (Nat × Int) × Nat):List Tk × Option (Nat × Int) × Nat:=(r.1.map fun t=>(t.1,t.2.1,t.2.2+d),r.2.1.map fun e=>(e.1+d,e.2),r.2.2+d)
end Go.Sx.Lx
namespace Go.Sx.Lx
end Go.Sx.Lx
namespace Go.Sx.Lx
end Go.Sx.Lx
namespace Go.Sx.Lx
end Go.Sx.Lx
namespace Go.Sx.Lx
def ZoB:List (List UInt8):=[[32],[10],[9,32],[37,10],[32,37,32,97,46,32,35,120,10],[13,10]]
def ZnG (g:Int):Int:=ZnF g 6
def ZcY (g:Int):List UInt8:=ZoB.getD (ZnG g).toNat []
def gapF (gs:List Int) (i:Nat):Int:=if i<gs.length then gs.getD i 0 else i
def finB (gs:List Int):Nat->List Tk->List UInt8->List Int->List UInt8 × List Int
 | _,[],s,o=>(s,o)
 | i,t::r,s,o=>finB gs (i+1) r (s++ZcY (gapF gs i)++t.2.1) (o++[((s++ZcY (gapF gs i)).length:Int)])
end Go.Sx.Lx
/- The reference model's lexer,plainly: its tests are the lexer's. -/
namespace Go.Sx.Lx
open Go.Sx
end Go.Sx.Lx
/- Numbers and signs of the reference model. -/
namespace Go.Sx.Lx
open Go.Sx
def valN (a:Nat) (l:List UInt8):Nat:=l.foldl (fun a c=>a*10+(c.toNat-48)) a
attribute [irreducible] valN
end Go.Sx.Lx
/- The lexer's run,byte by byte. -/
namespace Go.Sx.Lx
open Go.Sx
/- What a token is,by its first byte. -/
end Go.Sx.Lx
/- OWN ROWS OF TEXTS,SORTED AND MADE COMPACT IN PLACE BY THE LIBRARY. -/
namespace Go.Sx
open Go.RowKit Go.Sort
open Go.Proofs (encStr)
variable [Globs] [Codes]
variable {P:Program} {f:FuncId}
def srt (l:List (List UInt8)):List (List UInt8):=l.mergeSort fun x y=>decide (x<=y)
end Go.Sx
/- The variables of a term. -/
namespace Go.Sx
def Tm.v1:Tm->List (List UInt8)
 | .mk k _ s _=>if k=3 then [s] else []
mutual
def Tm.vs:Tm->List (List UInt8)
 | .mk k n s l=>Tm.v1 (.mk k n s l)++Tm.vsL l
def Tm.vsL:List Tm->List (List UInt8)
 | []=>[]
 | a::r=>a.vs++Tm.vsL r
end
end Go.Sx
/- MATCHING,PLAIN: every expansion of an applied pattern is matched. -/
namespace Go.Sx
end Go.Sx
/- MATCHING,PLAIN: what is in the pairs,and how many there are. -/
namespace Go.Sx
def Her (P:Tm->Prop):Prop:= ∀ k n s l,P (.mk k n s l)-> ∀ x∈l,P x
theorem Zkv (B:Nat):Her (Tm.wf B):=fun k n s l h x hx=>by
 simp only[Tm.wf] at h
 exact QQ.1 h.2.2.2.2.2 x hx
theorem ZfQ (N:Nat):Her (Tm.few N):=fun k n s l h x hx=>by
 simp only[Tm.few] at h
 exact ZL.1 h.2 x hx
theorem Z9b (N:Nat):Her fun x=>x.depth<=N:=fun k n s l h x hx=>by
 simp only[Tm.depth] at h
 have:=Z0I hx
 omega
theorem Z9c {P Q:Tm->Prop} (hP:Her P) (hQ:Her Q):Her fun x=>P x/\Q x:=fun k n s l h x hx=>⟨hP k n s l h.1 x hx,hQ k n s l h.2 x hx⟩
mutual
def Tm.cnt:Tm->Nat
 | .mk _ _ _ l=>Tm.cntL l+1
def Tm.cntL:List Tm->Nat
 | []=>0
 | a::r=>a.cnt+Tm.cntL r
end
mutual
theorem Z8J {P Q:Tm->Prop} (hP:Her P) (hQ:Her Q): ∀ (p v:Tm) (w:Wn),P p->Q v->p.prs v=some w->(∀ x∈w.1,Q x.2)/\ ∀ y∈w.2,P y.1/\Q y.2
 | .mk k n s l,.mk k' n' s' l',w,hp,hv,h=>by
  simp only[Tm.prs] at h
  split at h
  ·cases h
   exact⟨fun x hx=>by rw[List.mem_singleton] at hx; subst hx; exact hv,fun y hy=>by cases hy⟩
  ·split at h
   ·cases h
    exact⟨fun x hx=>(by cases hx),fun y hy=>by rw[List.mem_singleton] at hy; subst hy; exact⟨hp,hv⟩⟩
   ·split at h
    ·exact Z1F hP hQ l l' w (hP _ _ _ _ hp) (hQ _ _ _ _ hv) h
    ·cases h
theorem Z1F {P Q:Tm->Prop} (hP:Her P) (hQ:Her Q): ∀ (l l':List Tm) (w:Wn),(∀ x∈l,P x)->(∀ x∈l',Q x)->Tm.prsL l l'=some w->(∀ x∈w.1,Q x.2)/\ ∀ y∈w.2,P y.1/\Q y.2
 | [],[],w,hp,hv,h=>by
  simp only[Tm.prsL] at h
  cases h
  exact⟨fun x hx=>(by cases hx),fun y hy=>(by cases hy)⟩
 | a::l,b::m,w,hp,hv,h=>by
  simp only[Tm.prsL] at h
  obtain⟨u,v,h1,h2,rfl⟩:=Z4O h
  obtain⟨q1,q2⟩:=Z8J hP hQ a b u (hp a (List.mem_cons_self ..)) (hv b (List.mem_cons_self ..)) h1
  obtain⟨q3,q4⟩:=Z1F hP hQ l m v (fun x hx=>hp x (List.mem_cons_of_mem _ hx)) (fun x hx=>hv x (List.mem_cons_of_mem _ hx)) h2
  exact⟨fun x hx=>(List.mem_append.1 hx).elim (q1 x) (q3 x),fun x hx=>(List.mem_append.1 hx).elim (q2 x) (q4 x)⟩
 | [],_::_,w,hp,hv,h=>by simp only[Tm.prsL] at h; cases h
 | _::_,[],w,hp,hv,h=>by simp only[Tm.prsL] at h; cases h
end
mutual
theorem Z8K: ∀ (p v:Tm) (w:Wn),p.prs v=some w->w.1.length+w.2.length<=p.cnt
 | .mk k n s l,.mk k' n' s' l',w,h=>by
  simp only[Tm.prs] at h
  simp only[Tm.cnt]
  split at h
  ·cases h; simp
  ·split at h
   ·cases h; simp
   ·split at h
    ·have:=Z1G l l' w h; omega
    ·cases h
theorem Z1G: ∀ (l l':List Tm) (w:Wn),Tm.prsL l l'=some w->w.1.length+w.2.length<=Tm.cntL l
 | [],[],w,h=>by
  simp only[Tm.prsL] at h
  cases h
  simp
 | a::l,b::m,w,h=>by
  simp only[Tm.prsL] at h
  obtain⟨u,v,h1,h2,rfl⟩:=Z4O h
  have q1:=Z8K a b u h1
  have q2:=Z1G l m v h2
  simp only[Tm.cntL,List.length_append]
  omega
 | [],_::_,w,h=>by simp only[Tm.prsL] at h; cases h
 | _::_,[],w,h=>by simp only[Tm.prsL] at h; cases h
end
theorem Z6a: ∀ (l l':List Tm) (w:Wn),Tm.prsL l l'=some w->l.length=l'.length
 | [],[],w,h=>rfl
 | a::l,b::m,w,h=>by
  simp only[Tm.prsL] at h
  obtain⟨u,v,h1,h2,rfl⟩:=Z4O h
  have:=Z6a l m v h2
  simp only[List.length_cons]
  omega
 | [],_::_,w,h=>by simp only[Tm.prsL] at h; cases h
 | _::_,[],w,h=>by simp only[Tm.prsL] at h; cases h
theorem Zc1 {b c:List Bd} {s:List UInt8} {v:Tm} (h:bnd1 b s v=some c):c.length<=b.length+1/\ ∀ x∈c,x∈b\/x=⟨s,v⟩:=by
 unfold bnd1 at h
 split at h
 ·split at h
  ·cases h; exact⟨by omega,fun x hx=> .inl hx⟩
  ·cases h
 ·cases h
  refine⟨by rw[ZbA]; omega,fun x hx=> ?_⟩
  rcases Z0Y.1 hx with h | h
  ·exact .inr h
  ·exact .inl h
theorem Z1N: ∀ {l:List (List UInt8 × Tm)} {b c:List Bd},bndA l b=some c->c.length<=b.length+l.length/\ ∀ x∈c,x∈b\/(x.n,x.v)∈l
 | [],b,c,h=>by
  simp only[bndA] at h
  cases h
  exact⟨Nat.le_refl _,fun x hx=> .inl hx⟩
 | y::l,b,c,h=>by
  simp only[bndA] at h
  split at h
  ·rename_i c1 h1
   obtain⟨q1,q2⟩:=Zc1 h1
   obtain⟨q3,q4⟩:=Z1N h
   refine⟨by simp only[List.length_cons]; omega,fun x hx=> ?_⟩
   rcases q4 x hx with h | h
   ·rcases q2 x h with h | h
    ·exact .inl h
    ·subst h; exact .inr (List.mem_cons_self ..)
   ·exact .inr (List.mem_cons_of_mem _ h)
  ·cases h
structure StB (N:Nat) (b:List Bd) (os:List (Tm × Tm)):Prop where
 srt:srtB b
 len:b.length+N<=1000000
 olen:os.length+N<=1000000
 wf: ∀ x∈b,x.v.wf 281474976710656/\x.v.few 1000/\x.v.depth<=100000000
 owf: ∀ y∈os,(y.1.wf 281474976710656/\y.1.few 1000/\y.1.depth<=100000000)/\(y.2.wf 281474976710656/\y.2.few 1000/\y.2.depth<=100000000)
abbrev TmB (x:Tm):Prop:=x.wf 281474976710656/\x.few 1000/\x.depth<=100000000
theorem QW:Her TmB:=Z9c (Zkv _) (Z9c (ZfQ _) (Z9b _))
theorem StB.mono {M N:Nat} {b:List Bd} {os:List (Tm × Tm)} (h:StB M b os) (hN:N<=M):StB N b os:=⟨h.srt,by have:=h.len; omega,by have:=h.olen; omega,h.wf,h.owf⟩
theorem Z5d {q:Option Wn} {b:List Bd} {os:List (Tm × Tm)} {r:List Bd × List (Tm × Tm)} (h:oA q b os=some r): ∃ w,q=some w/\bndA w.1 b=some r.1/\r.2=os++w.2:=by
 cases q with
 | none=>simp only[oA] at h; cases h
 | some x =>
  simp only[oA] at h
  split at h
  ·cases h
  ·rename_i c hc
   cases h
   exact⟨x,rfl,hc,rfl⟩
theorem ZcM {p:Tm} {v:Tm} {N:Nat} {b:List Bd} {os:List (Tm × Tm)} {r:List Bd × List (Tm × Tm)} (hp:TmB p) (hv:TmB v) (h:StB (p.cnt+N) b os) (hr:oA (p.prs v) b os=some r):StB N r.1 r.2:=by
 obtain⟨w,h1,h2,h3⟩:=Z5d hr
 obtain⟨q1,q2⟩:=Z8J QW QW p v w hp hv h1
 have q3:=Z8K p v w h1
 obtain⟨q4,q5⟩:=Z1N h2
 have e1:=h.len
 have e2:=h.olen
 refine⟨((Z1a h.srt).1 h2).srt,by omega,by rw[h3,List.length_append]; omega,fun x hx=> ?_,fun y hy=> ?_⟩
 ·rcases q5 x hx with hx | hx
  ·exact h.wf x hx
  ·exact q1 _ hx
 ·rw[h3] at hy
  rcases List.mem_append.1 hy with hy | hy
  ·exact h.owf y hy
  ·exact q2 y hy
theorem Zfq {l l':List Tm} {N:Nat} {b:List Bd} {os:List (Tm × Tm)} {r:List Bd × List (Tm × Tm)} (hp: ∀ x∈l,TmB x) (hv: ∀ x∈l',TmB x) (h:StB (Tm.cntL l+N) b os) (hr:oA (Tm.prsL l l') b os=some r):StB N r.1 r.2:=by
 obtain⟨w,h1,h2,h3⟩:=Z5d hr
 obtain⟨q1,q2⟩:=Z1F QW QW l l' w hp hv h1
 have q3:=Z1G l l' w h1
 obtain⟨q4,q5⟩:=Z1N h2
 have e1:=h.len
 have e2:=h.olen
 refine⟨((Z1a h.srt).1 h2).srt,by omega,by rw[h3,List.length_append]; omega,fun x hx=> ?_,fun y hy=> ?_⟩
 ·rcases q5 x hx with hx | hx
  ·exact h.wf x hx
  ·exact q1 _ hx
 ·rw[h3] at hy
  rcases List.mem_append.1 hy with hy | hy
  ·exact h.owf y hy
  ·exact q2 y hy
mutual
theorem Zif: ∀ (x:Tm) (m:Int),x.sz m<=m->(x.cnt:Int)<=x.sz m
 | .mk k n s l,m,h=>by
  simp only[Tm.sz] at h ⊢
  have:=Z4U l (m-1) 0 (by omega)
  simp only[Tm.cnt]
  omega
theorem Z4U: ∀ (l:List Tm) (m n:Int),Tm.szL l m n<=m->n+(Tm.cntL l:Int)<=Tm.szL l m n
 | [],m,n,h=>by simp only[Tm.szL,Tm.cntL]; omega
 | a::r,m,n,h=>by
  simp only[Tm.szL] at h ⊢
  split at h
  ·rename_i hn
   rw[if_pos hn]
   have g:=Z1R r m (n+a.sz (m-n))
   have h1:=Zif a (m-n) (by omega)
   have h2:=Z4U r m (n+a.sz (m-n)) h
   simp only[Tm.cntL]
   omega
  ·omega
end
mutual
theorem Z6P {b:List Bd} {N:Nat} (hb: ∀ x∈b,x.v.depth<=N): ∀ t:Tm,(t.ap b).depth<=t.depth+N
 | .mk k n s l=>by
  have hl:=Z4I hb l
  have hk:(Tm.mk k n s (Tm.apL b l)).depth<=(Tm.mk k n s l).depth+N:=by
   simp only[Tm.depth]
   omega
  rw[Tm.ap]
  rw[apK]
  split
  ·cases hq:getB b s with
   | none=>exact hk
   | some v =>
    have h1:v.depth<=N:=hb _ (Qb hq)
    show v.depth<=_
    omega
  ·exact hk
theorem Z4I {b:List Bd} {N:Nat} (hb: ∀ x∈b,x.v.depth<=N): ∀ l:List Tm,Tm.depthL (Tm.apL b l)<=Tm.depthL l+N
 | []=>Nat.zero_le _
 | a::r=>by
  have h1:=Z6P hb a
  have h2:=Z4I hb r
  show Nat.max (a.ap b).depth (Tm.depthL (Tm.apL b r))<=Nat.max a.depth (Tm.depthL r)+N
  have e1:Nat.max (a.ap b).depth (Tm.depthL (Tm.apL b r))=max (a.ap b).depth (Tm.depthL (Tm.apL b r)):=rfl
  have e2:Nat.max a.depth (Tm.depthL r)=max a.depth (Tm.depthL r):=rfl
  rw[e1,e2]
  omega
end
end Go.Sx
/- THE COUNT OF DRAWS NEVER FALLS: over whatever steps of the machine. -/
namespace Go.Sx.Dr
open Go
def Res.w {α:Type}:Result α->World
 | .ok _ w=>w
 | .halt _ w=>w
theorem Zm5 {α:Type}: ∀ (a:Ask α) (w:World),w.drawn<=(w.ask a).2.drawn:=by
 intro a
 induction a with
 | done a=>exact fun w=>Nat.le_refl _
 | ask what range k ih =>
  intro w
  simp only[World.ask]
  split
  ·exact ih _ w
  ·exact Nat.le_trans (Nat.le_succ _) (ih _ { w with drawn:=w.drawn+1 })
theorem Zcv (w:World) (c:Sys):w.drawn<=(w.sys c).2.drawn:=by
 unfold World.sys
 have h:=Zm5 (Kernel.perform c w.os) w
 split
 ·exact Nat.le_refl _
 ·rename_i h1 h2
  rw[h2] at h; exact h
theorem ZdG {p:Program} {w:World} {a:Addr} {u:TypeId} {k:Addr} {v:Value} {b:Bool} {r:World × List Addr} (h:w.viewStore p a u k v b= .ok r):r.1.drawn=w.drawn:=by
 unfold World.viewStore at h
 simp only[bind,Except.bind,pure,Except.pure] at h
 repeat' split at h
 all_goals first
  | (cases h; done)
  | (cases h; rfl)
theorem Zd1 {p:Program} {w:World} {a:Addr} {v:Value} {b:Bool} {r:World × List Addr} (h:w.farStore p a v b= .ok r):r.1.drawn=w.drawn:=by
 unfold World.farStore at h
 split at h
 ·split at h
  ·rename_i hv; cases h; exact ZdG hv
  ·cases h
 ·cases h
theorem Z4q (w:World) (a:Addr) (n:Nat):(w.freeze a n).drawn=w.drawn:=by
 unfold World.freeze
 repeat' split
 all_goals rfl
theorem ZJ {α:Type} (p:Program): ∀ (s:Sem α) (w:World),w.drawn<=(Res.w (s.run p w)).drawn:=by
 intro s
 induction s with
 | pure a=>exact fun w=>Nat.le_refl _
 | load m a k ih =>
  intro w
  simp only[Sem.run]
  split
  ·exact ih _ w
  ·split
   ·exact ih _ w
   ·exact Nat.le_refl _
 | store m a v k ih =>
  intro w
  cases v <;> simp only[Sem.run] <;> (repeat' split) <;> first
   | exact Nat.le_refl _
   | exact ih (w.setCell a _)
   | (rename_i h; exact Nat.le_trans (Nat.le_of_eq (Zd1 h).symm) (ih _))
 | new o k ih=>exact fun w=>ih _ { w with heap:=w.heap.push o }
 | shape r k ih=>exact fun w=>ih _ w
 | freeze a n k ih=>exact fun w=>Nat.le_trans (Nat.le_of_eq (Z4q w a n).symm) (ih _)
 | frozen a k ih=>exact fun w=>ih _ w
 | getObj r k ih =>
  intro w
  simp only[Sem.run]
  repeat' split
  all_goals first
   | exact Nat.le_refl _
   | exact ih _ w
 | setObj r o k ih =>
  intro w
  simp only[Sem.run]
  repeat' split
  all_goals first
   | exact Nat.le_refl _
   | exact ih { w with heap:=w.heap.setIfInBounds r o }
 | choose q k ih =>
  intro w
  simp only[Sem.run]
  split
  ·exact ih _ w
  ·exact Nat.le_trans (Nat.le_succ _) (ih _ { w with drawn:=w.drawn+1 })
 | sys c k ih=>exact fun w=>Nat.le_trans (Zcv w c) (ih _ _)
 | program k ih=>exact fun w=>ih _ w
 | mark m k ih=>exact fun w=>ih w
 | halt h=>exact fun w=>Nat.le_refl _
theorem Z3m {α:Type} (p:Program): ∀ (s:Sem α) (w:World) (es:Array Event),w.drawn<=(Res.w (s.runT p w es).1).drawn:=by
 intro s
 induction s with
 | pure a=>exact fun w _=>Nat.le_refl _
 | load m a k ih =>
  intro w es
  simp only[Sem.runT]
  split
  ·exact ih _ w _
  ·split
   ·exact ih _ w _
   ·exact Nat.le_refl _
 | store m a v k ih =>
  intro w es
  cases v <;> simp only[Sem.runT] <;> (repeat' split) <;> first
   | exact Nat.le_refl _
   | exact ih (w.setCell a _) _
   | (rename_i h; exact Nat.le_trans (Nat.le_of_eq (Zd1 h).symm) (ih _ _))
 | new o k ih=>exact fun w es=>ih _ { w with heap:=w.heap.push o } es
 | shape r k ih=>exact fun w es=>ih _ w es
 | freeze a n k ih=>exact fun w es=>Nat.le_trans (Nat.le_of_eq (Z4q w a n).symm) (ih _ es)
 | frozen a k ih=>exact fun w es=>ih _ w es
 | getObj r k ih =>
  intro w es
  simp only[Sem.runT]
  repeat' split
  all_goals first
   | exact Nat.le_refl _
   | exact ih _ w _
 | setObj r o k ih =>
  intro w es
  simp only[Sem.runT]
  repeat' split
  all_goals first
   | exact Nat.le_refl _
   | exact ih { w with heap:=w.heap.setIfInBounds r o } _
 | choose q k ih =>
  intro w es
  simp only[Sem.runT]
  split
  ·exact ih _ w es
  ·exact Nat.le_trans (Nat.le_succ _) (ih _ { w with drawn:=w.drawn+1 } es)
 | sys c k ih=>exact fun w es=>Nat.le_trans (Zcv w c) (ih _ _ _)
 | program k ih=>exact fun w es=>ih _ w es
 | mark m k ih=>exact fun w es=>ih w _
 | halt h=>exact fun w es=>Nat.le_refl _
def Gok (d:Nat):GStep->Prop
 | .go _ w _=>d<=w.drawn
 | .comm _ _ _ _ w _=>d<=w.drawn
 | .spawn _ _ w _=>d<=w.drawn
 | .count _ w _=>d<=w.drawn
 | .timer _ _ w _=>d<=w.drawn
 | .alone _ _ w _=>d<=w.drawn
 | .newcoro _ _ _ w _=>d<=w.drawn
 | .coroswitch _ _ _ w _=>d<=w.drawn
 | .collect _ w _=>d<=w.drawn
 | .watch _ w _=>d<=w.drawn
 | .ended .. => True
theorem Q9 {d:Nat} {es:Array Event} {s:GStep} (h:Gok d s):Gok d (s.after es):=by cases s <;> exact h
theorem Z2V {d e:Nat} {s:GStep} (h:Gok d s) (he:e<=d):Gok e s:=by
 cases s <;> first | exact Nat.le_trans he h | trivial
theorem Zly {d:Nat} (w:World) (fd:Nat) (t:ByteArray) (o:Outcome):Gok d (endWith w fd t o):=by
 unfold endWith
 simp only
 repeat' split
 all_goals trivial
theorem ZaT (fr:Frame) (m:String) (w:World):Gok w.drawn (endThrow fr m w):=Nat.le_refl _
theorem Z6b (p:Program) (fr:Frame) (v:Value) (w:World):Gok w.drawn (endPrinting p fr v w):=by
 unfold endPrinting
 simp only
 split
 ·exact Nat.le_refl _
 ·trivial
theorem ZbH (p:Program) (fr:Frame) (cs:List Frame) (dy:Option Dying) (m:String) (w:World):Gok w.drawn (endFatal p fr cs dy m w):=by
 unfold endFatal
 simp only
 split
 ·rename_i h
  have:=congrArg (fun r=>(Res.w r).drawn) h
  exact Nat.le_trans (ZJ p _ w) (Nat.le_of_eq this)
 ·trivial
 ·trivial
theorem gite {d:Nat} {c:Prop} [Decidable c] {a b:GStep} (ha:Gok d a) (hb:Gok d b):Gok d (if c then a else b):=by split <;> assumption
theorem pair {α:Type} (p:Program) (s:Sem α) (w:World) (es:Array Event): ∃ r es',s.runT p w es=(r,es')/\w.drawn<=(Res.w r).drawn :=
 ⟨_,_,rfl,Z3m p s w es⟩
theorem one {α:Type} (p:Program) (s:Sem α) (w:World): ∃ r,s.run p w=r/\w.drawn<=(Res.w r).drawn:=⟨_,rfl,ZJ p s w⟩
theorem Z6z {d:Nat} {fr:Frame} {m:String} {w:World} (h:d<=w.drawn):Gok d (endThrow fr m w):=Z2V (ZaT fr m w) h
theorem ZcV {d:Nat} {p:Program} {fr:Frame} {cs:List Frame} {dy:Option Dying} {m:String} {w:World} (h:d<=w.drawn):Gok d (endFatal p fr cs dy m w):=Z2V (ZbH p fr cs dy m w) h
theorem ZkA {d:Nat} {p:Program} {fr:Frame} {v:Value} {w:World} (h:d<=w.drawn):Gok d (endPrinting p fr v w):=Z2V (Z6b p fr v w) h
theorem ZaD (p:Program) (fr:Frame) (d:Dying) (f:Fatal) (w:World):Gok w.drawn (writeOn p fr d f w):=by
 unfold writeOn
 simp only
 split
 ·trivial
 ·split
  ·rename_i h
   exact Nat.le_trans (Z3m p _ w #[]) (Nat.le_of_eq (congrArg (fun r=>(Res.w r.1).drawn) h))
  ·rename_i h
   exact Nat.le_trans (Z3m p _ w #[]) (Nat.le_of_eq (congrArg (fun r=>(Res.w r.1).drawn) h))
  ·trivial
  ·trivial
theorem ZlA (p:Program) (fr:Frame) (d:Dying) (w:World):Gok w.drawn (die p fr d w):=by
 unfold die
 split
 ·exact ZaD _ _ _ _ _
 ·split
  ·split
   ·exact Nat.le_refl _
   ·exact Zly _ _ _ _
  ·simp only
   split
   ·exact Nat.le_refl _
   ·split
    ·rename_i h
     exact Nat.le_trans (ZJ p _ w) (Nat.le_of_eq (congrArg (fun r=>(Res.w r).drawn) h))
    ·trivial
   ·rename_i t recv name _
    obtain⟨r,es',hr,hle⟩:=pair p (invoke (.fn (.method name) #[]) #[.iface t recv]) w #[]
    rw[hr]
    refine Q9 ?_
    try simp only
    split <;> first | exact hle | trivial | exact ZkA hle
   ·trivial
theorem ZcG (p:Program) (main:Bool) (fr:Frame) (cs:List Frame) (dy:Option Dying) (v:Value) (w:World):Gok w.drawn (doReturn p main fr cs dy v w):=by
 unfold doReturn
 simp only
 repeat' split
 all_goals first | exact Nat.le_refl _ | trivial
theorem gret {d:Nat} {p:Program} {main:Bool} {fr:Frame} {cs:List Frame} {dy:Option Dying} {v:Value} {w:World} (h:d<=w.drawn):Gok d (doReturn p main fr cs dy v w):=Z2V (ZcG ..) h
theorem ZbP (p:Program) (fr:Frame) (cs:List Frame) (dy:Option Dying) (d:Deferred) (w:World):Gok w.drawn (callDeferred p fr cs dy d w):=by
 unfold callDeferred
 refine gite ?_ ?_
 ·trivial
 ·obtain⟨r,es',hr,hle⟩:=pair p (invoke d.target d.args) w #[]
  rw[hr]
  refine Q9 ?_
  try simp only
  split <;> first | exact hle | trivial | exact Z6z hle | exact ZcV hle | (split <;> exact hle)
theorem Z82 (p:Program) (main:Bool) (fr:Frame) (cs:List Frame) (dy:Option Dying) (w:World):Gok w.drawn (unwind p main fr cs dy w):=by
 unfold unwind
 split
 ·rename_i block _ ds _
  obtain⟨r,es',hr,hle⟩:=pair p (Instr.takeDeferred block) w #[]
  rw[hr]
  refine Q9 ?_
  try simp only
  split
  ·exact hle
  ·trivial
 ·exact ZbP _ _ _ _ _ _
 ·split
  ·trivial
  ·split
   ·trivial
   ·split
    ·exact Nat.le_refl _
    ·split
     ·split
      ·exact Nat.le_refl _
      ·split
       ·rename_i h
        exact Nat.le_trans (ZJ p _ w) (Nat.le_of_eq (congrArg (fun r=>(Res.w r).drawn) h))
       ·trivial
       ·trivial
     ·split
      ·exact Z6b _ _ _ _
      ·trivial
  ·split
   ·exact ZcG ..
   ·rename_i fn _
    obtain⟨r,es',hr,hle⟩:=pair p (results fn fr.tmps) w #[]
    rw[hr]
    refine Q9 ?_
    try simp only
    split
    ·exact gret hle
    ·trivial
    ·trivial
theorem ZbM (p:Program) (fr:Frame) (cs:List Frame) (dy:Option Dying) (g:Nat) (w:World):Gok w.drawn (early p fr cs dy g w):=by
 have nyet: ∀ (w':World) (e1:String),w.drawn<=w'.drawn->Gok w.drawn (match w'.heap[g]? with
  | some (.pending c elem)=> .go { frame:=fr,callers:=cs,status:= .running,dying:=dy } { w' with heap:=w'.heap.setIfInBounds g (.cells c elem) }
  | _=> .ended (.stuck e1 (fr.pos p)) w'):=fun w' e1 h=>by
  split
  ·exact h
  ·trivial
 unfold early
 simp only
 split
 ·exact nyet w _ (Nat.le_refl _)
 ·split
  ·trivial
  ·split
   ·exact nyet w _ (Nat.le_refl _)
   ·split
    ·exact nyet w _ (Nat.le_refl _)
    ·split
     ·trivial
     ·exact Nat.le_refl _
     ·trivial
     ·exact nyet w _ (Nat.le_refl _)
     ·split
      ·exact Nat.le_refl _
      ·split
       ·exact nyet w _ (Nat.le_refl _)
       ·split
        ·rename_i h
         exact nyet _ _ (Nat.le_trans (ZJ p _ w) (Nat.le_of_eq (congrArg (fun r=>(Res.w r).drawn) h)))
        ·rename_i h
         exact Nat.le_trans (ZJ p _ w) (Nat.le_of_eq (congrArg (fun r=>(Res.w r).drawn) h))
        ·trivial
theorem ZkD {d:Nat} {p:Program} {fr:Frame} {cs:List Frame} {dy:Option Dying} {g:Nat} {w:World} (h:d<=w.drawn):Gok d (early p fr cs dy g w):=Z2V (ZbM ..) h
theorem Z0A (p:Program) (listen:Bool) (fr:Frame) (cs:List Frame) (dy:Option Dying) (s:Sem Next) (w:World):Gok w.drawn (stepG.apply p listen fr cs dy s w):=by
 unfold stepG.apply
 simp only
 have hle:w.drawn<=(Res.w (if listen=true then s.runT p w #[] else (s.run p w, #[])).1).drawn:=by
  split
  ·exact Z3m p s w #[]
  ·exact ZJ p s w
 generalize (if listen=true then s.runT p w #[] else (s.run p w, #[]))=q at hle ⊢
 obtain⟨r,es⟩:=q
 refine Q9 ?_
 simp only at hle ⊢
 split <;> first
  | exact hle
  | trivial
  | exact Z6z hle
  | exact ZcV hle
  | exact ZkD hle
  | exact gite (Z6z hle) hle
  | (split <;> first | exact hle | exact Z6z hle)
theorem Zfl (p:Program) (listen:Bool) (fr:Frame) (cs:List Frame) (dy:Option Dying) (w:World):Gok w.drawn (stepG.oper p listen fr cs dy w):=by
 unfold stepG.oper
 split
 ·trivial
 ·split <;> exact Z0A ..
theorem ZkE {d:Nat} {p:Program} {listen:Bool} {fr:Frame} {cs:List Frame} {dy:Option Dying} {s:Sem Next} {w:World} (h:d<=w.drawn):Gok d (stepG.apply p listen fr cs dy s w):=Z2V (Z0A ..) h
theorem Zg9 (p:Program) (main listen:Bool) (fr:Frame) (cs:List Frame) (dy:Option Dying) (w:World):Gok w.drawn (stepG.exec p main listen fr cs dy w):=by
 have leave: ∀ (jump:Option Code) (e1 e2:String),Gok w.drawn (match fr.roundOf with
   | none=>if (match jump with | none | some .ret=>true | _=>false)=true then GStep.go { frame:={ fr with mode:= .returning },callers:=cs,status:= .running,dying:=dy } w else .ended (.stuck e1 (fr.pos p)) w
   | some l =>
    match (Instr.endRound l jump).runT p w #[] with
    | (r,es)=>GStep.after (seen p fr.fn es) (match r with
     | .ok v w=>doReturn p main fr cs dy v w
     | .halt _ w=> .ended (.stuck e2 (fr.pos p)) w)):=fun jump e1 e2=>by
  split
  ·exact gite (Nat.le_refl _) trivial
  ·rename_i l _
   obtain⟨r,es',hr,hle⟩:=pair p (Instr.endRound l jump) w #[]
   rw[hr]
   refine Q9 ?_
   try simp only
   split
   ·exact gret hle
   ·trivial
 have eli: ∀ (o:Option (List Item)) (j:Code) (f:List Item->GStep),(∀ k,Gok w.drawn (f k))-> ∀ g,Gok w.drawn g->Gok w.drawn (o.elim g f):=fun o j f hf g hg=>by
  cases o
  ·exact hg
  ·exact hf _
 unfold stepG.exec
 simp only
 split
 ·exact leave none "" _
 ·exact leave (some .ret) "" _
 all_goals try exact Nat.le_refl _
 all_goals try trivial
 all_goals try exact Z0A ..
 ·split
  ·exact Nat.le_refl _
  ·trivial
 ·rename_i id k _
  exact eli _ .skip _ (fun _=>Nat.le_refl _) _ (leave (some (.exit id)) _ _)
 ·rename_i id k _
  exact eli _ .skip _ (fun _=>Nat.le_refl _) _ (leave (some (.goto id)) _ _)
 ·rename_i f ps asg body k _
  obtain⟨r,es',hr,hle⟩:=pair p (Instr.enterLoop fr.fn fr.tmps ps asg body fr.roundOf) w #[]
  rw[hr]
  refine Q9 ?_
  try simp only
  split
  ·exact ZkE hle
  ·trivial
 ·rename_i l k _
  obtain⟨r,es',hr,hle⟩:=pair p (Instr.endLoop l) w #[]
  rw[hr]
  refine Q9 ?_
  try simp only
  split
  ·exact hle
  ·exact hle
  ·trivial
 ·rename_i row args _ _
  cases Extern.next row
  ·trivial
  ·exact Z0A ..
 ·split
  ·exact Nat.le_refl _
  ·split
   ·rename_i h
    exact Nat.le_trans (ZJ p _ w) (Nat.le_of_eq (congrArg (fun r=>(Res.w r).drawn) h))
   ·trivial
 ·refine gite (Zfl ..) (Nat.le_refl _)
theorem ZaW (p:Program) (main:Bool) (g:Goroutine) (w:World) (listen:Bool):Gok w.drawn (stepG p main g w listen):=by
 unfold stepG
 split
 try simp only
 split
 ·exact ZlA ..
 ·exact Zg9 ..
 ·exact Z82 ..
def Sok (d:Nat):Stepped->Prop
 | .next m=>d<=m.world.drawn
 | .ended .. => True
theorem Z46 {d e:Nat} {s:Stepped} (h:Sok d s) (he:e<=d):Sok e s:=by
 cases s
 ·exact Nat.le_trans he h
 ·trivial
theorem Z90 (p:Program) (gs:Array Goroutine) (rest:Rest) (w:World):Sok w.drawn (look p gs rest w):=by
 unfold look
 split
 ·simp only
  split
  ·trivial
  ·split
   ·trivial
   ·split
    ·rename_i h
     exact Nat.le_trans (ZJ p _ w) (Nat.le_of_eq (congrArg (fun r=>(Res.w r).drawn) h))
    ·trivial
    ·trivial
 ·trivial
theorem ZdE {rest:Rest} {cases:Array CommCase} {w w':World} (h:waitingAt rest cases w=some w'):w'.drawn=w.drawn:=by
 unfold waitingAt at h
 split at h
 ·split at h
  ·cases h; rfl
  ·cases h
 ·cases h; rfl
theorem Zgn (p:Program) (rest:Rest) (gs:Array Goroutine) (i:Nat) (g:Goroutine) (cases:Array CommCase) (blocking:Bool) (shape:CommShape) (w:World):Sok w.drawn (communicate p rest gs i g cases blocking shape w).1:=by
 unfold communicate
 simp only
 split
 ·trivial
 ·split
  ·split
   ·split
    ·rename_i h; exact Nat.le_of_eq (ZdE h).symm
    ·trivial
   ·exact Nat.le_refl _
  ·split
   ·trivial
   ·rename_i h
    have hle:=Nat.le_trans (ZJ p _ w) (Nat.le_of_eq (congrArg (fun r=>(Res.w r).drawn) h))
    simp only[Res.w] at hle
    split
    ·split
     ·rename_i h2
      exact Nat.le_trans hle (Nat.le_trans (ZJ p _ _) (Nat.le_of_eq (congrArg (fun r=>(Res.w r).drawn) h2)))
     ·trivial
    ·exact hle
    ·exact hle
    ·split
     ·exact hle
     ·split
      ·rename_i h2
       exact Nat.le_trans hle (Nat.le_trans (ZJ p _ _) (Nat.le_of_eq (congrArg (fun r=>(Res.w r).drawn) h2)))
      ·trivial
    ·exact hle
    ·exact hle
    ·trivial
theorem Zb0 (p:Program) (m:Machine) (k:Nat):Sok m.world.drawn (serve p m k):=by
 unfold serve
 split
 ·trivial
 ·exact Nat.le_refl _
 ·simp only
  split
  ·trivial
  ·exact Nat.le_refl _
theorem ZbO (w:World) (c:Nat):(drain w c).2.drawn=w.drawn:=by
 unfold drain
 split <;> rfl
theorem Z4f (m:Machine) (k:Nat) (t:Timer) (a b:Nat):(retime m k t a b).2.world.drawn=m.world.drawn:=by
 unfold retime
 simp only
 split
 ·exact ZbO _ _
 ·rfl
theorem Z8M {m m':Machine} {a:Addr} (h:timerOp.opened m a=some m'):m'.world.drawn=m.world.drawn:=by
 unfold timerOp.opened at h
 split at h
 ·split at h
  ·cases h; rfl
  ·cases h
 ·cases h; rfl
theorem Z6j {m:Machine} {a:Addr} {f:Nat->Timer->Value × Machine} {d:Nat} (hf: ∀ k t,(f k t).2.world.drawn=d) {r:Value × Machine} (h:timerOp.named m a f= .ok r):r.2.world.drawn=d:=by
 unfold timerOp.named at h
 split at h
 ·cases h; exact hf _ _
 ·cases h
theorem ZaS {m:Machine} {op:TimerOp} {r:Value × Machine} (h:timerOp m op= .ok r):r.2.world.drawn=m.world.drawn:=by
 unfold timerOp at h
 split at h
 ·split at h
  ·cases h; rfl
  ·split at h
   ·split at h
    ·cases h
    ·cases h; rfl
   ·cases h
 ·exact Z6j (fun k t=>Z4f ..) h
 ·split at h
  ·rename_i ho
   exact Z6j (fun k t=>(Z4f ..).trans (Z8M ho)) h
  ·cases h
 ·cases h; rfl
theorem Zfy (p:Program) (m:Machine) (i:Nat) (listen:Bool):Sok m.world.drawn (runT p m i listen).1:=by
 unfold runT
 simp only
 have h:=ZaW p (i == 0) (m.gs.swapAt! i { (default:Goroutine) with status:= .finished }).1 m.world listen
 generalize stepG p (i == 0) (m.gs.swapAt! i { (default:Goroutine) with status:= .finished }).1 m.world listen=s at h ⊢
 cases s with
 | ended o w es=>trivial
 | comm g cases b sh w es=>exact Z46 (Zgn ..) h
 | go g w es=>exact h
 | spawn g c w es=>exact h
 | count g w es =>
  simp only
  split
  ·trivial
  ·exact h
 | alone g on w es=>exact h
 | collect g w es=>exact Z46 (Z90 ..) h
 | watch g w es=>exact h
 | newcoro g c d w es=>exact h
 | coroswitch g c ex w es =>
  simp only
  split
  ·exact h
  ·split
   ·rename_i h2
    unfold endThrow dieOf at h2
    cases h2
    exact h
   ·trivial
  ·trivial
 | timer g op w es =>
  simp only
  split
  ·rename_i h2
   exact Nat.le_trans h (Nat.le_of_eq (ZaS h2).symm)
  ·split
   ·rename_i h2
    unfold endThrow dieOf at h2
    cases h2
    exact h
   ·trivial
  ·trivial
  ·trivial
def Mok (d:Nat):Move->Prop
 | .goroutine m _=>d<=m.world.drawn
 | .machine s _=>Sok d s
theorem ZcQ {d e:Nat} {s:Move} (h:Mok d s) (he:e<=d):Mok e s:=by
 cases s
 ·exact Nat.le_trans he h
 ·exact Z46 h he
theorem Z3W (p:Program) (m:Machine):Mok m.world.drawn (askOn p m):=by
 unfold askOn
 simp only
 split
 ·trivial
 ·rename_i h1
  have h1:=Nat.le_trans (ZJ p _ _) (Nat.le_of_eq (congrArg (fun r=>(Res.w r).drawn) h1))
  simp only[Res.w] at h1
  split
  ·exact Z46 (Zb0 ..) h1
  ·split
   ·split
    ·exact h1
    ·split
     ·exact h1
     ·split
      ·trivial
      ·trivial
   ·split
    ·split
     ·trivial
     ·rename_i h8
      have h8:=Nat.le_trans h1 (Nat.le_trans (ZJ p _ _) (Nat.le_of_eq (congrArg (fun r=>(Res.w r).drawn) h8)))
      split
      ·exact h8
      ·split
       ·trivial
       ·rename_i h9
        exact Nat.le_trans h8 (Nat.le_trans (ZJ p _ _) (Nat.le_of_eq (congrArg (fun r=>(Res.w r).drawn) h9)))
    ·split
     ·trivial
     ·rename_i h2
      have h2:=Nat.le_trans h1 (Nat.le_trans (ZJ p _ _) (Nat.le_of_eq (congrArg (fun r=>(Res.w r).drawn) h2)))
      split
      ·trivial
      ·rename_i h8
       have h8:=Nat.le_trans h2 (Nat.le_trans (ZJ p _ _) (Nat.le_of_eq (congrArg (fun r=>(Res.w r).drawn) h8)))
       split
       ·exact h8
       ·split
        ·trivial
        ·rename_i h9
         exact Nat.le_trans h8 (Nat.le_trans (ZJ p _ _) (Nat.le_of_eq (congrArg (fun r=>(Res.w r).drawn) h9)))
     ·rename_i h2
      exact Nat.le_trans h1 (Nat.le_trans (ZJ p _ _) (Nat.le_of_eq (congrArg (fun r=>(Res.w r).drawn) h2)))
     ·rename_i h2
      have h2:=Nat.le_trans h1 (Nat.le_trans (ZJ p _ _) (Nat.le_of_eq (congrArg (fun r=>(Res.w r).drawn) h2)))
      split
      ·trivial
      ·rename_i h8
       have h8:=Nat.le_trans (m:=(Machine.world (Machine.advanceTo { m with world:=_ } _)).drawn) h2 (Nat.le_trans (ZJ p _ _) (Nat.le_of_eq (congrArg (fun r=>(Res.w r).drawn) h8)))
       split
       ·exact h8
       ·split
        ·trivial
        ·rename_i h9
         exact Nat.le_trans h8 (Nat.le_trans (ZJ p _ _) (Nat.le_of_eq (congrArg (fun r=>(Res.w r).drawn) h9)))
theorem Zd8 (p:Program) (m:Machine):Mok m.world.drawn (ask p m):=by
 unfold ask
 split
 ·split
  ·trivial
  ·rename_i world h1
   have h1:=Nat.le_trans (ZJ p _ _) (Nat.le_of_eq (congrArg (fun r=>(Res.w r).drawn) h1))
   have h2:=Z90 p m.gs m.rest world
   split
   ·rename_i h3
    rw[h3] at h2
    exact ZcQ (Z3W ..) (Nat.le_trans h1 h2)
   ·exact Z46 h2 h1
  ·rename_i h1
   have h1:=Nat.le_trans (ZJ p _ _) (Nat.le_of_eq (congrArg (fun r=>(Res.w r).drawn) h1))
   exact ZcQ (Z3W p { m with world:=_ }) h1
 ·exact Z3W ..
theorem Zfz (p:Program) (m:Machine):Mok m.world.drawn (move p m):=by
 unfold move
 split
 ·split
  ·exact Nat.le_refl _
  ·trivial
 ·split
  ·split
   ·exact Nat.le_refl _
   ·exact Zd8 p { m with rest:=_ }
  ·exact Zd8 ..
theorem ZdU {p:Program} {m m':Machine} (h:step p m= .next m'):m.world.drawn<=m'.world.drawn:=by
 have h1:=Zfz p m
 unfold step stepT at h
 generalize move p m=mv at h h1
 cases mv with
 | goroutine m1 i =>
  have h2:=Zfy p m1 i true
  simp only at h
  rw[h] at h2
  exact Nat.le_trans h1 h2
 | machine s ops =>
  simp only at h
  subst h
  exact h1
theorem Z61 {p:Program} {m m':Machine} (h:Steps p m m'):m.world.drawn<=m'.world.drawn:=by
 obtain⟨n,hn⟩:=h
 induction n generalizing m with
 | zero=>simp only[runN,Stepped.next.injEq] at hn; subst hn; exact Nat.le_refl _
 | succ n ih =>
  simp only[runN] at hn
  cases hs:step p m with
  | next m1=>rw[hs] at hn; exact Nat.le_trans (ZdU hs) (ih hn)
  | ended o w=>rw[hs] at hn; cases hn
theorem calls_le {P:Program} {f:FuncId} {args:Array Value} {w:World} {R:Ending->World->Prop} (h:Calls P f args w R) (hn: ∀ w',¬ R .outgrown w'):Calls P f args w fun e w'=>R e w'/\w.drawn<=w'.drawn:=fun cs=>by
 obtain⟨e,w',fr,hR,hc,h1,h2⟩:=h cs
 refine⟨e,w',fr,⟨hR, ?_⟩,hc,h1,h2⟩
 cases e with
 | returned v=>exact Z61 (m:=lone _ cs w) (m':=lone fr cs w') hc
 | panicked ch=>exact Z61 (m:=lone _ cs w) (m':=lone fr cs w') hc
 | outgrown=>exact absurd hR (hn _)
end Go.Sx.Dr
