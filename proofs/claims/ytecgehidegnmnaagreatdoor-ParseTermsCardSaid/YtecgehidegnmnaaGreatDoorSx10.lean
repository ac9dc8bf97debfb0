/- Own work: a layer over the kit: plain data,a walk over it,its soundness. -/
import Derived.Sort.OwnSorted
import Derived.Test.YtecgehidegnmnaaGreatDoorSx9
import Derived.Test.YtecgehidegnmnaaGreatDoorSx8
import Derived.Test.YtecgehidegnmnaaGreatDoorSx6
set_option linter.all false
/- PROGRAMS ARE READ;their sizes;how many names the reference model gathers. -/
namespace Go.Sx
open Go.RowKit Go.Deep Go.ChangeShapes Go.WideShapes
structure Co where
 n:Nm
 v:Tm
def Co.cs (x:Co):List D:=.str x.n::x.v.cells
def coL (l:List Co):List (List D):=l.map Co.cs
theorem ZhB (l:List Co):(coL l).length=l.length:=by simp[coL]
structure Pg where
 r:List Ru
 c:List Co
 s:List (List D)
 so:Bool
def Pg.cs (x:Pg):List D:=[.slice (x.r.map Ru.cs) [],.slice (coL x.c) [],.slice x.s [],.bool x.so]
structure Pg.wf (B:Nat) (x:Pg):Prop where
 rl:x.r.length<=B
 r: ∀ y∈x.r,y.wf B
 cl:x.c.length<=B
 c: ∀ y∈x.c,y.v.wf B
 sl:x.s.length<=B
variable {P:Program}
section
variable [Globs] [Codes]
end
/- Sizes. -/
/- How many names. -/
end Go.Sx
/- THE PARSER,PLAINLY. -/
namespace Go.Sx.Ps
open Go.Sx
open Go.Sx.Lx (Tk)
inductive PR (α:Type) where
 |ok (a:α) (i:Nat)
 |bad (at':Nat) (e:Int)
def PR.bind {α β:Type}:PR α->(α->Nat->PR β)->PR β
 |.ok a i,f=>f a i
 |.bad a e,_=>.bad a e
section
variable (ts:List Tk)
def Zf (i:Nat):Tk:=ts.getD i (0,[],0)
def Z1 (i:Nat) (l:List (List UInt8)):Bool:=decide (4<=(Zf ts i).1) && l.contains (Zf ts i).2.1
def Z0 (t:List UInt8) (i:Nat):PR Unit:=if Z1 ts i [t]=true then .ok () (i+1) else .bad i 40
def Zu (k:Int) (i:Nat):PR (List UInt8):=if (Zf ts i).1=k then .ok (Zf ts i).2.1 (i+1) else .bad i 40
def ZjX (s:List UInt8):Int:=match Lib.atoiAll s with
 |.ok n=>n
 |.range=>Lib.atoiSat s
 |_=>0
def Z1z (i:Nat):PR Int:=(Zu ts 3 i).bind λs j=>.ok (ZjX s) j
def Z0s {α:Type} (c:Nat) (e:List UInt8) (b:Nat->PR α):Nat->List α->Nat->PR (List α)
 |0,_,i=>.bad i 0
 |n+1,out,i=>if c<=out.length then .bad i 5 else (b i).bind λa j=>if Z1 ts j [e]=true then Z0s c e b n (out++[a]) (j+1) else .ok (out++[a]) j
def Qk {α:Type} (b:Nat) (e:List UInt8) (c:Nat->PR α) (i:Nat):PR (List α):=Z0s ts b e c (b+1) [] i
def QG (b:Nat->PR Tm) (ops:List (List UInt8)):Nat->Tm->Nat->PR Tm
 |0,_,i=>.bad i 0
 |n+1,t,i=>if Z1 ts i ops=true then (b (i+1)).bind λu j=>QG b ops n (.mk 5 0 (Zf ts i).2.1 [t,u]) j else .ok t i
def Z02 (b:Nat->PR Tm) (ops:List (List UInt8)) (i:Nat):PR Tm:=(b i).bind λt j=>QG ts b ops (ts.length+1) t j
def QU (f:Nat->PR Tm) (i:Nat):PR Tm:=Z02 ts f [[42],[47],[92]] i
def Z3M (f:Nat->PR Tm) (i:Nat):PR Tm:=Z02 ts (QU ts f) [[43],[45]] i
def ZN (f:Nat->PR Tm) (i:Nat):PR Tm:=(Z3M ts f i).bind λt j=>if Z1 ts j [[46,46]]=true then (Z3M ts f (j+1)).bind λu k=>.ok (.mk 6 0 [] [t,u]) k else .ok t j
def ZZ (part:Nat->PR Tm) (i:Nat):PR Tm:=(Zu ts 1 i).bind λs j=>if Z1 ts j [[40]]=true then (Qk ts 8 [44] part (j+1)).bind λl k=>(Z0 ts [41] k).bind λ_ m=>.ok (.mk 4 0 s l) m else .ok (.mk 2 0 s []) j
def Zd:Nat->Nat->PR Tm
 |0,i=>.bad i 0
 |n+1,i =>
  if (Zf ts i).1=3 then (Z1z ts i).bind λv j=>.ok (.mk 1 v [] []) j
  else if (Zf ts i).1=2 then (Zu ts 2 i).bind λs j=>.ok (.mk 3 0 s []) j
  else if Z1 ts i [[40]]=true then (ZN ts (Zd n) (i+1)).bind λt j=>(Z0 ts [41] j).bind λ_ k=>.ok t k
  else if Z1 ts i [[45]]=true then
   if (Zf ts (i+1)).1=3 then (Z1z ts (i+1)).bind λv j=>.ok (.mk 1 (-v) [] []) j
   else (Zd n (i+1)).bind λt j=>.ok (.mk 5 0 [45] [t]) j
  else ZZ ts (ZN ts (Zd n)) i
def Zr (n:Nat):Nat->PR Tm:=ZN ts (Zd ts n)
def Qe (n:Nat):Nat->PR Tm:=ZZ ts (Zr ts n)
abbrev fu:Nat:=ts.length+1
def ZI (t:Tm) (b at':Nat) (j:Nat):PR Tm:=if b<t.depth then .bad at' 5 else .ok t j
def Z8 (i:Nat):PR Tm:=(Zr ts (fu ts) i).bind λt j=>ZI t 12 i j
def nmT:Tm->List UInt8
 |.mk _ _ s _=>s
def arT:Tm->List Tm
 |.mk _ _ _ l=>l
def kT:Tm->Nat
 |.mk k _ _ _=>k
abbrev Am:=List UInt8 × List Tm
def ZE (t:Tm) (at' j:Nat):PR Am:=(ZI t 13 at' j).bind λt j=>.ok (nmT t,arT t) j
def QQ (i:Nat):PR Am:=(Qe ts (fu ts) i).bind λt j=>ZE t i j
def Z9 (ends:List (List UInt8)) (i:Nat):PR (Am × Tm × Bool):=(Zr ts (fu ts) i).bind λt j =>
 if Z1 ts j ends=true then (ZI t 12 i j).bind λt j=>.ok (([],[]),t,false) j
 else if (Zf ts i).1≠1\/kT t≠2/\kT t≠4 then (ZI t 12 i j).bind λ_ j=>.bad j 40
 else (ZE t i j).bind λa j=>.ok (a,t,true) j
def cmpL:List (List UInt8):=[[61],[33,61],[60],[60,61],[62],[62,61]]
def Zb (i:Nat):PR Nat:=if idxS (Zf ts i).2.1 cmpL 0<0\/(Zf ts i).1≠6 then .bad i 40 else .ok ((idxS (Zf ts i).2.1 cmpL 0).toNat+1) (i+1)
abbrev z0:Tm:=.mk 0 0 [] []
def Zn (no:Bool) (i:Nat):PR Lt:=if no=true then (QQ ts i).bind λa j=>.ok ⟨1,true,a.1,a.2,0,z0,z0⟩ j
 else (Z9 ts cmpL i).bind λx j=>if x.2.2=true then .ok ⟨1,false,x.1.1,x.1.2,0,z0,z0⟩ j
  else (Zb ts j).bind λop k=>(Z8 ts k).bind λr m=>.ok ⟨2,false,[],[],op,x.2.1,r⟩ m
def tkP (t:List UInt8) (i:Nat):Bool × Nat:=if Z1 ts i [t]=true then (true,i+1) else (false,i)
def Z1Z (i:Nat):PR Lt:=Zn ts (tkP ts Lx.ZG i).1 (tkP ts Lx.ZG i).2
def Qi (i:Nat):PR (List Lt):=if Z1 ts i [[58]]=true then Qk ts 64 [44] (Z1Z ts) (i+1) else .ok [] i
def ZY (i:Nat):PR (List Tm):=Qk ts 64 [44] (Z8 ts) i
def Zs {α:Type} (b:Nat->PR α) (i:Nat):PR (List α):=(Z0 ts [123] i).bind λ_ j=>(Qk ts 64 [59] b j).bind λl k=>(Z0 ts [125] k).bind λ_ m=>.ok l m
def Z0a (i:Nat):PR El:=(ZY ts i).bind λl j=>(Qi ts j).bind λc k=>.ok ⟨l,c⟩ k
def Z2h:List UInt8:=[35,99,111,117,110,116]
def Z2p:List UInt8:=[35,115,117,109]
abbrev zL:Lt:=⟨0,false,[],[],0,z0,z0⟩
def Zc (no:Bool) (i:Nat):PR Bo :=
 (if Z1 ts i [Z2p]=true then PR.ok 2 (i+1) else (Z0 ts Z2h i).bind λ_ j=>.ok 1 j).bind λfn j =>
 (Zs ts (Z0a ts) j).bind λes k=>if Z1 ts k [[33,61]]=true then .bad k 40 else
 (Zb ts k).bind λop m=>(Z8 ts m).bind λb o=>.ok ⟨3,zL,[],no,fn,es,op,b⟩ o
def Zh (i:Nat):PR Bo :=
 if Z1 ts (tkP ts Lx.ZG i).2 [Z2h,Z2p]=true then Zc ts (tkP ts Lx.ZG i).1 (tkP ts Lx.ZG i).2
 else (Zn ts (tkP ts Lx.ZG i).1 (tkP ts Lx.ZG i).2).bind λl j=>(Qi ts j).bind λc k=>.ok ⟨if c=[] then 1 else 2,l,c,false,0,[],0,z0⟩ k
def Z1b:Nat->List Bo->Nat->PR (List Bo)
 |0,_,i=>.bad i 0
 |n+1,out,i=>if 64<=out.length then .bad i 5 else (Zh ts i).bind λb j =>
  if Z1 ts j [[59]]=true then Z1b n (out++[b]) (j+1)
  else if b.k=2 then .ok (out++[b]) j
  else if Z1 ts j [[44]]=true then Z1b n (out++[b]) (j+1)
  else .ok (out++[b]) j
def ZR (i:Nat):PR (List Bo):=Z1b ts 65 [] i
abbrev zR:Ru:=⟨0,[],z0,z0,[],z0,z0,[]⟩
def Z0U (i:Nat):PR He:=(QQ ts i).bind λa j=>(Qi ts j).bind λc k=>.ok ⟨a.1,a.2,c⟩ k
def Zg (b:Tm) (i:Nat):PR Ru:=(Zs ts (Z0U ts) i).bind λhs j =>
 if Z1 ts j [[58,45],[46]]=true then .ok {zR with k:=2,lo:=b,h:=hs} j
 else (Z8 ts j).bind λu k=>.ok {zR with k:=2,lo:=b,h:=hs,up:=u} k
def Z2x:Nat->List He->Nat->PR (List He)
 |0,_,i=>.bad i 0
 |n+1,out,i=>if Z1 ts i [[124]]=true then (if 64<=out.length then .bad (i+1) 5 else (QQ ts (i+1)).bind λa j=>Z2x n (out++[⟨a.1,a.2,[]⟩]) j) else .ok out i
def ZT (i:Nat):PR Ru :=
 if Z1 ts i [[123]]=true then Zg ts z0 i
 else if Z1 ts i [[58,45]]=true then .ok {zR with k:=1} i
 else (Z9 ts [[123]] i).bind λx j=>if x.2.2=true then (Z2x ts 65 [⟨x.1.1,x.1.2,[]⟩] j).bind λhs k=>.ok {zR with k:=1,h:=hs} k
  else Zg ts x.2.1 j
def Zt (i:Nat):PR Ru:=(Z8 ts i).bind λw j =>
 (if Z1 ts j [[64]]=true then Z8 ts (j+1) else .ok (.mk 1 0 [] []) j).bind λlv k =>
 (if Z1 ts k [[44]]=true then ZY ts (k+1) else .ok [] k).bind λb m=>.ok {zR with k:=3,w:=w,lv:=lv,t:=b} m
def QJ (i:Nat):PR Ru:=(Z0 ts [58,126] i).bind λ_ j =>
 (if Z1 ts j [[46]]=true then .ok [] j else ZR ts j).bind λb k=>(Z0 ts [46] k).bind λ_ m=>(Z0 ts [91] m).bind λ_ o =>
 (Zt ts o).bind λr p=>(Z0 ts [93] p).bind λ_ q=>.ok {r with b:=b} q
def ZD (i:Nat):PR Ru:=if Z1 ts i [[58,126]]=true then QJ ts i
 else (ZT ts i).bind λr j=>(if Z1 ts j [[58,45]]=true then ZR ts (j+1) else .ok [] j).bind λb k=>(Z0 ts [46] k).bind λ_ m=>.ok {r with b:=b} m
structure Ac where
 r:List Ru
 c:List Co
 s:List (List UInt8 × Int)
 so:Bool
def Ze (n i:Nat):PR Unit:=if 400<=n then .bad i 5 else .ok () i
def Qf:List UInt8:=[35,99,111,110,115,116]
def Z1r:List UInt8:=[35,115,104,111,119]
def Z3B:List UInt8:=[35,109,105,110,105,109,105,122,101]
def Z01 (a:Ac) (i:Nat):PR Ac:=(Ze a.c.length i).bind λ_ i=>(Z0 ts Qf i).bind λ_ j=>(Zu ts 1 j).bind λn k=>(Z0 ts [61] k).bind λ_ m =>
 (Z8 ts m).bind λv o=>(Z0 ts [46] o).bind λ_ p=>.ok {a with c:=a.c++[⟨n,v⟩]} p
def Z2W (a:Ac) (i:Nat):PR Ac:=(Ze a.s.length i).bind λ_ i=>(Z0 ts Z1r i).bind λ_ j =>
 (if Z1 ts j [[46]]=true then .ok {a with so:=true} j else (Zu ts 1 j).bind λn k=>(Z0 ts [47] k).bind λ_ m=>(Z1z ts m).bind λv o=>.ok {a with so:=true,s:=a.s++[(n,v)]} o).bind λb p =>
 (Z0 ts [46] p).bind λ_ q=>.ok b q
def Z00:Nat->List Ru->Nat->PR (List Ru)
 |0,_,i=>.bad i 0
 |n+1,rs,i=>(Ze rs.length i).bind λ_ i=>(Zt ts i).bind λr j=>(Qi ts j).bind λl k =>
  if Z1 ts k [[59]]=true then Z00 n (rs++[{r with b:=l.map λx=>⟨1,x,[],false,0,[],0,z0⟩}]) (k+1)
  else .ok (rs++[{r with b:=l.map λx=>⟨1,x,[],false,0,[],0,z0⟩}]) k
def QZ (a:Ac) (i:Nat):PR Ac:=(Z0 ts Z3B i).bind λ_ j=>(Z0 ts [123] j).bind λ_ k=>(Z00 ts 401 a.r k).bind λrs m =>
 (Z0 ts [125] m).bind λ_ o=>(Z0 ts [46] o).bind λ_ p=>.ok {a with r:=rs} p
def ZK (a:Ac) (i:Nat):PR Ac :=
 if (Zf ts i).2.1=Qf then Z01 ts a i
 else if (Zf ts i).2.1=Z1r then Z2W ts a i
 else if (Zf ts i).2.1=Z3B then QZ ts a i
 else (Ze a.r.length i).bind λ_ i=>(ZD ts i).bind λr j=>.ok {a with r:=a.r++[r]} j
def Z33:Nat->Ac->Nat->PR Ac
 |0,_,i=>.bad i 0
 |n+1,a,i=>if i<ts.length then (ZK ts a i).bind λb j=>Z33 n b j else .ok a i
def Z0I:PR Ac:=Z33 ts (fu ts) ⟨[],[],[],false⟩ 0
def ZkY {α:Type} (x:PR α):PR α:=x.bind λa j=>if j<ts.length then .bad j 40 else .ok a j
end
end Go.Sx.Ps
/- The parser goes on,and ends;two lists of tokens that look alike. -/
namespace Go.Sx.Ps
open Go.Sx
open Go.Sx.Lx (Tk)
theorem Z0u {ts:List Tk} {i:Nat} (h:(Zf ts i).1≠0):i<ts.length:=by
 apply Classical.byContradiction;intro b;apply h;simp only[Zf,List.getD_eq_getElem?_getD,List.getElem?_eq_none (by omega:ts.length<=i),Option.getD_none]
theorem Qq {ts:List Tk} {i:Nat} {l:List (List UInt8)} (h:Z1 ts i l=true):i<ts.length:=by
 simp only[Z1,Bool.and_eq_true,decide_eq_true_eq] at h;exact Z0u (by omega)
structure Sm (ts us:List Tk) (d:Nat) (fl:Bool):Prop where
 kd: ∀ i,(i<ts.length\/fl=true)->(Zf us (i+d)).1=(Zf ts i).1
 tx: ∀ i,(i<ts.length\/fl=true)->(Zf us (i+d)).2.1=(Zf ts i).2.1
 ln:ts.length+d<=us.length
 fu:fl=true->us.length=ts.length+d
theorem Sm.self (ts:List Tk):Sm ts ts 0 true:=⟨λ_ _=>rfl,λ_ _=>rfl,Nat.le_refl _,λ_=>rfl⟩
section
variable {ts us:List Tk} {d:Nat} {fl:Bool} (S:Sm ts us d fl) {α β:Type}
include S in
theorem Sm.sees {i:Nat} (h:i<ts.length\/fl=true) (l:List (List UInt8)):Z1 us (i+d) l=Z1 ts i l:=by
 unfold Z1;rw[S.kd i h,S.tx i h]
def W (ts:List Tk) (d:Nat) (fl:Bool) (i:Nat):PR α->PR α->Prop
 |.ok a j,y=>i<=j/\(i<=ts.length->j<=ts.length)/\((j<ts.length\/fl=true)->y=.ok a (j+d))
 |.bad a e,y=>e≠0/\(fl=true->y=.bad (a+d) e)
def WS (ts:List Tk) (d:Nat) (fl:Bool) (i:Nat):PR α->PR α->Prop
 |.ok a j,y=>i<j/\(i<=ts.length->j<=ts.length)/\((i<=ts.length\/fl=true)->y=.ok a (j+d))
 |.bad a e,y=>e≠0/\(fl=true->y=.bad (a+d) e)
theorem W.ok0 {i:Nat} (a:α):W ts d fl i (.ok a i) (.ok a (i+d)):=⟨Nat.le_refl _,id,λ_=>rfl⟩
theorem W.bad {i a:Nat} {e:Int} (h:e≠0):W ts d fl i (.bad a e:PR α) (.bad (a+d) e):=⟨h,λ_=>rfl⟩
theorem W.le {i j:Nat} {x y:PR α} (h:W ts d fl j x y) (b:i<=j) (h2:i<=ts.length->j<=ts.length):W ts d fl i x y:=by
 cases x with
 |ok a k=>exact⟨Nat.le_trans b h.1,λc=>h.2.1 (h2 c),h.2.2⟩
 |bad a e=>exact h
theorem WS.le {i j:Nat} {x y:PR α} (h:WS ts d fl j x y) (c:i<=j) (h2:i<=ts.length->j<=ts.length):WS ts d fl i x y:=by
 cases x with
 |ok a k=>exact⟨Nat.lt_of_le_of_lt c h.1,λb=>h.2.1 (h2 b),λb=>h.2.2 (b.imp h2 id)⟩
 |bad a e=>exact h
theorem WS.w {i:Nat} {x y:PR α} (h:WS ts d fl i x y):W ts d fl i x y:=by
 cases x with
 |ok a k=>exact⟨Nat.le_of_lt h.1,h.2.1,λb=>h.2.2 (b.imp (λc=>by have:=h.1;omega) id)⟩
 |bad a e=>exact h
theorem W.off {i:Nat} {x y:PR α} (hi: ¬ (i<ts.length\/fl=true)) (z:PR α) (h:W ts d fl i x y):W ts d fl i x z:=by
 have hf: ¬ fl=true:=λh=>hi (.inr h);cases x with
 |ok a k=>exact⟨h.1,h.2.1,λb=>absurd (b.imp (λc=>Nat.lt_of_le_of_lt h.1 c) id) hi⟩
 |bad a e=>exact⟨h.1,λb=>absurd b hf⟩
theorem W.ite {i:Nat} {c b:Prop} [Decidable c] [Decidable b] {x e y f:PR α} (hc:(i<ts.length\/fl=true)->(b ↔ c)) (h1:c->W ts d fl i x e) (h2: ¬ c->W ts d fl i y f):W ts d fl i (if c then x else y) (if b then e else f):=by
 by_cases hi:i<ts.length\/fl=true
 ·by_cases h:c
  ·rw[if_pos h,if_pos ((hc hi).2 h)];exact h1 h
  ·rw[if_neg h,if_neg (λh'=>h ((hc hi).1 h'))];exact h2 h
 ·by_cases h:c
  ·rw[if_pos h];exact (h1 h).off hi _
  ·rw[if_neg h];exact (h2 h).off hi _
theorem W.bind {i:Nat} {x m:PR α} {f g:α->Nat->PR β} (h:W ts d fl i x m) (k: ∀ a j,i<=j->x=.ok a j->W ts d fl j (f a j) (g a (j+d))):W ts d fl i (x.bind f) (m.bind g):=by
 cases x with
 |ok a j =>
  obtain⟨h1,h2,b⟩:=h;have l:=k a j h1 rfl;by_cases c:j<ts.length\/fl=true
  ·rw[b c];exact l.le h1 h2
  ·exact (l.off c _).le h1 h2
 |bad a e=>exact⟨h.1,λb=>by rw[h.2 b];rfl⟩
theorem W.bindS {i:Nat} {x q:PR α} {f g:α->Nat->PR β} (h:W ts d fl i x q) (k: ∀ a j,i<=j->x=.ok a j->WS ts d fl j (f a j) (g a (j+d))):WS ts d fl i (x.bind f) (q.bind g):=by
 cases x with
 |ok a j =>
  obtain⟨h1,h2,o⟩:=h;have l:=k a j h1 rfl;by_cases p:j<ts.length\/fl=true
  ·rw[o p];exact l.le h1 h2
  ·have hf: ¬ fl=true:=λh=>p (.inr h);show WS ts d fl i (f a j) _;cases hx:f a j with
   |ok b m =>
    rw[hx] at l;refine⟨Nat.lt_of_le_of_lt h1 l.1,λc=>l.2.1 (h2 c),λc=>?_⟩;rcases c with c|c
    ·have:=l.2.1 (h2 c);have:=l.1;exact absurd (.inl (by omega)) p
    ·exact absurd c hf
   |bad b e=>rw[hx] at l;exact⟨l.1,λc=>absurd c hf⟩
 |bad a e=>exact⟨h.1,λo=>by rw[h.2 o];rfl⟩
theorem WS.map {i:Nat} {x b:PR α} (v:α->β) (h:WS ts d fl i x b):WS ts d fl i (x.bind λa j=>.ok (v a) j) (b.bind λa j=>.ok (v a) j):=by
 cases x with
 |ok a j=>exact⟨h.1,h.2.1,λf=>by rw[h.2.2 f];rfl⟩
 |bad a e=>exact⟨h.1,λc=>by rw[h.2 c];rfl⟩
include S in
theorem WS.ite {i:Nat} {l:List (List UInt8)} {x c y f:PR α} (h1:Z1 ts i l=true->WS ts d fl i x c) (h2:WS ts d fl i y f):WS ts d fl i (if Z1 ts i l=true then x else y) (if Z1 us (i+d) l=true then c else f):=by
 by_cases hi:i<ts.length\/fl=true
 ·rw[S.sees hi];split
  ·rename_i h;exact h1 h
  ·exact h2
 ·rw[if_neg (λh=>hi (.inl (Qq h)))];cases y with
  |ok a j=>exact⟨h2.1,h2.2.1,λb=>by
    rcases b with b|b
    ·have:=h2.2.1 b;have:=h2.1;exact absurd (.inl (by omega)) hi
    ·exact absurd (.inr b) hi⟩
  |bad a e=>exact⟨h2.1,λh=>absurd (.inr h) hi⟩
include S
theorem Qp {i:Nat} {l:List (List UInt8)} {x b y c:PR α} (h1:Z1 ts i l=true->W ts d fl i x b) (h2:W ts d fl i y c):W ts d fl i (if Z1 ts i l=true then x else y) (if Z1 us (i+d) l=true then b else c) :=
 W.ite (λhi=>by rw[S.sees hi]) h1 λ_=>h2
omit S in
theorem arc (d i:Nat):i+d+1=i+1+d:=by omega
omit S in
theorem W.nxt {i:Nat} {l:List (List UInt8)} {x y:PR α} (hs:Z1 ts i l=true) (h:W ts d fl (i+1) x y):W ts d fl i x y:=h.le (Nat.le_succ i) λ_=>Qq hs
theorem Q7 (t:List UInt8) (i:Nat):WS ts d fl i (Z0 ts t i) (Z0 us t (i+d)):=by
 unfold Z0;by_cases hi:i<ts.length\/fl=true
 ·rw[S.sees hi];split
  ·rename_i h
   have:=Qq h;rw[arc];exact⟨Nat.lt_succ_self i,λ_=>this,λ_=>rfl⟩
  ·exact⟨by decide,λ_=>rfl⟩
 ·rw[if_neg (λh=>hi (.inl (Qq h)))];exact⟨by decide,λh=>absurd (.inr h) hi⟩
theorem Z2N {k:Int} (b:k≠0) (i:Nat):WS ts d fl i (Zu ts k i) (Zu us k (i+d)):=by
 unfold Zu;by_cases hi:i<ts.length\/fl=true
 ·rw[S.kd i hi,S.tx i hi];split
  ·rename_i h
   have:=Z0u (ts:=ts) (i:=i) (by omega);rw[arc];exact⟨Nat.lt_succ_self i,λ_=>this,λ_=>rfl⟩
  ·exact⟨by decide,λ_=>rfl⟩
 ·rw[if_neg (λh=>hi (.inl (Z0u (by omega))))];exact⟨by decide,λh=>absurd (.inr h) hi⟩
theorem Z8I (i:Nat):WS ts d fl i (Z1z ts i) (Z1z us (i+d)):=WS.map _ (Z2N S (by decide) i)
theorem ZdN {b:Nat} {f:List UInt8} {e c:Nat->PR α} {i0:Nat} (g: ∀ k,i0<=k->W ts d fl k (e k) (c (k+d))): ∀ (n:Nat) (out:List α) (i:Nat),i0<=i->b+1<=n+out.length->out.length<=b->W ts d fl i (Z0s ts b f e n out i) (Z0s us b f c n out (i+d))
 |0,out,i,h,l,m=>by omega
 |n+1,out,i,h,l,m=>by
  unfold Z0s;refine W.ite (λ_=>Iff.rfl) (λ_=>W.bad (by decide)) λhm=>(g i h).bind λa j o _=>?_;refine Qp S (λhs=>W.nxt hs ?_) (W.ok0 _);rw[arc];exact ZdN g n (out++[a]) (j+1) (by omega) (by simp;omega) (by simp;omega)
theorem Z4e (c:Nat) (f:List UInt8) {e b:Nat->PR α} {i0:Nat} (g: ∀ k,i0<=k->W ts d fl k (e k) (b (k+d))) {i:Nat} (h:i0<=i):W ts d fl i (Qk ts c f e i) (Qk us c f b (i+d)) :=
 ZdN S g (c+1) [] i h (by simp) (by simp)
theorem Z8T {c b:Nat->PR Tm} {ops:List (List UInt8)} {i0:Nat} (f: ∀ k,i0<=k->W ts d fl k (c k) (b (k+d))): ∀ (n m:Nat) (t:Tm) (i:Nat),i0<=i->ts.length-i<n->us.length-(i+d)<m->W ts d fl i (QG ts c ops n t i) (QG us b ops m t (i+d))
 |0,_,_,_,_,g,_=>by omega
 |_+1,0,_,_,_,_,hm=>by omega
 |n+1,m+1,t,i,h,g,hm=>by
  unfold QG;have hl:=S.ln;by_cases hs:Z1 ts i ops=true
  ·have e:=Qq hs;rw[S.sees (.inl e),if_pos hs,if_pos hs,S.tx i (.inl e),arc];refine W.nxt hs ((f (i+1) (by omega)).bind λu j l _=>?_);exact Z8T f n m _ j (by omega) (by omega) (by omega)
  ·refine Qp S (λh=>absurd h hs) (W.ok0 _)
theorem Z4f {c b:Nat->PR Tm} {ops:List (List UInt8)} {i0:Nat} (e: ∀ k,i0<=k->W ts d fl k (c k) (b (k+d))) {i:Nat} (h:i0<=i):W ts d fl i (Z02 ts c ops i) (Z02 us b ops (i+d)):=by
 unfold Z02;refine (e i h).bind λt j f _=>Z8T S e _ _ t j (by omega) (by omega) (by omega)
theorem ZeO {f g:Nat->PR Tm} {i0:Nat} (b: ∀ k,i0<=k->W ts d fl k (f k) (g (k+d))) {i:Nat} (h:i0<=i):W ts d fl i (Z3M ts f i) (Z3M us g (i+d)) :=
 Z4f S (λk c=>Z4f S b c) h
theorem Z6G {f g:Nat->PR Tm} {i0:Nat} (b: ∀ k,i0<=k->W ts d fl k (f k) (g (k+d))) {i:Nat} (h:i0<=i):W ts d fl i (ZN ts f i) (ZN us g (i+d)):=by
 unfold ZN;refine (ZeO S b h).bind λt j c _=>Qp S (λhs=>W.nxt hs ?_) (W.ok0 _);rw[arc];exact (ZeO S b (by omega)).bind λu k e _=>W.ok0 _
theorem Z8P {f g:Nat->PR Tm} {i:Nat} (c:i<ts.length-> ∀ k,i+1<=k->W ts d fl k (f k) (g (k+d))):W ts d fl i (ZZ ts f i) (ZZ us g (i+d)):=by
 unfold ZZ;refine (Z2N S (by decide) i).w.bind λs j e hx=>Qp S (λhs=>W.nxt hs ?_) (W.ok0 _);rw[arc];have b:i<ts.length:=by have:=Qq hs;omega
 refine (Z4e S 8 [44] (i0:=i+1) (c b) (by omega)).bind λl k h _=>(Q7 S _ k).w.bind λ_ m hm _=>W.ok0 _
theorem Z1d: ∀ (n m i:Nat),ts.length-i<n->us.length-(i+d)<m->W ts d fl i (Zd ts n i) (Zd us m (i+d))
 |0,_,_,e,_=>by omega
 |_+1,0,_,_,hm=>by omega
 |n+1,m+1,i,e,hm=>by
  unfold Zd;have hl:=S.ln;refine W.ite (λhi=>by rw[S.kd i hi]) (λ_=>(Z8I S i).w.bind λv j _ _=>W.ok0 _) λ_=>?_;refine W.ite (λhi=>by rw[S.kd i hi]) (λ_=>(Z2N S (by decide) i).w.bind λv j _ _=>W.ok0 _) λ_=>?_;refine Qp S (λhs=>W.nxt hs ?_) (Qp S (λhs=>W.nxt hs ?_) ?_)
  ·have:=Qq hs;rw[arc];exact (Z6G S (i0:=i+1) (λk b=>Z1d n m k (by omega) (by omega)) (Nat.le_refl _)).bind λt j f _=>(Q7 S _ j).w.bind λ_ k _ _=>W.ok0 _
  ·have:=Qq hs;rw[arc];refine W.ite (λhi=>by rw[S.kd (i+1) hi]) (λ_=>(Z8I S (i+1)).w.bind λv j _ _=>W.ok0 _) λ_=>?_;exact (Z1d n m (i+1) (by omega) (by omega)).bind λt j _ _=>W.ok0 _
  ·exact Z8P S λc k b=>Z6G S (i0:=i+1) (λk b=>Z1d n m k (by omega) (by omega)) (by omega)
theorem Z2P (i:Nat):W ts d fl i (Zr ts (fu ts) i) (Zr us (fu us) (i+d)) :=
 Z6G S (i0:=0) (λk _=>Z1d S _ _ k (by unfold fu;omega) (by unfold fu;omega)) (Nat.zero_le _)
theorem Z6H (i:Nat):W ts d fl i (Qe ts (fu ts) i) (Qe us (fu us) (i+d)) :=
 Z8P S λ_ k _=>Z2P S k
omit S in
theorem Z6I (t:Tm) (b at' j:Nat):W ts d fl j (ZI t b at' j) (ZI t b (at'+d) (j+d)):=by
 unfold ZI;exact W.ite (λ_=>Iff.rfl) (λ_=>W.bad (by decide)) λ_=>W.ok0 _
theorem Z1G (i:Nat):W ts d fl i (Z8 ts i) (Z8 us (i+d)):=(Z2P S i).bind λt j _ _=>Z6I t 12 i j
omit S in
theorem Z6N (t:Tm) (at' j:Nat):W ts d fl j (ZE t at' j) (ZE t (at'+d) (j+d)):=(Z6I t 13 at' j).bind λt j _ _=>W.ok0 _
theorem Z8U (i:Nat):W ts d fl i (QQ ts i) (QQ us (i+d)):=(Z6H S i).bind λt j _ _=>Z6N t i j
theorem Z6J (ends:List (List UInt8)) (i:Nat):W ts d fl i (Z9 ts ends i) (Z9 us ends (i+d)):=by
 unfold Z9;refine (Z2P S i).bind λt j b _=>Qp S (λ_=>(Z6I t 12 i j).bind λt j _ _=>W.ok0 _) ?_;refine W.ite (λhi=>by rw[S.kd i (hi.imp (by omega) id)]) (λ_=>(Z6I t 12 i j).bind λt j _ _=>W.bad (by decide)) λ_=>?_;exact (Z6N t i j).bind λt j _ _=>W.ok0 _
theorem Z8J (i:Nat):WS ts d fl i (Zb ts i) (Zb us (i+d)):=by
 unfold Zb;by_cases hi:i<ts.length\/fl=true
 ·rw[S.kd i hi,S.tx i hi,arc];split
  ·exact⟨by decide,λ_=>rfl⟩
  ·rename_i h
   have:=Z0u (ts:=ts) (i:=i) (by omega);exact⟨Nat.lt_succ_self i,λ_=>this,λ_=>rfl⟩
 ·rw[if_pos (.inr λh=>hi (.inl (Z0u (by omega))))];exact⟨by decide,λh=>absurd (.inr h) hi⟩
theorem Z4M (no:Bool) (i:Nat):W ts d fl i (Zn ts no i) (Zn us no (i+d)):=by
 unfold Zn;refine W.ite (λ_=>Iff.rfl) (λ_=>(Z8U S i).bind λa j _ _=>W.ok0 _) λ_=>?_;refine (Z6J S _ i).bind λx j _ _=>W.ite (λ_=>Iff.rfl) (λ_=>W.ok0 _) λ_=>?_;exact (Z8J S j).w.bind λop k _ _=>(Z1G S k).bind λr m _ _=>W.ok0 _
theorem w_tk {t:List UInt8} {i:Nat} {f g:Bool->Nat->PR α} (h: ∀ b k,W ts d fl k (f b k) (g b (k+d))):W ts d fl i (f (tkP ts t i).1 (tkP ts t i).2) (g (tkP us t (i+d)).1 (tkP us t (i+d)).2):=by
 unfold tkP;by_cases hi:i<ts.length\/fl=true
 ·rw[S.sees hi];by_cases hs:Z1 ts i [t]=true
  ·rw[if_pos hs,if_pos hs];refine W.nxt hs ?_;show W ts d fl (i+1) (f true (i+1)) (g true (i+d+1));rw[arc];exact h true (i+1)
  ·rw[if_neg hs,if_neg hs];exact h false i
 ·rw[if_neg (λh=>hi (.inl (Qq h)))];exact (h false i).off hi _
theorem ZiP (i:Nat):W ts d fl i (Z1Z ts i) (Z1Z us (i+d)):=w_tk S (f:=λb k=>Zn ts b k) (g:=λb k=>Zn us b k) λb k=>Z4M S b k
theorem Z6F (i:Nat):W ts d fl i (Qi ts i) (Qi us (i+d)):=by
 unfold Qi;refine Qp S (λhs=>W.nxt hs ?_) (W.ok0 _);rw[arc];exact Z4e S _ _ (i0:=0) (λk _=>ZiP S k) (Nat.zero_le _)
theorem Z8O (i:Nat):W ts d fl i (ZY ts i) (ZY us (i+d)):=Z4e S _ _ (i0:=0) (λk _=>Z1G S k) (Nat.zero_le _)
theorem Z6L {c b:Nat->PR α} (e: ∀ k,W ts d fl k (c k) (b (k+d))) (i:Nat):W ts d fl i (Zs ts c i) (Zs us b (i+d)) :=
 (Q7 S _ i).w.bind λ_ j _ _=>(Z4e S _ _ (i0:=0) (λk _=>e k) (Nat.zero_le _)).bind λl k _ _=>(Q7 S _ k).w.bind λ_ m _ _=>W.ok0 _
theorem ZdO (i:Nat):W ts d fl i (Z0a ts i) (Z0a us (i+d)):=(Z8O S i).bind λl j _ _=>(Z6F S j).bind λc k _ _=>W.ok0 _
theorem Z5z (no:Bool) (i:Nat):W ts d fl i (Zc ts no i) (Zc us no (i+d)):=by
 unfold Zc;refine W.bind (Qp S (λhs=>W.nxt hs ?_) ((Q7 S _ i).w.bind λ_ j _ _=>W.ok0 _)) λfn j _ _=>?_
 ·rw[arc];exact W.ok0 _
 refine (Z6L S (ZdO S) j).bind λes k _ _=>Qp S (λ_=>W.bad (by decide)) ?_;exact (Z8J S k).w.bind λop m _ _=>(Z1G S m).bind λb o _ _=>W.ok0 _
theorem Z8S (i:Nat):W ts d fl i (Zh ts i) (Zh us (i+d)):=by
 unfold Zh;refine w_tk S (f:=λb k=>if Z1 ts k [Z2h,Z2p]=true then Zc ts b k else (Zn ts b k).bind λl j=>(Qi ts j).bind λc k=>.ok ⟨if c=[] then 1 else 2,l,c,false,0,[],0,z0⟩ k) (g:=λb k=>if Z1 us k [Z2h,Z2p]=true then Zc us b k else (Zn us b k).bind λl j=>(Qi us j).bind λc k=>.ok ⟨if c=[] then 1 else 2,l,c,false,0,[],0,z0⟩ k) λb k=>?_;exact Qp S (λ_=>Z5z S b k) ((Z4M S b k).bind λl j _ _=>(Z6F S j).bind λc m _ _=>W.ok0 _)
theorem Z6M: ∀ (n:Nat) (out:List Bo) (i:Nat),65<=n+out.length->out.length<=64->W ts d fl i (Z1b ts n out i) (Z1b us n out (i+d))
 |0,out,i,c,e=>by omega
 |n+1,out,i,c,e=>by
  unfold Z1b;refine W.ite (λ_=>Iff.rfl) (λ_=>W.bad (by decide)) λhm=>(Z8S S i).bind λb j _ _=>?_;have go: ∀ l,Z1 ts j l=true->W ts d fl j (Z1b ts n (out++[b]) (j+1)) (Z1b us n (out++[b]) (j+d+1)):=λl hs=>W.nxt hs (by rw[arc];exact Z6M n _ (j+1) (by simp;omega) (by simp;omega));exact Qp S (go _) (W.ite (λ_=>Iff.rfl) (λ_=>W.ok0 _) λ_=>Qp S (go _) (W.ok0 _))
theorem ZdR (i:Nat):W ts d fl i (ZR ts i) (ZR us (i+d)):=Z6M S 65 [] i (by simp) (by simp)
theorem Z8R (i:Nat):W ts d fl i (Z0U ts i) (Z0U us (i+d)):=(Z8U S i).bind λa j _ _=>(Z6F S j).bind λc k _ _=>W.ok0 _
theorem Z6K (lo:Tm) (i:Nat):W ts d fl i (Zg ts lo i) (Zg us lo (i+d)):=by
 unfold Zg;exact (Z6L S (Z8R S) i).bind λhs j _ _=>Qp S (λ_=>W.ok0 _) ((Z1G S j).bind λu k _ _=>W.ok0 _)
theorem ZdP: ∀ (n:Nat) (out:List He) (i:Nat),65<=n+out.length->out.length<=64->W ts d fl i (Z2x ts n out i) (Z2x us n out (i+d))
 |0,out,i,b,c=>by omega
 |n+1,out,i,b,c=>by
  unfold Z2x;refine Qp S (λhs=>W.nxt hs ?_) (W.ok0 _);rw[arc];refine W.ite (λ_=>Iff.rfl) (λ_=>W.bad (by decide)) λhm=>(Z8U S (i+1)).bind λa j _ _=>?_;exact ZdP n _ j (by simp;omega) (by simp;omega)
theorem ZiQ (i:Nat):W ts d fl i (ZT ts i) (ZT us (i+d)):=by
 unfold ZT;refine Qp S (λ_=>Z6K S _ i) (Qp S (λ_=>W.ok0 _) ?_);exact (Z6J S _ i).bind λx j _ _=>W.ite (λ_=>Iff.rfl) (λ_=>(ZdP S 65 _ j (by simp) (by simp)).bind λhs k _ _=>W.ok0 _) λ_=>Z6K S _ j
theorem ZdQ (i:Nat):W ts d fl i (Zt ts i) (Zt us (i+d)):=by
 unfold Zt;refine (Z1G S i).bind λw j _ _=>W.bind (Qp S (λhs=>W.nxt hs ?_) (W.ok0 _)) λlv k _ _=>W.bind (Qp S (λhs=>W.nxt hs ?_) (W.ok0 _)) λb m _ _=>W.ok0 _
 ·rw[arc];exact Z1G S _
 ·rw[arc];exact Z8O S _
theorem ZeK (i:Nat):WS ts d fl i (QJ ts i) (QJ us (i+d)):=by
 unfold QJ;refine (Q7 S _ i).w.bindS λ_ j _ _=>W.bindS (Qp S (λ_=>W.ok0 _) (ZdR S j)) λb k _ _=>(Q7 S _ k).w.bindS λ_ m _ _=>(Q7 S _ m).w.bindS λ_ o _ _=>(ZdQ S o).bindS λr p _ _=>?_;exact WS.map _ (Q7 S _ p)
theorem Z8H (i:Nat):WS ts d fl i (ZD ts i) (ZD us (i+d)):=by
 unfold ZD;refine WS.ite S (λ_=>ZeK S i) ?_;refine (ZiQ S i).bindS λr j _ _=>W.bindS (Qp S (λhs=>W.nxt hs ?_) (W.ok0 _)) λb k _ _=>WS.map _ (Q7 S _ k);rw[arc];exact ZdR S _
theorem Z8Q (n i:Nat):W ts d fl i (Ze n i) (Ze n (i+d)):=by
 unfold Ze;exact W.ite (λ_=>Iff.rfl) (λ_=>W.bad (by decide)) λ_=>W.ok0 _
theorem Z5y (a:Ac) (i:Nat):WS ts d fl i (Z01 ts a i) (Z01 us a (i+d)):=by
 unfold Z01;exact (Z8Q S _ i).bindS λ_ i _ _=>(Q7 S _ i).w.bindS λ_ j _ _=>(Z2N S (by decide) j).w.bindS λn k _ _=>(Q7 S _ k).w.bindS λ_ m _ _=>(Z1G S m).bindS λv o _ _=>WS.map _ (Q7 S _ o)
theorem ZeL (a:Ac) (i:Nat):WS ts d fl i (Z2W ts a i) (Z2W us a (i+d)):=by
 unfold Z2W;refine (Z8Q S _ i).bindS λ_ i _ _=>(Q7 S _ i).w.bindS λ_ j _ _=>W.bindS (Qp S (λ_=>W.ok0 _) ?_) λb p _ _=>WS.map _ (Q7 S _ p);exact (Z2N S (by decide) j).w.bind λn k _ _=>(Q7 S _ k).w.bind λ_ m _ _=>(Z8I S m).w.bind λv o _ _=>W.ok0 _
theorem ZdM: ∀ (n:Nat) (rs:List Ru) (i:Nat),401<=n+rs.length->1<=n->W ts d fl i (Z00 ts n rs i) (Z00 us n rs (i+d))
 |0,_,_,_,h=>by omega
 |n+1,rs,i,c,_=>by
  unfold Z00 Ze;by_cases b:400<=rs.length
  ·rw[if_pos b,if_pos b];exact W.bad (by decide)
  ·rw[if_neg b,if_neg b];refine (ZdQ S i).bind λr j _ _=>(Z6F S j).bind λl k _ _=>Qp S (λhs=>W.nxt hs ?_) (W.ok0 _);rw[arc];exact ZdM n _ (k+1) (by simp;omega) (by omega)
theorem Z5x (a:Ac) (i:Nat):WS ts d fl i (QZ ts a i) (QZ us a (i+d)):=by
 unfold QZ;exact (Q7 S _ i).w.bindS λ_ j _ _=>(Q7 S _ j).w.bindS λ_ k _ _=>(ZdM S 401 a.r k (by omega) (by omega)).bindS λrs m _ _=>(Q7 S _ m).w.bindS λ_ o _ _=>WS.map _ (Q7 S _ o)
theorem Z2n (a:Ac) (i:Nat) (hi:i<ts.length\/fl=true):WS ts d fl i (ZK ts a i) (ZK us a (i+d)):=by
 unfold ZK;rw[S.tx i hi];split
 ·exact Z5y S a i
 split
 ·exact ZeL S a i
 split
 ·exact Z5x S a i
 exact (Z8Q S _ i).bindS λ_ i _ _=>WS.map _ (Z8H S i)
end
theorem Z5Q {α:Type} {ts:List Tk} {i j:Nat} {x:PR α} {a:α} (h:W ts 0 true i x x) (hx:x=.ok a j):i<=j/\(i<=ts.length->j<=ts.length):=by
 subst hx;exact⟨h.1,h.2.1⟩
end Go.Sx.Ps
/- What is parsed keeps the limits. -/
namespace Go.Sx.Ps
open Go.Sx
open Go.Sx.Lx (Tk)
def VP {α:Type} (P:α->Prop):PR α->Prop
 |.ok a _=>P a
 |.bad _ _=>True
section
variable {α β:Type}
theorem VP.bind {P:α->Prop} {Q:β->Prop} {x:PR α} {f:α->Nat->PR β} (h:VP P x) (k: ∀ a j,x=.ok a j->P a->VP Q (f a j)):VP Q (x.bind f):=by
 cases x with
 |ok a j=>exact k a j rfl h
 |bad a e=>trivial
theorem VP.any (x:PR α):VP (λ_=>True) x:=by cases x<;>trivial
theorem VP.ite {P:α->Prop} {c:Prop} [Decidable c] {x y:PR α} (h1:c->VP P x) (h2: ¬ c->VP P y):VP P (if c then x else y):=by
 split
 ·rename_i h;exact h1 h
 ·rename_i h;exact h2 h
theorem VP.mono {P Q:α->Prop} {x:PR α} (h:VP P x) (k: ∀ a,P a->Q a):VP Q x:=by
 cases x with
 |ok a j=>exact k a h
 |bad a e=>trivial
end
def Zdd (ts:List Tk):Prop:=∀ t∈ts,Lx.Val t
section
variable {ts:List Tk} (H:Zdd ts)
include H in
theorem Z4x {i:Nat} (c:(Zf ts i).1≠0):Lx.Val (Zf ts i):=by
 have b:=Z0u c;simp only[Zf,List.getD_eq_getElem?_getD,List.getElem?_eq_getElem b,Option.getD_some];exact H _ (List.getElem_mem b)
theorem ZeT {t:Tk} (h:Lx.Val t) (c:t.1=1):Lx.ZA t.2.1=true:=by
 obtain⟨h1,h2⟩:=h;cases hs:t.2.1 with
 |nil=>exact absurd hs h1
 |cons b r =>
  rw[hs,c] at h2;unfold Lx.tok at h2;simp only at h2;split at h2
  ·rename_i e;simp only[Prod.mk.injEq] at h2;rw[h2.2.1] at h2
   have:=h2.1;unfold Lx.Z03 at this;split at this
   ·cases this
   split at this
   ·assumption
   split at this<;>cases this
  split at h2
  ·cases h2
  split at h2<;>cases h2
theorem ZeS {t:Tk} (h:Lx.Val t) (c:t.1=2):Lx.ZF t.2.1=true:=by
 obtain⟨h1,h2⟩:=h;cases hs:t.2.1 with
 |nil=>exact absurd hs h1
 |cons b r =>
  rw[hs,c] at h2;unfold Lx.tok at h2;simp only at h2;split at h2
  ·rename_i e;simp only[Prod.mk.injEq] at h2;rw[h2.2.1] at h2
   have:=h2.1;unfold Lx.Z03 at this;split at this
   ·cases this
   split at this
   ·cases this
   split at this
   ·assumption
   ·cases this
  split at h2
  ·cases h2
  split at h2<;>cases h2
theorem Z8W {t:Tk} (h:Lx.Val t) (g:t.1=3): ∃ n:Nat,(n:Int)<=2147483647/\Lib.atoiAll t.2.1=.ok n/\Lib.itoa n=t.2.1:=by
 obtain⟨h1,h2⟩:=h;cases hs:t.2.1 with
 |nil=>exact absurd hs h1
 |cons b r =>
  rw[hs,g] at h2;unfold Lx.tok at h2;simp only at h2;split at h2
  ·rename_i k;simp only[Prod.mk.injEq] at h2
   have:=h2.1;unfold Lx.Z03 at this;split at this
   ·cases this
   split at this
   ·cases this
   split at this<;>cases this
  split at h2
  ·rename_i hd;simp only[Prod.mk.injEq] at h2;rw[h2.2.1] at h2;have c:=h2.2.2;unfold Lx.Z61 at c;split at c
   ·rename_i n j;split at c
    ·cases c
    rename_i i;split at c
    ·rename_i hi;have e:0<=n:=by
      apply Classical.byContradiction;intro f;have:(Lib.itoa n).head? = some 45:=by
       unfold Lib.itoa;rw[if_pos (by omega)];rfl
      rw[hi] at this;simp only[List.head?_cons,Option.some.injEq] at this;subst this;exact absurd hd (by decide)
     obtain⟨m,rfl⟩:=Int.eq_ofNat_of_zero_le e;exact⟨m,by omega,j,hi⟩
    ·cases c
   ·cases c
  split at h2<;>cases h2
def Sh (t:Tm):Prop:=t.all Tm.shape=true
def Vd (t:Tm):Prop:=t.valid=true
def TV (t:Tm):Prop:=t=z0\/Vd t
theorem Zj5 {l:List Tm}:Tm.allL Tm.shape l=true ↔ ∀ x∈l,Sh x:=by
 induction l with
 |nil=>simp[Tm.allL]
 |cons a r b=>simp[Tm.allL,b,Sh]
theorem Z4l {k:Nat} {n:Int} {s:List UInt8} {l:List Tm}:Sh (.mk k n s l) ↔ Qd k n s l.length=true/\ ∀ x∈l,Sh x:=by
 unfold Sh;rw[Tm.all,Bool.and_eq_true,Zj5];rfl
theorem ZdW {α:Type} {P:α->Prop} {c:Nat} {e:List UInt8} {b:Nat->PR α} (f: ∀ k,VP P (b k)): ∀ (n:Nat) (out:List α) (i:Nat),(∀ x∈out,P x)->VP (λl=>(∀ x∈l,P x)/\l.length<=c/\l≠[]) (Z0s ts c e b n out i)
 |0,_,_,_=>trivial
 |n+1,out,i,g=>by
  unfold Z0s;refine VP.ite (λ_=>trivial) λhm=>(f i).bind λa j _ ha=>?_;have h2: ∀ x∈out++[a],P x:=λx hx=>by
   rcases List.mem_append.1 hx with h|h
   ·exact g x h
   ·rw[List.mem_singleton.1 h];exact ha
  refine VP.ite (λ_=>ZdW f n _ _ h2) λ_=>⟨h2,by simp;omega,by simp⟩
theorem Z5B {α:Type} {P:α->Prop} {c:Nat} {e:List UInt8} {b:Nat->PR α} (f: ∀ k,VP P (b k)) (i:Nat):VP (λl=>(∀ x∈l,P x)/\l.length<=c/\l≠[]) (Qk ts c e b i):=ZdW f _ [] i (by simp)
theorem Zc0 {i:Nat} {l:List (List UInt8)} (h:Z1 ts i l=true):(Zf ts i).2.1∈l:=by
 simp only[Z1,Bool.and_eq_true,List.contains_iff_mem] at h;exact h.2
theorem Zmk {s:List UInt8} {t u:Tm} (hs:s=[43]\/s=[45]\/s=[42]\/s=[47]\/s=[92]) (b:Sh t) (c:Sh u):Sh (.mk 5 0 s [t,u]):=by
 refine Z4l.2 ⟨?_,by simp[b,c]⟩;rcases hs with rfl|rfl|rfl|rfl|rfl<;>rfl
theorem Z91 {b:Nat->PR Tm} {ops:List (List UInt8)} (c: ∀ k,VP Sh (b k)) (e: ∀ s∈ops,s=[43]\/s=[45]\/s=[42]\/s=[47]\/s=[92]): ∀ (n:Nat) (t:Tm) (i:Nat),Sh t->VP Sh (QG ts b ops n t i)
 |0,_,_,_=>trivial
 |n+1,t,i,f=>by
  unfold QG;refine VP.ite (λhs=>(c _).bind λu j _ g=>Z91 c e n _ j (Zmk (e _ (Zc0 hs)) f g)) λ_=>f
theorem Z6T {b:Nat->PR Tm} {ops:List (List UInt8)} (c: ∀ k,VP Sh (b k)) (e: ∀ s∈ops,s=[43]\/s=[45]\/s=[42]\/s=[47]\/s=[92]) (i:Nat):VP Sh (Z02 ts b ops i) :=
 (c i).bind λt j _ f=>Z91 c e _ _ _ f
theorem ZiT {f:Nat->PR Tm} (b: ∀ k,VP Sh (f k)) (i:Nat):VP Sh (Z3M ts f i) :=
 Z6T (λk=>Z6T b (by decide) k) (by decide) i
theorem Z6R {f:Nat->PR Tm} (b: ∀ k,VP Sh (f k)) (i:Nat):VP Sh (ZN ts f i) :=
 (ZiT b i).bind λt j _ c=>VP.ite (λ_=>(ZiT b _).bind λu k _ e=>Z4l.2 ⟨rfl,by simp[c,e]⟩) λ_=>c
def Nd (t:Tm):Prop:=Sh t/\(kT t=2\/kT t=4)
theorem Z62 {k:Int} {i j:Nat} {s:List UInt8} (h:Zu ts k i=.ok s j):(Zf ts i).1=k/\s=(Zf ts i).2.1:=by
 unfold Zu at h;split at h
 ·cases h;exact⟨by assumption,rfl⟩
 ·cases h
include H
theorem Z8Y {f:Nat->PR Tm} (c: ∀ k,VP Sh (f k)) (i:Nat):VP Nd (ZZ ts f i):=by
 unfold ZZ;refine (VP.any _).bind λs j hx _=>?_;obtain⟨b,rfl⟩:=Z62 hx;have hs:=ZeT (Z4x H (by rw[b];decide)) b;refine VP.ite (λ_=>(Z5B c _).bind λl k _ hl=>(VP.any _).bind λ_ m _ _=>⟨Z4l.2 ⟨?_,hl.1⟩,.inr rfl⟩) λ_=>⟨Z4l.2 ⟨?_,by simp⟩,.inl rfl⟩
 ·have h1:1<=l.length:=by have:=List.length_pos_iff.2 hl.2.2;omega
  simp[Qd,hs,hl.2.1,h1]
 ·simp[Qd,hs]
theorem Z5Z {i:Nat} {v:Int} {j:Nat} (h:Z1z ts i=.ok v j):0<=v/\v<=2147483647:=by
 unfold Z1z at h;cases hx:Zu ts 3 i with
 |bad a e=>rw[hx] at h;cases h
 |ok s k =>
  rw[hx] at h;cases h;obtain⟨b,rfl⟩:=Z62 hx;obtain⟨n,h1,h2,_⟩:=Z8W (Z4x H (by rw[b];decide)) b;unfold ZjX;rw[h2];exact⟨by simp,h1⟩
omit H in
theorem Ze6 {v:Int} (h1: -2147483647<=v) (h2:v<=2147483647):Sh (.mk 1 v [] []):=Z4l.2 ⟨by simp[Qd,h1,h2],by simp⟩
theorem Z1H: ∀ (n i:Nat),VP Sh (Zd ts n i)
 |0,_=>trivial
 |n+1,i=>by
  unfold Zd;refine VP.ite (λ_=>(VP.any _).bind λv j hx _=>?_) λ_=>VP.ite (λ_=>(VP.any _).bind λs j hx _=>?_) λ_=>VP.ite (λ_=>(Z6R (Z1H n) _).bind λt j _ b=>(VP.any _).bind λ_ k _ _=>b) λ_=>VP.ite (λ_=>VP.ite (λ_=>(VP.any _).bind λv j hx _=>?_) λ_=>(Z1H n _).bind λt j _ b=>Z4l.2 ⟨rfl,by simp[b]⟩) λ_=>(Z8Y H (Z6R (Z1H n)) i).mono λt b=>b.1
  ·have:=Z5Z H hx;exact Ze6 (by omega) this.2
  ·obtain⟨c,rfl⟩:=Z62 hx;exact Z4l.2 ⟨by simp[Qd,ZeS (Z4x H (by rw[c];decide)) c],by simp⟩
  ·have:=Z5Z H hx;exact Ze6 (by omega) (by omega)
theorem Z5A (i:Nat):VP Sh (Zr ts (fu ts) i):=Z6R (Z1H H _) i
theorem Z6S (i:Nat):VP Nd (Qe ts (fu ts) i):=Z8Y H (Z6R (Z1H H _)) i
omit H in
theorem Z90 {t:Tm} (c:Sh t) (b at' j:Nat):VP (λu=>u=t/\t.depth<=b) (ZI t b at' j):=by
 unfold ZI;exact VP.ite (λ_=>trivial) λh=>⟨rfl,by omega⟩
omit H in
theorem ZeP {t:Tm} (h:Sh t) (hd:t.depth<=12):Vd t:=by
 unfold Vd Tm.valid;simp[hd];exact h
theorem ZdV (i:Nat):VP Vd (Z8 ts i):=(Z5A H i).bind λt j _ b=>(Z90 b 12 i j).mono λu c=>by obtain⟨rfl,h⟩:=c;exact ZeP b h
def AmV (a:Am):Prop:=Lx.ZA a.1=true/\a.2.length<=8/\ ∀ x∈a.2,Vd x
omit H in
theorem Z0C {l:List Tm} {x:Tm} (h:x∈l):x.depth<=Tm.depthL l:=by
 induction l with
 |nil=>cases h
 |cons a r b =>
  rw[Tm.depthL];rcases List.mem_cons.1 h with rfl|h
  ·exact Nat.le_max_left _ _
  ·exact Nat.le_trans (b h) (Nat.le_max_right _ _)
omit H in
theorem Z6U {t:Tm} (c:Nd t) (at' j:Nat):VP AmV (ZE t at' j):=by
 unfold ZE;refine (Z90 c.1 13 at' j).bind λu k _ e=>?_;obtain⟨rfl,hd⟩:=e;obtain⟨hs,b⟩:=c;cases u with
 |mk k n s l =>
  obtain⟨h1,h2⟩:=Z4l.1 hs;rw[Tm.depth] at hd;have hv: ∀ x∈l,Vd x:=λx hx=>ZeP (h2 x hx) (by have:=Z0C hx;omega);rcases b with b|b<;>(change k=_ at b;subst b)<;>simp[Qd] at h1
  ·exact⟨h1.1.2,by show l.length<=8;simp[h1.2],hv⟩
  ·exact⟨h1.1.1.2,by show l.length<=8;omega,hv⟩
theorem ZiV (i:Nat):VP AmV (QQ ts i):=(Z6S H i).bind λt j _ b=>Z6U b i j
theorem ZbQ (ends:List (List UInt8)) (i:Nat):VP (λx=>(x.2.2=true->AmV x.1)/\(x.2.2≠true->Vd x.2.1)) (Z9 ts ends i):=by
 unfold Z9;refine (Z5A H i).bind λt j _ b=>VP.ite (λ_=>(Z90 b 12 i j).bind λu k _ e=>?_) λ_=>VP.ite (λ_=>(VP.any _).bind λ_ _ _ _=>trivial) λc=>?_
 ·obtain⟨rfl,hd⟩:=e;exact⟨nofun,λ_=>ZeP b hd⟩
 ·exact (Z6U ⟨b,by have:=not_or.1 c;have:=this.2;omega⟩ i j).bind λa k _ ha=>⟨λ_=>ha,λh=>absurd rfl h⟩
def LtF (l:Lt):Prop:=l.k=1/\Lx.ZA l.p=true/\l.a.length<=8\/l.k=2/\l.no=false/\1<=l.op/\l.op<=6
def LtT (l:Lt):Prop:=TV l.l/\TV l.r/\(∀ x∈l.a,TV x)/\l.a.length<=8
def LtV (l:Lt):Prop:=LtF l/\LtT l
omit H in
theorem ZbR:TV z0:=.inl rfl
omit H in
theorem ZiU (i:Nat):VP (λop=>1<=op/\op<=6/\(op=2->(Zf ts i).2.1=[33,61]/\(Zf ts i).1=6)) (Zb ts i):=by
 unfold Zb;refine VP.ite (λ_=>trivial) λh=>?_;have h2:=not_or.1 h;generalize (Zf ts i).2.1=s at *
 simp only[cmpL,idxS] at *
 have b:(Zf ts i).1=6:=by have:=h2.2;omega
 show _/\_/\_;have h1:=h2.1;revert h1;repeat' split
 all_goals first|(intro _;simp_all;done)|(intro h;exfalso;revert h;decide)|(intro _;subst_vars;refine⟨by decide,by decide,?_⟩;intro hh;first|exact⟨rfl,b⟩|(exfalso;revert hh;decide))
theorem Z8Z (no:Bool) (i:Nat):VP LtV (Zn ts no i):=by
 unfold Zn;refine VP.ite (λ_=>(ZiV H i).bind λa j _ ha=>⟨.inl ⟨rfl,ha.1,ha.2.1⟩,ZbR,ZbR,λx hx=>.inr (ha.2.2 x hx),ha.2.1⟩) λ_=>(ZbQ H cmpL i).bind λx j _ hx=>VP.ite (λh=>?_) λh=>?_
 ·have ha:=hx.1 h;exact⟨.inl ⟨rfl,ha.1,ha.2.1⟩,ZbR,ZbR,λx hx=>.inr (ha.2.2 x hx),ha.2.1⟩
 ·have c:=hx.2 h;exact (ZiU j).bind λop k _ b=>(ZdV H k).bind λr m _ hr=>⟨.inr ⟨rfl,rfl,b.1,b.2.1⟩,.inr c,.inr hr,nofun,Nat.zero_le _⟩
theorem Zmg (i:Nat):VP LtV (Z1Z ts i):=Z8Z H _ _
def CdV (l:List Lt):Prop:=(∀ x∈l,LtV x)/\l.length<=64
omit H in
theorem ZhF:CdV []:=⟨nofun,by decide⟩
theorem ZdU (i:Nat):VP CdV (Qi ts i):=by
 unfold Qi;exact VP.ite (λ_=>(Z5B (Zmg H) _).mono λl hl=>⟨hl.1,hl.2.1⟩) λ_=>ZhF
def TuV (l:List Tm):Prop:=(∀ x∈l,Vd x)/\l.length<=64
theorem ZeU (i:Nat):VP (λl=>TuV l/\l≠[]) (ZY ts i):=(Z5B (ZdV H) i).mono λl hl=>⟨⟨hl.1,hl.2.1⟩,hl.2.2⟩
def ElV (e:El):Prop:=TuV e.t/\e.t≠[]/\CdV e.c
def BoV (b:Bo):Prop:=TV b.b/\LtT b.l/\CdV b.c/\((∀ e∈b.e,ElV e)/\b.e.length<=64) ∧
 (b.k=3/\1<=b.f/\b.f<=2/\1<=b.op/\b.op<=6/\b.op≠2/\b.e≠[]/\b.e.length<=64/\kT b.b≠0 ∨
  LtF b.l/\b.no=false/\(b.k=1/\b.c=[]\/b.k=2/\b.c≠[]))
def BdV (l:List Bo):Prop:=(∀ x∈l,BoV x)/\l.length<=64
def HeV (h:He):Prop:=Lx.ZA h.p=true/\h.a.length<=8/\(∀ x∈h.a,TV x)/\CdV h.c
structure RuV (r:Ru):Prop where
 k:1<=r.k/\r.k<=3
 lo:TV r.lo
 up:TV r.up
 w:TV r.w
 lv:TV r.lv
 t:TuV r.t
 h: ∀ x∈r.h,HeV x
 hl:r.h.length<=64
 b:BdV r.b
 k3:r.k=3->r.h=[]/\kT r.w≠0/\kT r.lv≠0
 k2:r.k=2->r.h≠[]
 k1:r.k=1-> ∀ x∈r.h,x.c=[]
structure AcV (a:Ac):Prop where
 r: ∀ x∈a.r,RuV x
 rl:a.r.length<=400
 c: ∀ x∈a.c,Lx.ZA x.n=true/\Vd x.v
 cl:a.c.length<=400
 sl:a.s.length<=400
 so:a.s≠[]->a.so=true
omit H in
theorem Z3c {n i j:Nat} {u:Unit} (h:Ze n i=.ok u j):n<400:=by
 unfold Ze at h;split at h
 ·cases h
 ·omega
end
theorem Z4L {f:UInt8->Bool} {s:List UInt8} (h:Lx.Z0E f s=true):s.length<=32:=by
 unfold Lx.Z0E at h;split at h
 ·cases h
 ·simp only[Bool.and_eq_true,decide_eq_true_eq] at h;exact h.2
theorem Z2T {s:List UInt8} (h:Lx.ZA s=true):s.length<=32:=by
 simp only[Lx.ZA,Bool.and_eq_true] at h;exact Z4L h.1
theorem Z4g {s:List UInt8} (h:Lx.ZF s=true):s.length<=32:=by
 simp only[Lx.ZF,Bool.or_eq_true] at h;rcases h with h|h
 ·exact Z4L h
 ·split at h
  ·simp only[Bool.and_eq_true,decide_eq_true_eq] at h;exact h.2
  ·cases h
theorem Z9l {k:Nat} {n:Int} {s:List UInt8} {m:Nat} (h:Qd k n s m=true):k<=255/\ -9223372036854775808<=n/\n<=9223372036854775807/\s.length<=32/\m<=8:=by
 unfold Qd at h;split at h
 ·rename_i b;simp only[Bool.and_eq_true,decide_eq_true_eq] at h;obtain⟨⟨⟨h1,h2⟩,rfl⟩,rfl⟩:=h;refine⟨by omega,by omega,by omega,by simp,by omega⟩
 split at h
 ·rename_i b;simp only[Bool.and_eq_true,decide_eq_true_eq] at h;obtain⟨⟨rfl,h1⟩,rfl⟩:=h;exact⟨by omega,by omega,by omega,Z2T h1,by omega⟩
 split at h
 ·rename_i b;simp only[Bool.and_eq_true,decide_eq_true_eq] at h;obtain⟨⟨rfl,h1⟩,rfl⟩:=h;exact⟨by omega,by omega,by omega,Z4g h1,by omega⟩
 split at h
 ·rename_i b;simp only[Bool.and_eq_true,decide_eq_true_eq] at h;obtain⟨⟨⟨rfl,h1⟩,_⟩,h2⟩:=h;exact⟨by omega,by omega,by omega,Z2T h1,h2⟩
 split at h
 ·rename_i b;simp only[Bool.and_eq_true,Bool.or_eq_true,decide_eq_true_eq] at h;obtain⟨⟨rfl,h1⟩,h2⟩:=h;refine⟨by omega,by omega,by omega,?_,by omega⟩;rcases h1 with (((rfl|rfl)|rfl)|rfl)|rfl<;>decide
 split at h
 ·rename_i b;simp only[Bool.and_eq_true,decide_eq_true_eq] at h;obtain⟨⟨rfl,rfl⟩,rfl⟩:=h;exact⟨by omega,by omega,by omega,by simp,by omega⟩
 ·cases h
mutual
theorem Zj4: ∀ t:Tm,Sh t->t.wf 281474976710656
 |.mk k n s l,h=>by
  obtain⟨h1,h2⟩:=Z4l.1 h;obtain⟨b,c,e,f,g⟩:=Z9l h1;exact⟨b,c,e,by omega,by omega,Ze7 l h2⟩
theorem Ze7: ∀ l:List Tm,(∀ x∈l,Sh x)->Tm.wfL 281474976710656 l
 |[],_=>trivial
 |a::r,h=>⟨Zj4 a (h a (by simp)),Ze7 r λx hx=>h x (by simp[hx])⟩
end
def DP (i:Nat):PR Tm->Prop
 |.ok t j=>t.depth+i<=j
 |.bad _ _=>True
theorem DP.bind {α:Type} {i:Nat} {x:PR α} {f:α->Nat->PR Tm} (k: ∀ a j,x=.ok a j->DP i (f a j)):DP i (x.bind f):=by
 cases x with
 |ok a j=>exact k a j rfl
 |bad a e=>trivial
theorem DP.of {i:Nat} {x:PR Tm} (h:DP i x) {t:Tm} {j:Nat} (hx:x=.ok t j):t.depth+i<=j:=by subst hx;exact h
theorem DP.ite {i:Nat} {c:Prop} [Decidable c] {x y:PR Tm} (h1:c->DP i x) (h2: ¬ c->DP i y):DP i (if c then x else y):=by
 split
 ·rename_i h;exact h1 h
 ·rename_i h;exact h2 h
theorem Zep (k:Nat) (n:Int) (s:List UInt8) (t u:Tm):(Tm.mk k n s [t,u]).depth=max t.depth u.depth+1:=by
 simp only[Tm.depth,Tm.depthL];have:Nat.max t.depth (Nat.max u.depth 0)=max t.depth u.depth:=by
  show max t.depth (max u.depth 0)=_;omega
 rw[this]
theorem Zl1 (k:Nat) (n:Int) (s:List UInt8) (t:Tm):(Tm.mk k n s [t]).depth=t.depth+1:=by
 simp only[Tm.depth,Tm.depthL];have:Nat.max t.depth 0=t.depth:=by show max t.depth 0=_;omega
 rw[this]
section
variable {ts:List Tk}
theorem Z2I {k:Int} {i j:Nat} {s:List UInt8} (h:Zu ts k i=.ok s j):j=i+1:=by
 unfold Zu at h;split at h<;>cases h;rfl
theorem Z7h {t:List UInt8} {i j:Nat} {u:Unit} (h:Z0 ts t i=.ok u j):j=i+1:=by
 unfold Z0 at h;split at h<;>cases h;rfl
theorem Za0 {i j:Nat} {v:Int} (h:Z1z ts i=.ok v j):j=i+1:=by
 unfold Z1z at h;cases hx:Zu ts 3 i with
 |bad a e=>rw[hx] at h;cases h
 |ok s k=>rw[hx] at h;cases h;exact Z2I hx
theorem ZaR {b:Nat->PR Tm} {ops:List (List UInt8)} {i0:Nat} (c: ∀ k,i0<=k->DP k (b k)): ∀ (n:Nat) (t:Tm) (i:Nat),i0+t.depth<=i->DP i0 (QG ts b ops n t i)
 |0,_,_,_=>trivial
 |n+1,t,i,h=>by
  unfold QG;refine DP.ite (λ_=>DP.bind λu j e=>?_) λ_=>by show _<=_;omega
  have:=(c (i+1) (by omega)).of e;exact ZaR c n _ j (by rw[Zep];omega)
theorem Z7C {b:Nat->PR Tm} {ops:List (List UInt8)} {i0:Nat} (c: ∀ k,i0<=k->DP k (b k)) {i:Nat} (h:i0<=i):DP i (Z02 ts b ops i):=by
 unfold Z02;refine DP.bind λt j e=>?_
 have:=(c i h).of e;exact ZaR (i0:=i) (λk f=>c k (by omega)) _ _ _ (by omega)
theorem Zl3 {f:Nat->PR Tm} {i0:Nat} (b: ∀ k,i0<=k->DP k (f k)) {i:Nat} (h:i0<=i):DP i (Z3M ts f i):=Z7C (λk c=>Z7C b c) h
theorem ZaP {f:Nat->PR Tm} {i0:Nat} (b: ∀ k,i0<=k->DP k (f k)) {i:Nat} (h:i0<=i):DP i (ZN ts f i):=by
 unfold ZN;refine DP.bind λt j c=>?_;have h1:=(Zl3 b h).of c;refine DP.ite (λ_=>DP.bind λu k e=>?_) λ_=>h1;have h2:=(Zl3 (ts:=ts) b (i:=j+1) (by omega)).of e;show _<=_;rw[Zep];omega
theorem Zeq {c:Nat} {f:List UInt8} {b:Nat->PR Tm} {i0:Nat} (g: ∀ k,i0<=k->DP k (b k)): ∀ (n:Nat) (out:List Tm) (i:Nat),i0<=i->(∀ x∈out,x.depth+i0<=i)-> ∀ l j,Z0s ts c f b n out i=.ok l j->i<=j/\ ∀ x∈l,x.depth+i0<=j
 |0,_,_,_,_,_,_,h=>by cases h
 |n+1,out,i,hi,m,l,j,h=>by
  unfold Z0s at h;split at h
  ·cases h
  cases hx:b i with
  |bad a e=>rw[hx] at h;cases h
  |ok t k =>
   rw[hx] at h;simp only[PR.bind] at h;have h1:=(g i hi).of hx;have h2: ∀ x∈out++[t],x.depth+i0<=k:=λx hx=>by
    rcases List.mem_append.1 hx with h|h
    ·have:=m x h;omega
    ·rw[List.mem_singleton.1 h];omega
   split at h
   ·have:=Zeq g n _ (k+1) (by omega) (λx hx=>by have:=h2 x hx;omega) l j h;exact⟨by omega,this.2⟩
   ·cases h;exact⟨by omega,h2⟩
theorem ZaL {l:List Tm} {n:Nat} (h: ∀ x∈l,x.depth<=n):Tm.depthL l<=n:=by
 induction l with
 |nil=>exact Nat.zero_le _
 |cons a r b=>rw[Tm.depthL];exact Nat.max_le.2 ⟨h a (by simp),b λx hx=>h x (by simp[hx])⟩
theorem ZaQ {f:Nat->PR Tm} {i:Nat} (b: ∀ k,i+1<=k->DP k (f k)):DP i (ZZ ts f i):=by
 unfold ZZ;refine DP.bind λs j hs=>?_
 have:=Z2I hs;subst this;refine DP.ite (λ_=>DP.bind λl k hl=>DP.bind λ_ m hm=>?_) λ_=>by show _<=_;simp[Tm.depth,Tm.depthL];omega
 have h1:=Zeq (i0:=i+1) b _ _ _ (by omega) (λx hx=>by cases hx) l k hl
 have:=Z7h hm;subst this;show _<=_;rw[Tm.depth];have c:=ZaL (n:=k-(i+1)) λx hx=>by have:=h1.2 x hx;omega
 omega
theorem Z2K: ∀ (n i:Nat),DP i (Zd ts n i)
 |0,_=>trivial
 |n+1,i=>by
  unfold Zd;refine DP.ite (λ_=>DP.bind λv j hv=>?_) λ_=>DP.ite (λ_=>DP.bind λs j hs=>?_) λ_=>DP.ite (λ_=>DP.bind λt j b=>DP.bind λ_ k c=>?_) λ_=>DP.ite (λ_=>DP.ite (λ_=>DP.bind λv j hv=>?_) λ_=>DP.bind λt j b=>?_) λ_=>ZaQ λk c=>ZaP (i0:=k) (λm _=>Z2K n m) (Nat.le_refl k)
  ·have:=Za0 hv;subst this;show _<=_;simp[Tm.depth,Tm.depthL];omega
  ·have:=Z2I hs;subst this;show _<=_;simp[Tm.depth,Tm.depthL];omega
  ·have h1:=(ZaP (ts:=ts) (i0:=0) (λm _=>Z2K n m) (Nat.zero_le (i+1))).of b
   have:=Z7h c;subst this;show _<=_;omega
  ·have:=Za0 hv;subst this;show _<=_;simp[Tm.depth,Tm.depthL];omega
  ·have h1:=(Z2K n (i+1)).of b;show _<=_;rw[Zl1];omega
theorem ZaO (n i:Nat):DP i (Zr ts n i):=ZaP (i0:=0) (λm _=>Z2K n m) (Nat.zero_le i)
theorem ZcR (n i:Nat):DP i (Qe ts n i):=ZaQ λk _=>ZaO n k
end
theorem Z7J (ts:List Tk) (lo:Tm) (i:Nat):VP (λr=>r.b=[]) (Zg ts lo i):=by
 unfold Zg;exact (VP.any _).bind λhs j _ _=>VP.ite (λ_=>rfl) λ_=>(VP.any _).bind λu k _ _=>rfl
theorem Zle (ts:List Tk) (i:Nat):VP (λr=>r.b=[]) (ZT ts i):=by
 unfold ZT;exact VP.ite (λ_=>Z7J ts _ i) λ_=>VP.ite (λ_=>rfl) λ_=>(VP.any _).bind λx j _ _=>VP.ite (λ_=>(VP.any _).bind λhs k _ _=>rfl) λ_=>Z7J ts _ j
theorem Z7u {ts:List Tk} {i:Nat} (h:ts.length<=i):Zf ts i=(0,[],0):=by
 simp only[Zf,List.getD_eq_getElem?_getD,List.getElem?_eq_none h,Option.getD_none]
theorem Z75 {ts:List Tk} {i:Nat} (h:ts.length<=i) (l:List (List UInt8)):Z1 ts i l=false:=by
 cases hs:Z1 ts i l with
 |false=>rfl
 |true=>have:=Qq hs;omega
theorem Z5a {ts:List Tk} {i:Nat} (h:ts.length<=i) (f:Nat->PR Tm):ZZ ts f i=.bad i 40:=by
 unfold ZZ Zu;rw[Z7u h];rfl
theorem Z8w {ts:List Tk} {i:Nat} (h:ts.length<=i) (n:Nat): ∃ e,Zd ts n i=.bad i e:=by
 cases n with
 |zero=>exact⟨_,rfl⟩
 |succ n =>
  unfold Zd;rw[Z7u h,Z75 h,Z75 h,Z5a h];exact⟨40,rfl⟩
theorem Zck {ts:List Tk} {i:Nat} (h:ts.length<=i) (n:Nat): ∃ e,Zr ts n i=.bad i e:=by
 obtain⟨e,b⟩:=Z8w h n;exact⟨e,by simp only[Zr,ZN,Z3M,Z02,QU,b,PR.bind]⟩
theorem ZgI {ts:List Tk} {n i j:Nat} {t:Tm} (h:Zr ts n i=.ok t j):i<ts.length:=by
 apply Classical.byContradiction;intro c;obtain⟨e,b⟩:=Zck (ts:=ts) (i:=i) (by omega) n;rw[b] at h;cases h
theorem Zcv {ts:List Tk} {n i j:Nat} {t:Tm} (h:Qe ts n i=.ok t j):i<ts.length:=by
 apply Classical.byContradiction;intro b;rw[Qe,Z5a (by omega)] at h;cases h
def PR.isOk {α:Type}:PR α->Bool
 |.ok _ _=>true
 |.bad _ _=>false
def PR.pos {α:Type}:PR α->Nat
 |.ok _ j=>j
 |.bad _ _=>0
def PR.val {α:Type} (z:α):PR α->α
 |.ok a _=>a
 |.bad _ _=>z
end Go.Sx.Ps
/- One rule;programs behind each other. -/
namespace Go.Sx.Ps
open Go.Sx
open Go.Sx.Lx (Tk)
structure Gr (a b:Ac):Prop where
 r:a.r.length<=b.r.length
 c:a.c.length<=b.c.length
 s:a.s.length<=b.s.length
 so:a.so=true->b.so=true
section
variable {ts:List Tk}
end
section
variable {ts:List Tk} (H:Zdd ts)
include H
end
def Ac.app (p a:Ac):Ac:=⟨p.r++a.r,p.c++a.c,p.s++a.s,p.so ||a.so⟩
end Go.Sx.Ps
/- A PANIC IN A ROUND OF A RANGE OVER A FUNCTION. Where the body panics,no waiting call lies on the round's frame: so it catches nothing. -/
namespace Go.Sx
open Go.RowKit
variable [Globs] [Codes]
section
variable {P:Program} {F:Fence} {n:Nat} {Q:Exit->Act->World->Prop} {a:Act} {w:World}
end
section
variable {P:Program} {F:Fence} {n:Nat}
end
section
variable {P:Program} {F:Fence} {n:Nat}
end
section
variable {P:Program}
end
end Go.Sx
/- AN OWN ROW THAT A CALL HANDS BACK IS NO MORE WRITTEN TO. -/
namespace Go.Sx
open Go.RowKit
variable [Globs] [Codes]
variable {P:Program}
end Go.Sx
/- A ROW THAT IS HANDED BACK,AS PLAIN DATA. -/
namespace Go.Sx
open Go.RowKit
variable [Globs] [Codes]
variable {P:Program}
theorem CallL.vecR {d:D} {args:List D} {ob ob0:Obs} {sz k:Nat} {e:TypeId} {es:List (List D)} (y:lk ob0 k=none) (hc:CallL P d args ob λr o=>r=.vec k/\o=ob0++[(k,.arr true sz e es)]):CallL P d args ob λr o=>r=.slice es []/\o=ob0:=by
 intro F s n φ h w v vs hp hv p;refine (hc F s n φ h w v vs hp hv p).mono ?_;intro A w' f;obtain⟨u,r0,ob1,φ',h',rfl,⟨rfl,rfl⟩,m,ha⟩:=f.dest λr o hr=>by rw[hr.1];rfl
 have g: ∀ i o,lk ob0 i=some o->lk (ob0++[(k,Ob.arr true sz e es)]) i=some o:=λi o l=>by rw[Z0j,l];rfl
 have c: ∀ i,(lk ob0 i).isSome->(lk (ob0++[(k,Ob.arr true sz e es)]) i).isSome:=λi hi=>by
  obtain⟨o,l⟩:=Option.isSome_iff_exists.1 hi;rw[g i o l];rfl
 have z: ∀ b,ZOf ob0 h' b->ZOf (ob0++[(k,Ob.arr true sz e es)]) h' b:=λb ⟨i,hi,t⟩=>⟨i,c i hi,t⟩;have h2:=Z5k (obs:=lk (ob0++[(k,Ob.arr true sz e es)])) (λi o hi _=>ha.loc.obj i o hi) m;have q:dvt (lk (ob0++[(k,Ob.arr true sz e es)])) (.vec k)=.slice es []:=by
  have hl:lk (ob0++[(k,Ob.arr true sz e es)]) k=some (.arr true sz e es):=by rw[Z0j,y];simp[lk]
  simp only[dvt,dv,hl]
 rw[q] at h2;exact .ret ⟨rfl,rfl⟩ h2 ⟨⟨ha.loc.one,ha.loc.glob.sub z,ha.loc.mem,λi o l=>ha.loc.obj i o (g i o l),λi j b hi x=>ha.loc.sep i j b (c i hi) (c j x)⟩,ha.ext,ha.new,ha.frame,ha.hfix,ha.os,ha.tape,ha.output,ha.grow⟩
end Go.Sx
