/- Own work: a layer over the kit: plain data,a walk over it,its soundness. -/
import Derived.Sort.OwnSorted
import Derived.Test.YtecgehidegnmnaaGreatDoorSx9
import Derived.Test.YtecgehidegnmnaaGreatDoorSx8
import Derived.Test.YtecgehidegnmnaaGreatDoorSx6
set_option linter.all false
/- PROGRAMS ARE READ;their sizes;how many names the reference model gathers. -/
namespace Go.Sx
open Go.RowKit Go.Deep Go.ChangeShapes Go.WideShapes
structure Co where
 n:Nm
 v:Tm
def Co.cs (x:Co):List D:=.str x.n::x.v.cells
def coL (l:List Co):List (List D):=l.map Co.cs
theorem Z4q (l:List Co):(coL l).length=l.length:=by simp[coL]
theorem Zgb {l:List Co} {i:Nat} (h:i<l.length):(coL l)[i]? = some l[i].cs:=by simp[coL,h]
structure Pg where
 r:List Ru
 c:List Co
 s:List (List D)
 so:Bool
def Pg.cs (x:Pg):List D:=[.slice (x.r.map Ru.cs) [],.slice (coL x.c) [],.slice x.s [],.bool x.so]
structure Pg.wf (B:Nat) (x:Pg):Prop where
 rl:x.r.length<=B
 r: ∀ y∈x.r,y.wf B
 cl:x.c.length<=B
 c: ∀ y∈x.c,y.v.wf B
 sl:x.s.length<=B
variable {P:Program}
section
variable [Globs] [Codes]
end
/- Sizes. -/
/- How many names. -/
end Go.Sx
/- THE PARSER,PLAINLY. -/
namespace Go.Sx.Ps
open Go.Sx
open Go.Sx.Lx (Tk)
inductive PR (α:Type) where
 |ok (a:α) (i:Nat)
 |bad (at':Nat) (e:Int)
def PR.bind {α β:Type}:PR α->(α->Nat->PR β)->PR β
 |.ok a i,f=>f a i
 |.bad a e,_=>.bad a e
section
variable (ts:List Tk)
def Zg (i:Nat):Tk:=ts.getD i (0,[],0)
def Z1 (i:Nat) (l:List (List UInt8)):Bool:=decide (4<=(Zg ts i).1) && l.contains (Zg ts i).2.1
def Z0 (t:List UInt8) (i:Nat):PR Unit:=if Z1 ts i [t]=true then .ok () (i+1) else .bad i 40
def Zv (k:Int) (i:Nat):PR (List UInt8):=if (Zg ts i).1=k then .ok (Zg ts i).2.1 (i+1) else .bad i 40
def Zl4 (s:List UInt8):Int:=match Lib.atoiAll s with
 |.ok n=>n
 |.range=>Lib.atoiSat s
 |_=>0
def Z1J (i:Nat):PR Int:=(Zv ts 3 i).bind λs j=>.ok (Zl4 s) j
def Z13 {α:Type} (c:Nat) (e:List UInt8) (b:Nat->PR α):Nat->List α->Nat->PR (List α)
 |0,_,i=>.bad i 0
 |n+1,out,i=>if c<=out.length then .bad i 5 else (b i).bind λa j=>if Z1 ts j [e]=true then Z13 c e b n (out++[a]) (j+1) else .ok (out++[a]) j
def Q9 {α:Type} (b:Nat) (e:List UInt8) (c:Nat->PR α) (i:Nat):PR (List α):=Z13 ts b e c (b+1) [] i
def Z0v (b:Nat->PR Tm) (ops:List (List UInt8)):Nat->Tm->Nat->PR Tm
 |0,_,i=>.bad i 0
 |n+1,t,i=>if Z1 ts i ops=true then (b (i+1)).bind λu j=>Z0v b ops n (.mk 5 0 (Zg ts i).2.1 [t,u]) j else .ok t i
def Z0b (b:Nat->PR Tm) (ops:List (List UInt8)) (i:Nat):PR Tm:=(b i).bind λt j=>Z0v ts b ops (ts.length+1) t j
def Z1f (f:Nat->PR Tm) (i:Nat):PR Tm:=Z0b ts f [[42],[47],[92]] i
def Z4B (f:Nat->PR Tm) (i:Nat):PR Tm:=Z0b ts (Z1f ts f) [[43],[45]] i
def ZP (f:Nat->PR Tm) (i:Nat):PR Tm:=(Z4B ts f i).bind λt j=>if Z1 ts j [[46,46]]=true then (Z4B ts f (j+1)).bind λu k=>.ok (.mk 6 0 [] [t,u]) k else .ok t j
def ZZ (part:Nat->PR Tm) (i:Nat):PR Tm:=(Zv ts 1 i).bind λs j=>if Z1 ts j [[40]]=true then (Q9 ts 8 [44] part (j+1)).bind λl k=>(Z0 ts [41] k).bind λ_ m=>.ok (.mk 4 0 s l) m else .ok (.mk 2 0 s []) j
def Zj:Nat->Nat->PR Tm
 |0,i=>.bad i 0
 |n+1,i =>
  if (Zg ts i).1=3 then (Z1J ts i).bind λv j=>.ok (.mk 1 v [] []) j
  else if (Zg ts i).1=2 then (Zv ts 2 i).bind λs j=>.ok (.mk 3 0 s []) j
  else if Z1 ts i [[40]]=true then (ZP ts (Zj n) (i+1)).bind λt j=>(Z0 ts [41] j).bind λ_ k=>.ok t k
  else if Z1 ts i [[45]]=true then
   if (Zg ts (i+1)).1=3 then (Z1J ts (i+1)).bind λv j=>.ok (.mk 1 (-v) [] []) j
   else (Zj n (i+1)).bind λt j=>.ok (.mk 5 0 [45] [t]) j
  else ZZ ts (ZP ts (Zj n)) i
def Zq (n:Nat):Nat->PR Tm:=ZP ts (Zj ts n)
def Q2 (n:Nat):Nat->PR Tm:=ZZ ts (Zq ts n)
abbrev fu:Nat:=ts.length+1
def ZH (t:Tm) (b at':Nat) (j:Nat):PR Tm:=if b<t.depth then .bad at' 5 else .ok t j
def Z7 (i:Nat):PR Tm:=(Zq ts (fu ts) i).bind λt j=>ZH t 12 i j
def nmT:Tm->List UInt8
 |.mk _ _ s _=>s
def arT:Tm->List Tm
 |.mk _ _ _ l=>l
def kT:Tm->Nat
 |.mk k _ _ _=>k
abbrev Am:=List UInt8 × List Tm
def ZA (t:Tm) (at' j:Nat):PR Am:=(ZH t 13 at' j).bind λt j=>.ok (nmT t,arT t) j
def QO (i:Nat):PR Am:=(Q2 ts (fu ts) i).bind λt j=>ZA t i j
def Z6 (ends:List (List UInt8)) (i:Nat):PR (Am × Tm × Bool):=(Zq ts (fu ts) i).bind λt j =>
 if Z1 ts j ends=true then (ZH t 12 i j).bind λt j=>.ok (([],[]),t,false) j
 else if (Zg ts i).1≠1\/kT t≠2/\kT t≠4 then (ZH t 12 i j).bind λ_ j=>.bad j 40
 else (ZA t i j).bind λa j=>.ok (a,t,true) j
def cmpL:List (List UInt8):=[[61],[33,61],[60],[60,61],[62],[62,61]]
def Zc (i:Nat):PR Nat:=if idxS (Zg ts i).2.1 cmpL 0<0\/(Zg ts i).1≠6 then .bad i 40 else .ok ((idxS (Zg ts i).2.1 cmpL 0).toNat+1) (i+1)
abbrev z0:Tm:=.mk 0 0 [] []
def Zm (no:Bool) (i:Nat):PR Lt:=if no=true then (QO ts i).bind λa j=>.ok ⟨1,true,a.1,a.2,0,z0,z0⟩ j
 else (Z6 ts cmpL i).bind λx j=>if x.2.2=true then .ok ⟨1,false,x.1.1,x.1.2,0,z0,z0⟩ j
  else (Zc ts j).bind λop k=>(Z7 ts k).bind λr m=>.ok ⟨2,false,[],[],op,x.2.1,r⟩ m
def tkP (t:List UInt8) (i:Nat):Bool × Nat:=if Z1 ts i [t]=true then (true,i+1) else (false,i)
def Z1R (i:Nat):PR Lt:=Zm ts (tkP ts Lx.ZC i).1 (tkP ts Lx.ZC i).2
def Q7 (i:Nat):PR (List Lt):=if Z1 ts i [[58]]=true then Q9 ts 64 [44] (Z1R ts) (i+1) else .ok [] i
def ZT (i:Nat):PR (List Tm):=Q9 ts 64 [44] (Z7 ts) i
def Zp {α:Type} (b:Nat->PR α) (i:Nat):PR (List α):=(Z0 ts [123] i).bind λ_ j=>(Q9 ts 64 [59] b j).bind λl k=>(Z0 ts [125] k).bind λ_ m=>.ok l m
def QS (i:Nat):PR El:=(ZT ts i).bind λl j=>(Q7 ts j).bind λc k=>.ok ⟨l,c⟩ k
def Z27:List UInt8:=[35,99,111,117,110,116]
def Z2g:List UInt8:=[35,115,117,109]
abbrev zL:Lt:=⟨0,false,[],[],0,z0,z0⟩
def Zb (no:Bool) (i:Nat):PR Bo :=
 (if Z1 ts i [Z2g]=true then PR.ok 2 (i+1) else (Z0 ts Z27 i).bind λ_ j=>.ok 1 j).bind λfn j =>
 (Zp ts (QS ts) j).bind λes k=>if Z1 ts k [[33,61]]=true then .bad k 40 else
 (Zc ts k).bind λop m=>(Z7 ts m).bind λb o=>.ok ⟨3,zL,[],no,fn,es,op,b⟩ o
def Zf (i:Nat):PR Bo :=
 if Z1 ts (tkP ts Lx.ZC i).2 [Z27,Z2g]=true then Zb ts (tkP ts Lx.ZC i).1 (tkP ts Lx.ZC i).2
 else (Zm ts (tkP ts Lx.ZC i).1 (tkP ts Lx.ZC i).2).bind λl j=>(Q7 ts j).bind λc k=>.ok ⟨if c=[] then 1 else 2,l,c,false,0,[],0,z0⟩ k
def Z0N:Nat->List Bo->Nat->PR (List Bo)
 |0,_,i=>.bad i 0
 |n+1,out,i=>if 64<=out.length then .bad i 5 else (Zf ts i).bind λb j =>
  if Z1 ts j [[59]]=true then Z0N n (out++[b]) (j+1)
  else if b.k=2 then .ok (out++[b]) j
  else if Z1 ts j [[44]]=true then Z0N n (out++[b]) (j+1)
  else .ok (out++[b]) j
def ZL (i:Nat):PR (List Bo):=Z0N ts 65 [] i
abbrev zR:Ru:=⟨0,[],z0,z0,[],z0,z0,[]⟩
def Z0t (i:Nat):PR He:=(QO ts i).bind λa j=>(Q7 ts j).bind λc k=>.ok ⟨a.1,a.2,c⟩ k
def Zd (b:Tm) (i:Nat):PR Ru:=(Zp ts (Z0t ts) i).bind λhs j =>
 if Z1 ts j [[58,45],[46]]=true then .ok {zR with k:=2,lo:=b,h:=hs} j
 else (Z7 ts j).bind λu k=>.ok {zR with k:=2,lo:=b,h:=hs,up:=u} k
def Z1O:Nat->List He->Nat->PR (List He)
 |0,_,i=>.bad i 0
 |n+1,out,i=>if Z1 ts i [[124]]=true then (if 64<=out.length then .bad (i+1) 5 else (QO ts (i+1)).bind λa j=>Z1O n (out++[⟨a.1,a.2,[]⟩]) j) else .ok out i
def ZJ (i:Nat):PR Ru :=
 if Z1 ts i [[123]]=true then Zd ts z0 i
 else if Z1 ts i [[58,45]]=true then .ok {zR with k:=1} i
 else (Z6 ts [[123]] i).bind λx j=>if x.2.2=true then (Z1O ts 65 [⟨x.1.1,x.1.2,[]⟩] j).bind λhs k=>.ok {zR with k:=1,h:=hs} k
  else Zd ts x.2.1 j
def Zr (i:Nat):PR Ru:=(Z7 ts i).bind λw j =>
 (if Z1 ts j [[64]]=true then Z7 ts (j+1) else .ok (.mk 1 0 [] []) j).bind λlv k =>
 (if Z1 ts k [[44]]=true then ZT ts (k+1) else .ok [] k).bind λb m=>.ok {zR with k:=3,w:=w,lv:=lv,t:=b} m
def Qt (i:Nat):PR Ru:=(Z0 ts [58,126] i).bind λ_ j =>
 (if Z1 ts j [[46]]=true then .ok [] j else ZL ts j).bind λb k=>(Z0 ts [46] k).bind λ_ m=>(Z0 ts [91] m).bind λ_ o =>
 (Zr ts o).bind λr p=>(Z0 ts [93] p).bind λ_ q=>.ok {r with b:=b} q
def Zy (i:Nat):PR Ru:=if Z1 ts i [[58,126]]=true then Qt ts i
 else (ZJ ts i).bind λr j=>(if Z1 ts j [[58,45]]=true then ZL ts (j+1) else .ok [] j).bind λb k=>(Z0 ts [46] k).bind λ_ m=>.ok {r with b:=b} m
structure Ac where
 r:List Ru
 c:List Co
 s:List (List UInt8 × Int)
 so:Bool
def Ze (n i:Nat):PR Unit:=if 400<=n then .bad i 5 else .ok () i
def Q3:List UInt8:=[35,99,111,110,115,116]
def Z1m:List UInt8:=[35,115,104,111,119]
def Z3m:List UInt8:=[35,109,105,110,105,109,105,122,101]
def Qr (a:Ac) (i:Nat):PR Ac:=(Ze a.c.length i).bind λ_ i=>(Z0 ts Q3 i).bind λ_ j=>(Zv ts 1 j).bind λn k=>(Z0 ts [61] k).bind λ_ m =>
 (Z7 ts m).bind λv o=>(Z0 ts [46] o).bind λ_ p=>.ok {a with c:=a.c++[⟨n,v⟩]} p
def Z1X (a:Ac) (i:Nat):PR Ac:=(Ze a.s.length i).bind λ_ i=>(Z0 ts Z1m i).bind λ_ j =>
 (if Z1 ts j [[46]]=true then .ok {a with so:=true} j else (Zv ts 1 j).bind λn k=>(Z0 ts [47] k).bind λ_ m=>(Z1J ts m).bind λv o=>.ok {a with so:=true,s:=a.s++[(n,v)]} o).bind λb p =>
 (Z0 ts [46] p).bind λ_ q=>.ok b q
def QG:Nat->List Ru->Nat->PR (List Ru)
 |0,_,i=>.bad i 0
 |n+1,rs,i=>(Ze rs.length i).bind λ_ i=>(Zr ts i).bind λr j=>(Q7 ts j).bind λl k =>
  if Z1 ts k [[59]]=true then QG n (rs++[{r with b:=l.map λx=>⟨1,x,[],false,0,[],0,z0⟩}]) (k+1)
  else .ok (rs++[{r with b:=l.map λx=>⟨1,x,[],false,0,[],0,z0⟩}]) k
def Qp (a:Ac) (i:Nat):PR Ac:=(Z0 ts Z3m i).bind λ_ j=>(Z0 ts [123] j).bind λ_ k=>(QG ts 401 a.r k).bind λrs m =>
 (Z0 ts [125] m).bind λ_ o=>(Z0 ts [46] o).bind λ_ p=>.ok {a with r:=rs} p
def Zz (a:Ac) (i:Nat):PR Ac :=
 if (Zg ts i).2.1=Q3 then Qr ts a i
 else if (Zg ts i).2.1=Z1m then Z1X ts a i
 else if (Zg ts i).2.1=Z3m then Qp ts a i
 else (Ze a.r.length i).bind λ_ i=>(Zy ts i).bind λr j=>.ok {a with r:=a.r++[r]} j
def Z1I:Nat->Ac->Nat->PR Ac
 |0,_,i=>.bad i 0
 |n+1,a,i=>if i<ts.length then (Zz ts a i).bind λb j=>Z1I n b j else .ok a i
def Qi:PR Ac:=Z1I ts (fu ts) ⟨[],[],[],false⟩ 0
def Zkx {α:Type} (x:PR α):PR α:=x.bind λa j=>if j<ts.length then .bad j 40 else .ok a j
end
end Go.Sx.Ps
/- The parser goes on,and ends;two lists of tokens that look alike. -/
namespace Go.Sx.Ps
open Go.Sx
open Go.Sx.Lx (Tk)
theorem Z0m {ts:List Tk} {i:Nat} (h:(Zg ts i).1≠0):i<ts.length:=by
 apply Classical.byContradiction;intro b;apply h;simp only[Zg,List.getD_eq_getElem?_getD,List.getElem?_eq_none (by omega:ts.length<=i),Option.getD_none]
theorem Qd {ts:List Tk} {i:Nat} {l:List (List UInt8)} (h:Z1 ts i l=true):i<ts.length:=by
 simp only[Z1,Bool.and_eq_true,decide_eq_true_eq] at h;exact Z0m (by omega)
structure Sm (ts us:List Tk) (d:Nat) (fl:Bool):Prop where
 kd: ∀ i,(i<ts.length\/fl=true)->(Zg us (i+d)).1=(Zg ts i).1
 tx: ∀ i,(i<ts.length\/fl=true)->(Zg us (i+d)).2.1=(Zg ts i).2.1
 ln:ts.length+d<=us.length
 fu:fl=true->us.length=ts.length+d
theorem Sm.self (ts:List Tk):Sm ts ts 0 true:=⟨λ_ _=>rfl,λ_ _=>rfl,Nat.le_refl _,λ_=>rfl⟩
section
variable {ts us:List Tk} {d:Nat} {fl:Bool} (S:Sm ts us d fl) {α β:Type}
include S in
theorem Sm.sees {i:Nat} (h:i<ts.length\/fl=true) (l:List (List UInt8)):Z1 us (i+d) l=Z1 ts i l:=by
 unfold Z1;rw[S.kd i h,S.tx i h]
def W (ts:List Tk) (d:Nat) (fl:Bool) (i:Nat):PR α->PR α->Prop
 |.ok a j,y=>i<=j/\(i<=ts.length->j<=ts.length)/\((j<ts.length\/fl=true)->y=.ok a (j+d))
 |.bad a e,y=>e≠0/\(fl=true->y=.bad (a+d) e)
def WS (ts:List Tk) (d:Nat) (fl:Bool) (i:Nat):PR α->PR α->Prop
 |.ok a j,y=>i<j/\(i<=ts.length->j<=ts.length)/\((i<=ts.length\/fl=true)->y=.ok a (j+d))
 |.bad a e,y=>e≠0/\(fl=true->y=.bad (a+d) e)
theorem W.ok0 {i:Nat} (a:α):W ts d fl i (.ok a i) (.ok a (i+d)):=⟨Nat.le_refl _,id,λ_=>rfl⟩
theorem W.bad {i a:Nat} {e:Int} (h:e≠0):W ts d fl i (.bad a e:PR α) (.bad (a+d) e):=⟨h,λ_=>rfl⟩
theorem W.le {i j:Nat} {x y:PR α} (h:W ts d fl j x y) (b:i<=j) (h2:i<=ts.length->j<=ts.length):W ts d fl i x y:=by
 cases x with
 |ok a k=>exact⟨Nat.le_trans b h.1,λc=>h.2.1 (h2 c),h.2.2⟩
 |bad a e=>exact h
theorem WS.le {i j:Nat} {x y:PR α} (h:WS ts d fl j x y) (c:i<=j) (h2:i<=ts.length->j<=ts.length):WS ts d fl i x y:=by
 cases x with
 |ok a k=>exact⟨Nat.lt_of_le_of_lt c h.1,λb=>h.2.1 (h2 b),λb=>h.2.2 (b.imp h2 id)⟩
 |bad a e=>exact h
theorem WS.w {i:Nat} {x y:PR α} (h:WS ts d fl i x y):W ts d fl i x y:=by
 cases x with
 |ok a k=>exact⟨Nat.le_of_lt h.1,h.2.1,λb=>h.2.2 (b.imp (λc=>by have:=h.1;omega) id)⟩
 |bad a e=>exact h
theorem W.off {i:Nat} {x y:PR α} (hi: ¬ (i<ts.length\/fl=true)) (z:PR α) (h:W ts d fl i x y):W ts d fl i x z:=by
 have hf: ¬ fl=true:=λh=>hi (.inr h);cases x with
 |ok a k=>exact⟨h.1,h.2.1,λb=>absurd (b.imp (λc=>Nat.lt_of_le_of_lt h.1 c) id) hi⟩
 |bad a e=>exact⟨h.1,λb=>absurd b hf⟩
theorem W.ite {i:Nat} {c b:Prop} [Decidable c] [Decidable b] {x e y f:PR α} (hc:(i<ts.length\/fl=true)->(b ↔ c)) (h1:c->W ts d fl i x e) (h2: ¬ c->W ts d fl i y f):W ts d fl i (if c then x else y) (if b then e else f):=by
 by_cases hi:i<ts.length\/fl=true
 ·by_cases h:c
  ·rw[if_pos h,if_pos ((hc hi).2 h)];exact h1 h
  ·rw[if_neg h,if_neg (λh'=>h ((hc hi).1 h'))];exact h2 h
 ·by_cases h:c
  ·rw[if_pos h];exact (h1 h).off hi _
  ·rw[if_neg h];exact (h2 h).off hi _
theorem W.bind {i:Nat} {x m:PR α} {f g:α->Nat->PR β} (h:W ts d fl i x m) (k: ∀ a j,i<=j->x=.ok a j->W ts d fl j (f a j) (g a (j+d))):W ts d fl i (x.bind f) (m.bind g):=by
 cases x with
 |ok a j =>
  obtain⟨h1,h2,b⟩:=h;have l:=k a j h1 rfl;by_cases c:j<ts.length\/fl=true
  ·rw[b c];exact l.le h1 h2
  ·exact (l.off c _).le h1 h2
 |bad a e=>exact⟨h.1,λb=>by rw[h.2 b];rfl⟩
theorem W.bindS {i:Nat} {x q:PR α} {f g:α->Nat->PR β} (h:W ts d fl i x q) (k: ∀ a j,i<=j->x=.ok a j->WS ts d fl j (f a j) (g a (j+d))):WS ts d fl i (x.bind f) (q.bind g):=by
 cases x with
 |ok a j =>
  obtain⟨h1,h2,o⟩:=h;have l:=k a j h1 rfl;by_cases p:j<ts.length\/fl=true
  ·rw[o p];exact l.le h1 h2
  ·have hf: ¬ fl=true:=λh=>p (.inr h);show WS ts d fl i (f a j) _;cases hx:f a j with
   |ok b m =>
    rw[hx] at l;refine⟨Nat.lt_of_le_of_lt h1 l.1,λc=>l.2.1 (h2 c),λc=>?_⟩;rcases c with c|c
    ·have:=l.2.1 (h2 c);have:=l.1;exact absurd (.inl (by omega)) p
    ·exact absurd c hf
   |bad b e=>rw[hx] at l;exact⟨l.1,λc=>absurd c hf⟩
 |bad a e=>exact⟨h.1,λo=>by rw[h.2 o];rfl⟩
theorem WS.map {i:Nat} {x b:PR α} (v:α->β) (h:WS ts d fl i x b):WS ts d fl i (x.bind λa j=>.ok (v a) j) (b.bind λa j=>.ok (v a) j):=by
 cases x with
 |ok a j=>exact⟨h.1,h.2.1,λf=>by rw[h.2.2 f];rfl⟩
 |bad a e=>exact⟨h.1,λc=>by rw[h.2 c];rfl⟩
include S in
theorem WS.ite {i:Nat} {l:List (List UInt8)} {x c y f:PR α} (h1:Z1 ts i l=true->WS ts d fl i x c) (h2:WS ts d fl i y f):WS ts d fl i (if Z1 ts i l=true then x else y) (if Z1 us (i+d) l=true then c else f):=by
 by_cases hi:i<ts.length\/fl=true
 ·rw[S.sees hi];split
  ·rename_i h;exact h1 h
  ·exact h2
 ·rw[if_neg (λh=>hi (.inl (Qd h)))];cases y with
  |ok a j=>exact⟨h2.1,h2.2.1,λb=>by
    rcases b with b|b
    ·have:=h2.2.1 b;have:=h2.1;exact absurd (.inl (by omega)) hi
    ·exact absurd (.inr b) hi⟩
  |bad a e=>exact⟨h2.1,λh=>absurd (.inr h) hi⟩
include S
theorem Qc {i:Nat} {l:List (List UInt8)} {x b y c:PR α} (h1:Z1 ts i l=true->W ts d fl i x b) (h2:W ts d fl i y c):W ts d fl i (if Z1 ts i l=true then x else y) (if Z1 us (i+d) l=true then b else c) :=
 W.ite (λhi=>by rw[S.sees hi]) h1 λ_=>h2
omit S in
theorem arc (d i:Nat):i+d+1=i+1+d:=by omega
omit S in
theorem W.nxt {i:Nat} {l:List (List UInt8)} {x y:PR α} (hs:Z1 ts i l=true) (h:W ts d fl (i+1) x y):W ts d fl i x y:=h.le (Nat.le_succ i) λ_=>Qd hs
theorem ZV (t:List UInt8) (i:Nat):WS ts d fl i (Z0 ts t i) (Z0 us t (i+d)):=by
 unfold Z0;by_cases hi:i<ts.length\/fl=true
 ·rw[S.sees hi];split
  ·rename_i h
   have:=Qd h;rw[arc];exact⟨Nat.lt_succ_self i,λ_=>this,λ_=>rfl⟩
  ·exact⟨by decide,λ_=>rfl⟩
 ·rw[if_neg (λh=>hi (.inl (Qd h)))];exact⟨by decide,λh=>absurd (.inr h) hi⟩
theorem Z2A {k:Int} (b:k≠0) (i:Nat):WS ts d fl i (Zv ts k i) (Zv us k (i+d)):=by
 unfold Zv;by_cases hi:i<ts.length\/fl=true
 ·rw[S.kd i hi,S.tx i hi];split
  ·rename_i h
   have:=Z0m (ts:=ts) (i:=i) (by omega);rw[arc];exact⟨Nat.lt_succ_self i,λ_=>this,λ_=>rfl⟩
  ·exact⟨by decide,λ_=>rfl⟩
 ·rw[if_neg (λh=>hi (.inl (Z0m (by omega))))];exact⟨by decide,λh=>absurd (.inr h) hi⟩
theorem Z89 (i:Nat):WS ts d fl i (Z1J ts i) (Z1J us (i+d)):=WS.map _ (Z2A S (by decide) i)
theorem ZcY {b:Nat} {f:List UInt8} {e c:Nat->PR α} {i0:Nat} (g: ∀ k,i0<=k->W ts d fl k (e k) (c (k+d))): ∀ (n:Nat) (out:List α) (i:Nat),i0<=i->b+1<=n+out.length->out.length<=b->W ts d fl i (Z13 ts b f e n out i) (Z13 us b f c n out (i+d))
 |0,out,i,h,l,m=>by omega
 |n+1,out,i,h,l,m=>by
  unfold Z13;refine W.ite (λ_=>Iff.rfl) (λ_=>W.bad (by decide)) λhm=>(g i h).bind λa j o _=>?_;refine Qc S (λhs=>W.nxt hs ?_) (W.ok0 _);rw[arc];exact ZcY g n (out++[a]) (j+1) (by omega) (by simp;omega) (by simp;omega)
theorem Z3U (c:Nat) (f:List UInt8) {e b:Nat->PR α} {i0:Nat} (g: ∀ k,i0<=k->W ts d fl k (e k) (b (k+d))) {i:Nat} (h:i0<=i):W ts d fl i (Q9 ts c f e i) (Q9 us c f b (i+d)) :=
 ZcY S g (c+1) [] i h (by simp) (by simp)
theorem Z8i {c b:Nat->PR Tm} {ops:List (List UInt8)} {i0:Nat} (f: ∀ k,i0<=k->W ts d fl k (c k) (b (k+d))): ∀ (n m:Nat) (t:Tm) (i:Nat),i0<=i->ts.length-i<n->us.length-(i+d)<m->W ts d fl i (Z0v ts c ops n t i) (Z0v us b ops m t (i+d))
 |0,_,_,_,_,g,_=>by omega
 |_+1,0,_,_,_,_,hm=>by omega
 |n+1,m+1,t,i,h,g,hm=>by
  unfold Z0v;have hl:=S.ln;by_cases hs:Z1 ts i ops=true
  ·have e:=Qd hs;rw[S.sees (.inl e),if_pos hs,if_pos hs,S.tx i (.inl e),arc];refine W.nxt hs ((f (i+1) (by omega)).bind λu j l _=>?_);exact Z8i f n m _ j (by omega) (by omega) (by omega)
  ·refine Qc S (λh=>absurd h hs) (W.ok0 _)
theorem Z3V {c b:Nat->PR Tm} {ops:List (List UInt8)} {i0:Nat} (e: ∀ k,i0<=k->W ts d fl k (c k) (b (k+d))) {i:Nat} (h:i0<=i):W ts d fl i (Z0b ts c ops i) (Z0b us b ops (i+d)):=by
 unfold Z0b;refine (e i h).bind λt j f _=>Z8i S e _ _ t j (by omega) (by omega) (by omega)
theorem ZdO {f g:Nat->PR Tm} {i0:Nat} (b: ∀ k,i0<=k->W ts d fl k (f k) (g (k+d))) {i:Nat} (h:i0<=i):W ts d fl i (Z4B ts f i) (Z4B us g (i+d)) :=
 Z3V S (λk c=>Z3V S b c) h
theorem Z6d {f g:Nat->PR Tm} {i0:Nat} (b: ∀ k,i0<=k->W ts d fl k (f k) (g (k+d))) {i:Nat} (h:i0<=i):W ts d fl i (ZP ts f i) (ZP us g (i+d)):=by
 unfold ZP;refine (ZdO S b h).bind λt j c _=>Qc S (λhs=>W.nxt hs ?_) (W.ok0 _);rw[arc];exact (ZdO S b (by omega)).bind λu k e _=>W.ok0 _
theorem Z8e {f g:Nat->PR Tm} {i:Nat} (c:i<ts.length-> ∀ k,i+1<=k->W ts d fl k (f k) (g (k+d))):W ts d fl i (ZZ ts f i) (ZZ us g (i+d)):=by
 unfold ZZ;refine (Z2A S (by decide) i).w.bind λs j e hx=>Qc S (λhs=>W.nxt hs ?_) (W.ok0 _);rw[arc];have b:i<ts.length:=by have:=Qd hs;omega
 refine (Z3U S 8 [44] (i0:=i+1) (c b) (by omega)).bind λl k h _=>(ZV S _ k).w.bind λ_ m hm _=>W.ok0 _
theorem Z19: ∀ (n m i:Nat),ts.length-i<n->us.length-(i+d)<m->W ts d fl i (Zj ts n i) (Zj us m (i+d))
 |0,_,_,e,_=>by omega
 |_+1,0,_,_,hm=>by omega
 |n+1,m+1,i,e,hm=>by
  unfold Zj;have hl:=S.ln;refine W.ite (λhi=>by rw[S.kd i hi]) (λ_=>(Z89 S i).w.bind λv j _ _=>W.ok0 _) λ_=>?_;refine W.ite (λhi=>by rw[S.kd i hi]) (λ_=>(Z2A S (by decide) i).w.bind λv j _ _=>W.ok0 _) λ_=>?_;refine Qc S (λhs=>W.nxt hs ?_) (Qc S (λhs=>W.nxt hs ?_) ?_)
  ·have:=Qd hs;rw[arc];exact (Z6d S (i0:=i+1) (λk b=>Z19 n m k (by omega) (by omega)) (Nat.le_refl _)).bind λt j f _=>(ZV S _ j).w.bind λ_ k _ _=>W.ok0 _
  ·have:=Qd hs;rw[arc];refine W.ite (λhi=>by rw[S.kd (i+1) hi]) (λ_=>(Z89 S (i+1)).w.bind λv j _ _=>W.ok0 _) λ_=>?_;exact (Z19 n m (i+1) (by omega) (by omega)).bind λt j _ _=>W.ok0 _
  ·exact Z8e S λc k b=>Z6d S (i0:=i+1) (λk b=>Z19 n m k (by omega) (by omega)) (by omega)
theorem Z2B (i:Nat):W ts d fl i (Zq ts (fu ts) i) (Zq us (fu us) (i+d)) :=
 Z6d S (i0:=0) (λk _=>Z19 S _ _ k (by unfold fu;omega) (by unfold fu;omega)) (Nat.zero_le _)
theorem Z6e (i:Nat):W ts d fl i (Q2 ts (fu ts) i) (Q2 us (fu us) (i+d)) :=
 Z8e S λ_ k _=>Z2B S k
omit S in
theorem Z6f (t:Tm) (b at' j:Nat):W ts d fl j (ZH t b at' j) (ZH t b (at'+d) (j+d)):=by
 unfold ZH;exact W.ite (λ_=>Iff.rfl) (λ_=>W.bad (by decide)) λ_=>W.ok0 _
theorem Z2e (i:Nat):W ts d fl i (Z7 ts i) (Z7 us (i+d)):=(Z2B S i).bind λt j _ _=>Z6f t 12 i j
omit S in
theorem Z6k (t:Tm) (at' j:Nat):W ts d fl j (ZA t at' j) (ZA t (at'+d) (j+d)):=(Z6f t 13 at' j).bind λt j _ _=>W.ok0 _
theorem Z8j (i:Nat):W ts d fl i (QO ts i) (QO us (i+d)):=(Z6e S i).bind λt j _ _=>Z6k t i j
theorem Z6g (ends:List (List UInt8)) (i:Nat):W ts d fl i (Z6 ts ends i) (Z6 us ends (i+d)):=by
 unfold Z6;refine (Z2B S i).bind λt j b _=>Qc S (λ_=>(Z6f t 12 i j).bind λt j _ _=>W.ok0 _) ?_;refine W.ite (λhi=>by rw[S.kd i (hi.imp (by omega) id)]) (λ_=>(Z6f t 12 i j).bind λt j _ _=>W.bad (by decide)) λ_=>?_;exact (Z6k t i j).bind λt j _ _=>W.ok0 _
theorem Z8a (i:Nat):WS ts d fl i (Zc ts i) (Zc us (i+d)):=by
 unfold Zc;by_cases hi:i<ts.length\/fl=true
 ·rw[S.kd i hi,S.tx i hi,arc];split
  ·exact⟨by decide,λ_=>rfl⟩
  ·rename_i h
   have:=Z0m (ts:=ts) (i:=i) (by omega);exact⟨Nat.lt_succ_self i,λ_=>this,λ_=>rfl⟩
 ·rw[if_pos (.inr λh=>hi (.inl (Z0m (by omega))))];exact⟨by decide,λh=>absurd (.inr h) hi⟩
theorem Z4v (no:Bool) (i:Nat):W ts d fl i (Zm ts no i) (Zm us no (i+d)):=by
 unfold Zm;refine W.ite (λ_=>Iff.rfl) (λ_=>(Z8j S i).bind λa j _ _=>W.ok0 _) λ_=>?_;refine (Z6g S _ i).bind λx j _ _=>W.ite (λ_=>Iff.rfl) (λ_=>W.ok0 _) λ_=>?_;exact (Z8a S j).w.bind λop k _ _=>(Z2e S k).bind λr m _ _=>W.ok0 _
theorem w_tk {t:List UInt8} {i:Nat} {f g:Bool->Nat->PR α} (h: ∀ b k,W ts d fl k (f b k) (g b (k+d))):W ts d fl i (f (tkP ts t i).1 (tkP ts t i).2) (g (tkP us t (i+d)).1 (tkP us t (i+d)).2):=by
 unfold tkP;by_cases hi:i<ts.length\/fl=true
 ·rw[S.sees hi];by_cases hs:Z1 ts i [t]=true
  ·rw[if_pos hs,if_pos hs];refine W.nxt hs ?_;show W ts d fl (i+1) (f true (i+1)) (g true (i+d+1));rw[arc];exact h true (i+1)
  ·rw[if_neg hs,if_neg hs];exact h false i
 ·rw[if_neg (λh=>hi (.inl (Qd h)))];exact (h false i).off hi _
theorem Zhj (i:Nat):W ts d fl i (Z1R ts i) (Z1R us (i+d)):=w_tk S (f:=λb k=>Zm ts b k) (g:=λb k=>Zm us b k) λb k=>Z4v S b k
theorem Z6c (i:Nat):W ts d fl i (Q7 ts i) (Q7 us (i+d)):=by
 unfold Q7;refine Qc S (λhs=>W.nxt hs ?_) (W.ok0 _);rw[arc];exact Z3U S _ _ (i0:=0) (λk _=>Zhj S k) (Nat.zero_le _)
theorem Z8d (i:Nat):W ts d fl i (ZT ts i) (ZT us (i+d)):=Z3U S _ _ (i0:=0) (λk _=>Z2e S k) (Nat.zero_le _)
theorem Z6i {c b:Nat->PR α} (e: ∀ k,W ts d fl k (c k) (b (k+d))) (i:Nat):W ts d fl i (Zp ts c i) (Zp us b (i+d)) :=
 (ZV S _ i).w.bind λ_ j _ _=>(Z3U S _ _ (i0:=0) (λk _=>e k) (Nat.zero_le _)).bind λl k _ _=>(ZV S _ k).w.bind λ_ m _ _=>W.ok0 _
theorem ZcZ (i:Nat):W ts d fl i (QS ts i) (QS us (i+d)):=(Z8d S i).bind λl j _ _=>(Z6c S j).bind λc k _ _=>W.ok0 _
theorem Z5g (no:Bool) (i:Nat):W ts d fl i (Zb ts no i) (Zb us no (i+d)):=by
 unfold Zb;refine W.bind (Qc S (λhs=>W.nxt hs ?_) ((ZV S _ i).w.bind λ_ j _ _=>W.ok0 _)) λfn j _ _=>?_
 ·rw[arc];exact W.ok0 _
 refine (Z6i S (ZcZ S) j).bind λes k _ _=>Qc S (λ_=>W.bad (by decide)) ?_;exact (Z8a S k).w.bind λop m _ _=>(Z2e S m).bind λb o _ _=>W.ok0 _
theorem Z8h (i:Nat):W ts d fl i (Zf ts i) (Zf us (i+d)):=by
 unfold Zf;refine w_tk S (f:=λb k=>if Z1 ts k [Z27,Z2g]=true then Zb ts b k else (Zm ts b k).bind λl j=>(Q7 ts j).bind λc k=>.ok ⟨if c=[] then 1 else 2,l,c,false,0,[],0,z0⟩ k) (g:=λb k=>if Z1 us k [Z27,Z2g]=true then Zb us b k else (Zm us b k).bind λl j=>(Q7 us j).bind λc k=>.ok ⟨if c=[] then 1 else 2,l,c,false,0,[],0,z0⟩ k) λb k=>?_;exact Qc S (λ_=>Z5g S b k) ((Z4v S b k).bind λl j _ _=>(Z6c S j).bind λc m _ _=>W.ok0 _)
theorem Z6j: ∀ (n:Nat) (out:List Bo) (i:Nat),65<=n+out.length->out.length<=64->W ts d fl i (Z0N ts n out i) (Z0N us n out (i+d))
 |0,out,i,c,e=>by omega
 |n+1,out,i,c,e=>by
  unfold Z0N;refine W.ite (λ_=>Iff.rfl) (λ_=>W.bad (by decide)) λhm=>(Z8h S i).bind λb j _ _=>?_;have go: ∀ l,Z1 ts j l=true->W ts d fl j (Z0N ts n (out++[b]) (j+1)) (Z0N us n (out++[b]) (j+d+1)):=λl hs=>W.nxt hs (by rw[arc];exact Z6j n _ (j+1) (by simp;omega) (by simp;omega));exact Qc S (go _) (W.ite (λ_=>Iff.rfl) (λ_=>W.ok0 _) λ_=>Qc S (go _) (W.ok0 _))
theorem Zd2 (i:Nat):W ts d fl i (ZL ts i) (ZL us (i+d)):=Z6j S 65 [] i (by simp) (by simp)
theorem Z8g (i:Nat):W ts d fl i (Z0t ts i) (Z0t us (i+d)):=(Z8j S i).bind λa j _ _=>(Z6c S j).bind λc k _ _=>W.ok0 _
theorem Z6h (lo:Tm) (i:Nat):W ts d fl i (Zd ts lo i) (Zd us lo (i+d)):=by
 unfold Zd;exact (Z6i S (Z8g S) i).bind λhs j _ _=>Qc S (λ_=>W.ok0 _) ((Z2e S j).bind λu k _ _=>W.ok0 _)
theorem Zd0: ∀ (n:Nat) (out:List He) (i:Nat),65<=n+out.length->out.length<=64->W ts d fl i (Z1O ts n out i) (Z1O us n out (i+d))
 |0,out,i,b,c=>by omega
 |n+1,out,i,b,c=>by
  unfold Z1O;refine Qc S (λhs=>W.nxt hs ?_) (W.ok0 _);rw[arc];refine W.ite (λ_=>Iff.rfl) (λ_=>W.bad (by decide)) λhm=>(Z8j S (i+1)).bind λa j _ _=>?_;exact Zd0 n _ j (by simp;omega) (by simp;omega)
theorem Zhk (i:Nat):W ts d fl i (ZJ ts i) (ZJ us (i+d)):=by
 unfold ZJ;refine Qc S (λ_=>Z6h S _ i) (Qc S (λ_=>W.ok0 _) ?_);exact (Z6g S _ i).bind λx j _ _=>W.ite (λ_=>Iff.rfl) (λ_=>(Zd0 S 65 _ j (by simp) (by simp)).bind λhs k _ _=>W.ok0 _) λ_=>Z6h S _ j
theorem Zd1 (i:Nat):W ts d fl i (Zr ts i) (Zr us (i+d)):=by
 unfold Zr;refine (Z2e S i).bind λw j _ _=>W.bind (Qc S (λhs=>W.nxt hs ?_) (W.ok0 _)) λlv k _ _=>W.bind (Qc S (λhs=>W.nxt hs ?_) (W.ok0 _)) λb m _ _=>W.ok0 _
 ·rw[arc];exact Z2e S _
 ·rw[arc];exact Z8d S _
theorem ZdK (i:Nat):WS ts d fl i (Qt ts i) (Qt us (i+d)):=by
 unfold Qt;refine (ZV S _ i).w.bindS λ_ j _ _=>W.bindS (Qc S (λ_=>W.ok0 _) (Zd2 S j)) λb k _ _=>(ZV S _ k).w.bindS λ_ m _ _=>(ZV S _ m).w.bindS λ_ o _ _=>(Zd1 S o).bindS λr p _ _=>?_;exact WS.map _ (ZV S _ p)
theorem Z88 (i:Nat):WS ts d fl i (Zy ts i) (Zy us (i+d)):=by
 unfold Zy;refine WS.ite S (λ_=>ZdK S i) ?_;refine (Zhk S i).bindS λr j _ _=>W.bindS (Qc S (λhs=>W.nxt hs ?_) (W.ok0 _)) λb k _ _=>WS.map _ (ZV S _ k);rw[arc];exact Zd2 S _
theorem Z8f (n i:Nat):W ts d fl i (Ze n i) (Ze n (i+d)):=by
 unfold Ze;exact W.ite (λ_=>Iff.rfl) (λ_=>W.bad (by decide)) λ_=>W.ok0 _
theorem Z5e (a:Ac) (i:Nat):WS ts d fl i (Qr ts a i) (Qr us a (i+d)):=by
 unfold Qr;exact (Z8f S _ i).bindS λ_ i _ _=>(ZV S _ i).w.bindS λ_ j _ _=>(Z2A S (by decide) j).w.bindS λn k _ _=>(ZV S _ k).w.bindS λ_ m _ _=>(Z2e S m).bindS λv o _ _=>WS.map _ (ZV S _ o)
theorem ZdL (a:Ac) (i:Nat):WS ts d fl i (Z1X ts a i) (Z1X us a (i+d)):=by
 unfold Z1X;refine (Z8f S _ i).bindS λ_ i _ _=>(ZV S _ i).w.bindS λ_ j _ _=>W.bindS (Qc S (λ_=>W.ok0 _) ?_) λb p _ _=>WS.map _ (ZV S _ p);exact (Z2A S (by decide) j).w.bind λn k _ _=>(ZV S _ k).w.bind λ_ m _ _=>(Z89 S m).w.bind λv o _ _=>W.ok0 _
theorem ZcX: ∀ (n:Nat) (rs:List Ru) (i:Nat),401<=n+rs.length->1<=n->W ts d fl i (QG ts n rs i) (QG us n rs (i+d))
 |0,_,_,_,h=>by omega
 |n+1,rs,i,c,_=>by
  unfold QG Ze;by_cases b:400<=rs.length
  ·rw[if_pos b,if_pos b];exact W.bad (by decide)
  ·rw[if_neg b,if_neg b];refine (Zd1 S i).bind λr j _ _=>(Z6c S j).bind λl k _ _=>Qc S (λhs=>W.nxt hs ?_) (W.ok0 _);rw[arc];exact ZcX n _ (k+1) (by simp;omega) (by omega)
theorem Z5d (a:Ac) (i:Nat):WS ts d fl i (Qp ts a i) (Qp us a (i+d)):=by
 unfold Qp;exact (ZV S _ i).w.bindS λ_ j _ _=>(ZV S _ j).w.bindS λ_ k _ _=>(ZcX S 401 a.r k (by omega) (by omega)).bindS λrs m _ _=>(ZV S _ m).w.bindS λ_ o _ _=>WS.map _ (ZV S _ o)
theorem Z2d (a:Ac) (i:Nat) (hi:i<ts.length\/fl=true):WS ts d fl i (Zz ts a i) (Zz us a (i+d)):=by
 unfold Zz;rw[S.tx i hi];split
 ·exact Z5e S a i
 split
 ·exact ZdL S a i
 split
 ·exact Z5d S a i
 exact (Z8f S _ i).bindS λ_ i _ _=>WS.map _ (Z88 S i)
end
theorem Z5x {α:Type} {ts:List Tk} {i j:Nat} {x:PR α} {a:α} (h:W ts 0 true i x x) (hx:x=.ok a j):i<=j/\(i<=ts.length->j<=ts.length):=by
 subst hx;exact⟨h.1,h.2.1⟩
end Go.Sx.Ps
/- What is parsed keeps the limits. -/
namespace Go.Sx.Ps
open Go.Sx
open Go.Sx.Lx (Tk)
def VP {α:Type} (P:α->Prop):PR α->Prop
 |.ok a _=>P a
 |.bad _ _=>True
section
variable {α β:Type}
theorem VP.bind {P:α->Prop} {Q:β->Prop} {x:PR α} {f:α->Nat->PR β} (h:VP P x) (k: ∀ a j,x=.ok a j->P a->VP Q (f a j)):VP Q (x.bind f):=by
 cases x with
 |ok a j=>exact k a j rfl h
 |bad a e=>trivial
theorem VP.any (x:PR α):VP (λ_=>True) x:=by cases x<;>trivial
theorem VP.ite {P:α->Prop} {c:Prop} [Decidable c] {x y:PR α} (h1:c->VP P x) (h2: ¬ c->VP P y):VP P (if c then x else y):=by
 split
 ·rename_i h;exact h1 h
 ·rename_i h;exact h2 h
theorem VP.mono {P Q:α->Prop} {x:PR α} (h:VP P x) (k: ∀ a,P a->Q a):VP Q x:=by
 cases x with
 |ok a j=>exact k a h
 |bad a e=>trivial
end
def Z86 (ts:List Tk):Prop:=∀ t∈ts,Lx.Val t
section
variable {ts:List Tk} (H:Z86 ts)
include H in
theorem Z2v {i:Nat} (c:(Zg ts i).1≠0):Lx.Val (Zg ts i):=by
 have b:=Z0m c;simp only[Zg,List.getD_eq_getElem?_getD,List.getElem?_eq_getElem b,Option.getD_some];exact H _ (List.getElem_mem b)
theorem Z8l {t:Tk} (h:Lx.Val t) (c:t.1=1):Lx.ZM t.2.1=true:=by
 obtain⟨h1,h2⟩:=h;cases hs:t.2.1 with
 |nil=>exact absurd hs h1
 |cons b r =>
  rw[hs,c] at h2;unfold Lx.tok at h2;simp only at h2;split at h2
  ·rename_i e;simp only[Prod.mk.injEq] at h2;rw[h2.2.1] at h2
   have:=h2.1;unfold Lx.Z0x at this;split at this
   ·cases this
   split at this
   ·assumption
   split at this<;>cases this
  split at h2
  ·cases h2
  split at h2<;>cases h2
theorem ZdP {t:Tk} (h:Lx.Val t) (c:t.1=2):Lx.ZW t.2.1=true:=by
 obtain⟨h1,h2⟩:=h;cases hs:t.2.1 with
 |nil=>exact absurd hs h1
 |cons b r =>
  rw[hs,c] at h2;unfold Lx.tok at h2;simp only at h2;split at h2
  ·rename_i e;simp only[Prod.mk.injEq] at h2;rw[h2.2.1] at h2
   have:=h2.1;unfold Lx.Z0x at this;split at this
   ·cases this
   split at this
   ·cases this
   split at this
   ·assumption
   ·cases this
  split at h2
  ·cases h2
  split at h2<;>cases h2
theorem ZdQ {t:Tk} (h:Lx.Val t) (i:t.1=3): ∃ n:Nat,(n:Int)<=2147483647/\Lib.atoiAll t.2.1=.ok n/\Lib.itoa n=t.2.1:=by
 obtain⟨h1,h2⟩:=h;cases hs:t.2.1 with
 |nil=>exact absurd hs h1
 |cons b r =>
  rw[hs,i] at h2;unfold Lx.tok at h2;simp only at h2;split at h2
  ·rename_i l;simp only[Prod.mk.injEq] at h2
   have:=h2.1;unfold Lx.Z0x at this;split at this
   ·cases this
   split at this
   ·cases this
   split at this<;>cases this
  split at h2
  ·rename_i g;simp only[Prod.mk.injEq] at h2;rw[h2.2.1] at h2;have c:=h2.2.2;unfold Lx.Z9o at c;split at c
   ·rename_i n k;split at c
    ·cases c
    rename_i j;split at c
    ·rename_i hi;have e:0<=n:=by
      apply Classical.byContradiction;intro f;have:(Lib.itoa n).head? = some 45:=by
       unfold Lib.itoa;rw[if_pos (by omega)];rfl
      rw[hi] at this;simp only[List.head?_cons,Option.some.injEq] at this;subst this;exact absurd g (by decide)
     obtain⟨m,rfl⟩:=Int.eq_ofNat_of_zero_le e;exact⟨m,by omega,k,hi⟩
    ·cases c
   ·cases c
  split at h2<;>cases h2
def Sh (t:Tm):Prop:=t.all Tm.shape=true
def Vd (t:Tm):Prop:=t.valid=true
def TV (t:Tm):Prop:=t=z0\/Vd t
theorem ZhC {l:List Tm}:Tm.allL Tm.shape l=true ↔ ∀ x∈l,Sh x:=by
 induction l with
 |nil=>simp[Tm.allL]
 |cons a r b=>simp[Tm.allL,b,Sh]
theorem Z43 {k:Nat} {n:Int} {s:List UInt8} {l:List Tm}:Sh (.mk k n s l) ↔ Qz k n s l.length=true/\ ∀ x∈l,Sh x:=by
 unfold Sh;rw[Tm.all,Bool.and_eq_true,ZhC];rfl
theorem Zd7 {α:Type} {P:α->Prop} {c:Nat} {e:List UInt8} {b:Nat->PR α} (f: ∀ k,VP P (b k)): ∀ (n:Nat) (out:List α) (i:Nat),(∀ x∈out,P x)->VP (λl=>(∀ x∈l,P x)/\l.length<=c/\l≠[]) (Z13 ts c e b n out i)
 |0,_,_,_=>trivial
 |n+1,out,i,g=>by
  unfold Z13;refine VP.ite (λ_=>trivial) λhm=>(f i).bind λa j _ ha=>?_;have h2: ∀ x∈out++[a],P x:=λx hx=>by
   rcases List.mem_append.1 hx with h|h
   ·exact g x h
   ·rw[List.mem_singleton.1 h];exact ha
  refine VP.ite (λ_=>Zd7 f n _ _ h2) λ_=>⟨h2,by simp;omega,by simp⟩
theorem Z3X {α:Type} {P:α->Prop} {c:Nat} {e:List UInt8} {b:Nat->PR α} (f: ∀ k,VP P (b k)) (i:Nat):VP (λl=>(∀ x∈l,P x)/\l.length<=c/\l≠[]) (Q9 ts c e b i):=Zd7 f _ [] i (by simp)
theorem Zbn {i:Nat} {l:List (List UInt8)} (h:Z1 ts i l=true):(Zg ts i).2.1∈l:=by
 simp only[Z1,Bool.and_eq_true,List.contains_iff_mem] at h;exact h.2
theorem ZkF {s:List UInt8} {t u:Tm} (hs:s=[43]\/s=[45]\/s=[42]\/s=[47]\/s=[92]) (b:Sh t) (c:Sh u):Sh (.mk 5 0 s [t,u]):=by
 refine Z43.2 ⟨?_,by simp[b,c]⟩;rcases hs with rfl|rfl|rfl|rfl|rfl<;>rfl
theorem Z8q {b:Nat->PR Tm} {ops:List (List UInt8)} (c: ∀ k,VP Sh (b k)) (e: ∀ s∈ops,s=[43]\/s=[45]\/s=[42]\/s=[47]\/s=[92]): ∀ (n:Nat) (t:Tm) (i:Nat),Sh t->VP Sh (Z0v ts b ops n t i)
 |0,_,_,_=>trivial
 |n+1,t,i,f=>by
  unfold Z0v;refine VP.ite (λhs=>(c _).bind λu j _ g=>Z8q c e n _ j (ZkF (e _ (Zbn hs)) f g)) λ_=>f
theorem Z6p {b:Nat->PR Tm} {ops:List (List UInt8)} (c: ∀ k,VP Sh (b k)) (e: ∀ s∈ops,s=[43]\/s=[45]\/s=[42]\/s=[47]\/s=[92]) (i:Nat):VP Sh (Z0b ts b ops i) :=
 (c i).bind λt j _ f=>Z8q c e _ _ _ f
theorem Zhq {f:Nat->PR Tm} (b: ∀ k,VP Sh (f k)) (i:Nat):VP Sh (Z4B ts f i) :=
 Z6p (λk=>Z6p b (by decide) k) (by decide) i
theorem Z6m {f:Nat->PR Tm} (b: ∀ k,VP Sh (f k)) (i:Nat):VP Sh (ZP ts f i) :=
 (Zhq b i).bind λt j _ c=>VP.ite (λ_=>(Zhq b _).bind λu k _ e=>Z43.2 ⟨rfl,by simp[c,e]⟩) λ_=>c
def Nd (t:Tm):Prop:=Sh t/\(kT t=2\/kT t=4)
theorem Z4d {k:Int} {i j:Nat} {s:List UInt8} (h:Zv ts k i=.ok s j):(Zg ts i).1=k/\s=(Zg ts i).2.1:=by
 unfold Zv at h;split at h
 ·cases h;exact⟨by assumption,rfl⟩
 ·cases h
include H
theorem Z8n {f:Nat->PR Tm} (c: ∀ k,VP Sh (f k)) (i:Nat):VP Nd (ZZ ts f i):=by
 unfold ZZ;refine (VP.any _).bind λs j hx _=>?_;obtain⟨b,rfl⟩:=Z4d hx;have hs:=Z8l (Z2v H (by rw[b];decide)) b;refine VP.ite (λ_=>(Z3X c _).bind λl k _ hl=>(VP.any _).bind λ_ m _ _=>⟨Z43.2 ⟨?_,hl.1⟩,.inr rfl⟩) λ_=>⟨Z43.2 ⟨?_,by simp⟩,.inl rfl⟩
 ·have h1:1<=l.length:=by have:=List.length_pos_iff.2 hl.2.2;omega
  simp[Qz,hs,hl.2.1,h1]
 ·simp[Qz,hs]
theorem Z5H {i:Nat} {v:Int} {j:Nat} (h:Z1J ts i=.ok v j):0<=v/\v<=2147483647:=by
 unfold Z1J at h;cases hx:Zv ts 3 i with
 |bad a e=>rw[hx] at h;cases h
 |ok s k =>
  rw[hx] at h;cases h;obtain⟨b,rfl⟩:=Z4d hx;obtain⟨n,h1,h2,_⟩:=ZdQ (Z2v H (by rw[b];decide)) b;unfold Zl4;rw[h2];exact⟨by simp,h1⟩
omit H in
theorem Z8J {v:Int} (h1: -2147483647<=v) (h2:v<=2147483647):Sh (.mk 1 v [] []):=Z43.2 ⟨by simp[Qz,h1,h2],by simp⟩
theorem Z1x: ∀ (n i:Nat),VP Sh (Zj ts n i)
 |0,_=>trivial
 |n+1,i=>by
  unfold Zj;refine VP.ite (λ_=>(VP.any _).bind λv j hx _=>?_) λ_=>VP.ite (λ_=>(VP.any _).bind λs j hx _=>?_) λ_=>VP.ite (λ_=>(Z6m (Z1x n) _).bind λt j _ b=>(VP.any _).bind λ_ k _ _=>b) λ_=>VP.ite (λ_=>VP.ite (λ_=>(VP.any _).bind λv j hx _=>?_) λ_=>(Z1x n _).bind λt j _ b=>Z43.2 ⟨rfl,by simp[b]⟩) λ_=>(Z8n H (Z6m (Z1x n)) i).mono λt b=>b.1
  ·have:=Z5H H hx;exact Z8J (by omega) this.2
  ·obtain⟨c,rfl⟩:=Z4d hx;exact Z43.2 ⟨by simp[Qz,ZdP (Z2v H (by rw[c];decide)) c],by simp⟩
  ·have:=Z5H H hx;exact Z8J (by omega) (by omega)
theorem Z5j (i:Nat):VP Sh (Zq ts (fu ts) i):=Z6m (Z1x H _) i
theorem Z6n (i:Nat):VP Nd (Q2 ts (fu ts) i):=Z8n H (Z6m (Z1x H _)) i
omit H in
theorem Z8o {t:Tm} (c:Sh t) (b at' j:Nat):VP (λu=>u=t/\t.depth<=b) (ZH t b at' j):=by
 unfold ZH;exact VP.ite (λ_=>trivial) λh=>⟨rfl,by omega⟩
omit H in
theorem Zbb {t:Tm} (h:Sh t) (b:t.depth<=12):Vd t:=by
 unfold Vd Tm.valid;simp[b];exact h
theorem Z2D (i:Nat):VP Vd (Z7 ts i):=(Z5j H i).bind λt j _ b=>(Z8o b 12 i j).mono λu c=>by obtain⟨rfl,h⟩:=c;exact Zbb b h
def AmV (a:Am):Prop:=Lx.ZM a.1=true/\a.2.length<=8/\ ∀ x∈a.2,Vd x
omit H in
theorem Z7X {l:List Tm} {x:Tm} (h:x∈l):x.depth<=Tm.depthL l:=by
 induction l with
 |nil=>cases h
 |cons a r b =>
  rw[Tm.depthL];rcases List.mem_cons.1 h with rfl|h
  ·exact Nat.le_max_left _ _
  ·exact Nat.le_trans (b h) (Nat.le_max_right _ _)
omit H in
theorem Z6r {t:Tm} (c:Nd t) (at' j:Nat):VP AmV (ZA t at' j):=by
 unfold ZA;refine (Z8o c.1 13 at' j).bind λu k _ f=>?_;obtain⟨rfl,e⟩:=f;obtain⟨hs,b⟩:=c;cases u with
 |mk k n s l =>
  obtain⟨h1,h2⟩:=Z43.1 hs;rw[Tm.depth] at e;have hv: ∀ x∈l,Vd x:=λx hx=>Zbb (h2 x hx) (by have:=Z7X hx;omega);rcases b with b|b<;>(change k=_ at b;subst b)<;>simp[Qz] at h1
  ·exact⟨h1.1.2,by show l.length<=8;simp[h1.2],hv⟩
  ·exact⟨h1.1.1.2,by show l.length<=8;omega,hv⟩
theorem Z8r (i:Nat):VP AmV (QO ts i):=(Z6n H i).bind λt j _ b=>Z6r b i j
theorem Z6o (ends:List (List UInt8)) (i:Nat):VP (λx=>(x.2.2=true->AmV x.1)/\(x.2.2≠true->Vd x.2.1)) (Z6 ts ends i):=by
 unfold Z6;refine (Z5j H i).bind λt j _ b=>VP.ite (λ_=>(Z8o b 12 i j).bind λu k _ f=>?_) λ_=>VP.ite (λ_=>(VP.any _).bind λ_ _ _ _=>trivial) λe=>?_
 ·obtain⟨rfl,c⟩:=f;exact⟨nofun,λ_=>Zbb b c⟩
 ·exact (Z6r ⟨b,by have:=not_or.1 e;have:=this.2;omega⟩ i j).bind λa k _ ha=>⟨λ_=>ha,λh=>absurd rfl h⟩
def LtF (l:Lt):Prop:=l.k=1/\Lx.ZM l.p=true/\l.a.length<=8\/l.k=2/\l.no=false/\1<=l.op/\l.op<=6
def LtT (l:Lt):Prop:=TV l.l/\TV l.r/\(∀ x∈l.a,TV x)/\l.a.length<=8
def LtV (l:Lt):Prop:=LtF l/\LtT l
omit H in
theorem Z0O:TV z0:=.inl rfl
omit H in
theorem Zda (i:Nat):VP (λop=>1<=op/\op<=6/\(op=2->(Zg ts i).2.1=[33,61]/\(Zg ts i).1=6)) (Zc ts i):=by
 unfold Zc;refine VP.ite (λ_=>trivial) λh=>?_;have h2:=not_or.1 h;generalize (Zg ts i).2.1=s at *
 simp only[cmpL,idxS] at *
 have b:(Zg ts i).1=6:=by have:=h2.2;omega
 show _/\_/\_;have h1:=h2.1;revert h1;repeat' split
 all_goals first|(intro _;simp_all;done)|(intro h;exfalso;revert h;decide)|(intro _;subst_vars;refine⟨by decide,by decide,?_⟩;intro hh;first|exact⟨rfl,b⟩|(exfalso;revert hh;decide))
theorem Z4x (no:Bool) (i:Nat):VP LtV (Zm ts no i):=by
 unfold Zm;refine VP.ite (λ_=>(Z8r H i).bind λa j _ ha=>⟨.inl ⟨rfl,ha.1,ha.2.1⟩,Z0O,Z0O,λx hx=>.inr (ha.2.2 x hx),ha.2.1⟩) λ_=>(Z6o H cmpL i).bind λx j _ hx=>VP.ite (λh=>?_) λh=>?_
 ·have ha:=hx.1 h;exact⟨.inl ⟨rfl,ha.1,ha.2.1⟩,Z0O,Z0O,λx hx=>.inr (ha.2.2 x hx),ha.2.1⟩
 ·have c:=hx.2 h;exact (Zda j).bind λop k _ b=>(Z2D H k).bind λr m _ hr=>⟨.inr ⟨rfl,rfl,b.1,b.2.1⟩,.inr c,.inr hr,nofun,Nat.zero_le _⟩
theorem Zky (i:Nat):VP LtV (Z1R ts i):=Z4x H _ _
def CdV (l:List Lt):Prop:=(∀ x∈l,LtV x)/\l.length<=64
omit H in
theorem Z37:CdV []:=⟨nofun,by decide⟩
theorem Z3t (i:Nat):VP CdV (Q7 ts i):=by
 unfold Q7;exact VP.ite (λ_=>(Z3X (Zky H) _).mono λl hl=>⟨hl.1,hl.2.1⟩) λ_=>Z37
def TuV (l:List Tm):Prop:=(∀ x∈l,Vd x)/\l.length<=64
theorem Z5h (i:Nat):VP (λl=>TuV l/\l≠[]) (ZT ts i):=(Z3X (Z2D H) i).mono λl hl=>⟨⟨hl.1,hl.2.1⟩,hl.2.2⟩
omit H in
theorem Z6q {α:Type} {P:α->Prop} {b:Nat->PR α} (c: ∀ k,VP P (b k)) (i:Nat):VP (λl=>(∀ x∈l,P x)/\l.length<=64/\l≠[]) (Zp ts b i) :=
 (VP.any _).bind λ_ j _ _=>(Z3X c _).bind λl k _ hl=>(VP.any _).bind λ_ m _ _=>hl
def ElV (e:El):Prop:=TuV e.t/\e.t≠[]/\CdV e.c
theorem Zhu (i:Nat):VP ElV (QS ts i):=(Z5h H i).bind λl j _ hl=>(Z3t H j).bind λc k _ hc=>⟨hl.1,hl.2,hc⟩
def BoV (b:Bo):Prop:=TV b.b/\LtT b.l/\CdV b.c/\((∀ e∈b.e,ElV e)/\b.e.length<=64) ∧
 (b.k=3/\1<=b.f/\b.f<=2/\1<=b.op/\b.op<=6/\b.op≠2/\b.e≠[]/\b.e.length<=64/\kT b.b≠0 ∨
  LtF b.l/\b.no=false/\(b.k=1/\b.c=[]\/b.k=2/\b.c≠[]))
omit H in
theorem vd_k {t:Tm} (h:Vd t):kT t≠0:=by
 cases t with
 |mk k n s l =>
  intro b;change k=0 at b;subst b;simp only[Vd,Tm.valid,Bool.and_eq_true,Tm.all,Tm.shape] at h
  have:=h.2.1;simp[Qz] at this
omit H in
theorem Zl7:LtT zL:=⟨Z0O,Z0O,nofun,Nat.zero_le _⟩
theorem Z5k (no:Bool) (i:Nat):VP BoV (Zb ts no i):=by
 unfold Zb;refine VP.bind (P:=λf=>1<=f/\f<=2) (VP.ite (λ_=>⟨by decide,by decide⟩) λ_=>(VP.any _).bind λ_ j _ _=>⟨by decide,by decide⟩) λfn j _ hf=>?_;refine (Z6q (Zhu H) j).bind λes k _ c=>VP.ite (λ_=>trivial) λhs=>(Zda k).bind λop m _ e=>(Z2D H m).bind λb o _ g=>⟨.inr g,Zl7,Z37,⟨c.1,c.2.1⟩,.inl ⟨rfl,hf.1,hf.2,e.1,e.2.1,λh2=>hs ?_,c.2.2,c.2.1,vd_k g⟩⟩;obtain⟨h,l⟩:=e.2.2 h2;simp[Z1,h,l]
theorem Z8p (i:Nat):VP BoV (Zf ts i):=by
 unfold Zf;refine VP.ite (λ_=>Z5k H _ _) λ_=>(Z4x H _ _).bind λl j _ hl=>(Z3t H j).bind λc k _ hc=>⟨Z0O,hl.2,hc,⟨nofun,Nat.zero_le _⟩,.inr ⟨hl.1,rfl,?_⟩⟩;by_cases h:c=[]
 ·exact .inl ⟨by simp[h],h⟩
 ·exact .inr ⟨by simp[h],h⟩
theorem Z3Y: ∀ (n:Nat) (out:List Bo) (i:Nat),(∀ x∈out,BoV x)->VP (λl=>(∀ x∈l,BoV x)/\l.length<=64) (Z0N ts n out i)
 |0,_,_,_=>trivial
 |n+1,out,i,f=>by
  unfold Z0N;refine VP.ite (λ_=>trivial) λhm=>(Z8p H i).bind λb j _ e=>?_;have h2: ∀ x∈out++[b],BoV x:=λx hx=>by
   rcases List.mem_append.1 hx with h|h
   ·exact f x h
   ·rw[List.mem_singleton.1 h];exact e
  have c:(out++[b]).length<=64:=by simp;omega
  exact VP.ite (λ_=>Z3Y n _ _ h2) λ_=>VP.ite (λ_=>⟨h2,c⟩) λ_=>VP.ite (λ_=>Z3Y n _ _ h2) λ_=>⟨h2,c⟩
def BdV (l:List Bo):Prop:=(∀ x∈l,BoV x)/\l.length<=64
theorem Zdb (i:Nat):VP BdV (ZL ts i):=Z3Y H 65 [] i nofun
omit H in
theorem Z3e:BdV []:=⟨nofun,by decide⟩
def HeV (h:He):Prop:=Lx.ZM h.p=true/\h.a.length<=8/\(∀ x∈h.a,TV x)/\CdV h.c
structure RuV (r:Ru):Prop where
 k:1<=r.k/\r.k<=3
 lo:TV r.lo
 up:TV r.up
 w:TV r.w
 lv:TV r.lv
 t:TuV r.t
 h: ∀ x∈r.h,HeV x
 hl:r.h.length<=64
 b:BdV r.b
 k3:r.k=3->r.h=[]/\kT r.w≠0/\kT r.lv≠0
 k2:r.k=2->r.h≠[]
 k1:r.k=1-> ∀ x∈r.h,x.c=[]
omit H in
theorem Z5m:TuV []:=⟨nofun,by decide⟩
theorem ZdR (i:Nat):VP HeV (Z0t ts i):=(Z8r H i).bind λa j _ ha=>(Z3t H j).bind λc k _ hc=>⟨ha.1,ha.2.1,λx hx=>.inr (ha.2.2 x hx),hc⟩
theorem Zbe {lo:Tm} (b:TV lo) (i:Nat):VP RuV (Zd ts lo i):=by
 unfold Zd;refine (Z6q (ZdR H) i).bind λhs j _ hh=>?_;have mk: ∀ u,TV u->RuV {zR with k:=2,lo:=lo,h:=hs,up:=u}:=λu c=>⟨⟨by dsimp only;decide,by dsimp only;decide⟩,b,c,Z0O,Z0O,Z5m,hh.1,hh.2.1,Z3e,nofun,λ_=>hh.2.2,nofun⟩;exact VP.ite (λ_=>mk z0 Z0O) λ_=>(Z2D H j).bind λu k _ c=>mk u (.inr c)
theorem Zd8: ∀ (n:Nat) (out:List He) (i:Nat),(∀ x∈out,HeV x/\x.c=[])->out.length<=64->VP (λl=>(∀ x∈l,HeV x/\x.c=[])/\l.length<=64) (Z1O ts n out i)
 |0,_,_,_,_=>trivial
 |n+1,out,i,b,hl=>by
  unfold Z1O;refine VP.ite (λ_=>VP.ite (λ_=>trivial) λhm=>(Z8r H _).bind λa j _ ha=>Zd8 n _ j (λx hx=>?_) (by simp;omega)) λ_=>⟨b,hl⟩;rcases List.mem_append.1 hx with h|h
  ·exact b x h
  ·rw[List.mem_singleton.1 h];exact⟨⟨ha.1,ha.2.1,λx hx=>.inr (ha.2.2 x hx),Z37⟩,rfl⟩
theorem Zht (i:Nat):VP (λr=>RuV r/\r.k≠3) (ZJ ts i):=by
 unfold ZJ;have hc: ∀ {lo:Tm},TV lo-> ∀ i,VP (λr=>RuV r/\r.k≠3) (Zd ts lo i):=λ{lo} b i=>by
  have:=Zbe H b i;cases hx:Zd ts lo i with
  |bad a e=>trivial
  |ok r j =>
   rw[hx] at this;refine⟨this,?_⟩;unfold Zd at hx;cases h1:Zp ts (Z0t ts) i with
   |bad a e=>rw[h1] at hx;cases hx
   |ok hs k =>
    rw[h1] at hx;simp only[PR.bind] at hx;split at hx
    ·cases hx;dsimp only;decide
    ·cases h2:Z7 ts k with
     |bad a e=>rw[h2] at hx;cases hx
     |ok u m=>rw[h2] at hx;cases hx;dsimp only;decide
 have mk: ∀ hs:List He,(∀ x∈hs,HeV x/\x.c=[])->hs.length<=64->RuV {zR with k:=1,h:=hs}:=λhs h1 h2=>⟨⟨by dsimp only;decide,by dsimp only;decide⟩,Z0O,Z0O,Z0O,Z0O,Z5m,λx hx=>(h1 x hx).1,h2,Z3e,nofun,nofun,λ_ x hx=>(h1 x hx).2⟩;refine VP.ite (λ_=>hc Z0O i) λ_=>VP.ite (λ_=>⟨mk [] nofun (by decide),by dsimp only;decide⟩) λ_=>(Z6o H _ i).bind λx j _ hx=>VP.ite (λh=>?_) λh=>hc (.inr (hx.2 h)) j;have ha:=hx.1 h;refine (Zd8 H 65 _ j (λy c=>?_) (by simp)).bind λhs k _ hh=>⟨mk hs hh.1 hh.2,by dsimp only;decide⟩;rw[List.mem_singleton.1 c];exact⟨⟨ha.1,ha.2.1,λx hx=>.inr (ha.2.2 x hx),Z37⟩,rfl⟩
theorem Zd9 (i:Nat):VP (λr=>RuV r/\r.k=3/\r.b=[]) (Zr ts i):=by
 unfold Zr;refine (Z2D H i).bind λw j _ b=>VP.bind (P:=Vd) (VP.ite (λ_=>Z2D H _) λ_=>Zbb (Z8J (by decide) (by decide)) (by decide)) λlv k _ hv=>VP.bind (P:=TuV) (VP.ite (λ_=>(Z5h H _).mono λl hl=>hl.1) λ_=>Z5m) λe m _ c=>⟨⟨⟨by dsimp only;decide,by dsimp only;decide⟩,Z0O,Z0O,.inr b,.inr hv,c,nofun,(by dsimp only;decide),Z3e,λ_=>⟨rfl,vd_k b,vd_k hv⟩,nofun,nofun⟩,rfl,rfl⟩
omit H in
theorem Z47 {r:Ru} (h:RuV r) {b:List Bo} (c:BdV b):RuV {r with b:=b}:=⟨h.k,h.lo,h.up,h.w,h.lv,h.t,h.h,h.hl,c,h.k3,h.k2,h.k1⟩
theorem Zhp (i:Nat):VP RuV (Qt ts i):=by
 unfold Qt;exact (VP.any _).bind λ_ j _ _=>VP.bind (P:=BdV) (VP.ite (λ_=>Z3e) λ_=>Zdb H j) λb k _ c=>(VP.any _).bind λ_ m _ _=>(VP.any _).bind λ_ o _ _=>(Zd9 H o).bind λr p _ hr=>(VP.any _).bind λ_ q _ _=>Z47 hr.1 c
theorem Zhs (i:Nat):VP RuV (Zy ts i):=by
 unfold Zy;exact VP.ite (λ_=>Zhp H i) λ_=>(Zht H i).bind λr j _ hr=>VP.bind (P:=BdV) (VP.ite (λ_=>Zdb H _) λ_=>Z3e) λb k _ c=>(VP.any _).bind λ_ m _ _=>Z47 hr.1 c
structure AcV (a:Ac):Prop where
 r: ∀ x∈a.r,RuV x
 rl:a.r.length<=400
 c: ∀ x∈a.c,Lx.ZM x.n=true/\Vd x.v
 cl:a.c.length<=400
 sl:a.s.length<=400
 so:a.s≠[]->a.so=true
omit H in
theorem Z0D {n i j:Nat} {u:Unit} (h:Ze n i=.ok u j):n<400:=by
 unfold Ze at h;split at h
 ·cases h
 ·omega
theorem Z7n {a:Ac} (ha:AcV a) (i:Nat):VP AcV (Qr ts a i):=by
 unfold Qr;refine (VP.any _).bind λ_ i hm _=>(VP.any _).bind λ_ j _ _=>(VP.any _).bind λn k c _=>(VP.any _).bind λ_ m _ _=>(Z2D H m).bind λv o _ hv=>(VP.any _).bind λ_ p _ _=>?_;have hm:=Z0D hm;obtain⟨b,rfl⟩:=Z4d c;refine⟨ha.r,ha.rl,λx hx=>?_,by simp;omega,ha.sl,ha.so⟩;rcases List.mem_append.1 hx with h|h
 ·exact ha.c x h
 ·rw[List.mem_singleton.1 h];exact⟨Z8l (Z2v H (by rw[b];decide)) b,hv⟩
omit H in
theorem Zhr {a:Ac} (ha:AcV a) (i:Nat):VP AcV (Z1X ts a i):=by
 unfold Z1X;refine (VP.any _).bind λ_ i hm _=>(VP.any _).bind λ_ j _ _=>VP.bind (P:=AcV) (VP.ite (λ_=>⟨ha.r,ha.rl,ha.c,ha.cl,ha.sl,λ_=>rfl⟩) λ_=>(VP.any _).bind λn k _ _=>(VP.any _).bind λ_ m _ _=>(VP.any _).bind λv o _ _=>?_) λb p _ c=>(VP.any _).bind λ_ q _ _=>c;have hm:=Z0D hm;exact⟨ha.r,ha.rl,ha.c,ha.cl,by simp;omega,λ_=>rfl⟩
theorem Zd6: ∀ (n:Nat) (rs:List Ru) (i:Nat),(∀ x∈rs,RuV x)->VP (λl=>(∀ x∈l,RuV x)/\l.length<=400) (QG ts n rs i)
 |0,_,_,_=>trivial
 |n+1,rs,i,e=>by
  unfold QG;refine (VP.any _).bind λ_ i hm _=>(Zd9 H i).bind λr j _ hr=>(Z3t H j).bind λl k _ hl=>?_;have hm:=Z0D hm;have c:BdV (l.map λx=>(⟨1,x,[],false,0,[],0,z0⟩:Bo)):=⟨λb c=>by
   obtain⟨x,hx,rfl⟩:=List.mem_map.1 c;exact⟨Z0O,(hl.1 x hx).2,Z37,⟨nofun,Nat.zero_le _⟩,.inr ⟨(hl.1 x hx).1,rfl,.inl ⟨rfl,rfl⟩⟩⟩,by simpa using hl.2⟩
  have h2: ∀ x∈rs++[{r with b:=l.map λx=>(⟨1,x,[],false,0,[],0,z0⟩:Bo)}],RuV x:=λx hx=>by
   rcases List.mem_append.1 hx with h|h
   ·exact e x h
   ·rw[List.mem_singleton.1 h];exact Z47 hr.1 c
  exact VP.ite (λ_=>Zd6 n _ _ h2) λ_=>⟨h2,by simp;omega⟩
theorem Z7m {a:Ac} (ha:AcV a) (i:Nat):VP AcV (Qp ts a i):=by
 unfold Qp;exact (VP.any _).bind λ_ j _ _=>(VP.any _).bind λ_ k _ _=>(Zd6 H 401 a.r k ha.r).bind λrs m _ hr=>(VP.any _).bind λ_ o _ _=>(VP.any _).bind λ_ p _ _=>⟨hr.1,hr.2,ha.c,ha.cl,ha.sl,ha.so⟩
theorem Z5i {a:Ac} (ha:AcV a) (i:Nat):VP AcV (Zz ts a i):=by
 unfold Zz;refine VP.ite (λ_=>Z7n H ha i) λ_=>VP.ite (λ_=>Zhr ha i) λ_=>VP.ite (λ_=>Z7m H ha i) λ_=>(VP.any _).bind λ_ i hm _=>(Zhs H i).bind λr j _ hr=>?_;have hm:=Z0D hm;refine⟨λx hx=>?_,by simp;omega,ha.c,ha.cl,ha.sl,ha.so⟩;rcases List.mem_append.1 hx with h|h
 ·exact ha.r x h
 ·rw[List.mem_singleton.1 h];exact hr
theorem Zd5: ∀ (n:Nat) (a:Ac) (i:Nat),AcV a->VP AcV (Z1I ts n a i)
 |0,_,_,_=>trivial
 |n+1,a,i,ha=>by
  unfold Z1I;exact VP.ite (λ_=>(Z5i H ha i).bind λb j _ c=>Zd5 n b j c) λ_=>ha
theorem Z8m:VP AcV (Qi ts):=Zd5 H _ _ _ ⟨nofun,by decide,nofun,by decide,by decide,nofun⟩
end
theorem Z4u {f:UInt8->Bool} {s:List UInt8} (h:Lx.Z1S f s=true):s.length<=32:=by
 unfold Lx.Z1S at h;split at h
 ·cases h
 ·simp only[Bool.and_eq_true,decide_eq_true_eq] at h;exact h.2
theorem Z0A {s:List UInt8} (h:Lx.ZM s=true):s.length<=32:=by
 simp only[Lx.ZM,Bool.and_eq_true] at h;exact Z4u h.1
theorem Z3W {s:List UInt8} (h:Lx.ZW s=true):s.length<=32:=by
 simp only[Lx.ZW,Bool.or_eq_true] at h;rcases h with h|h
 ·exact Z4u h
 ·split at h
  ·simp only[Bool.and_eq_true,decide_eq_true_eq] at h;exact h.2
  ·cases h
theorem Z8I {k:Nat} {n:Int} {s:List UInt8} {m:Nat} (h:Qz k n s m=true):k<=255/\ -9223372036854775808<=n/\n<=9223372036854775807/\s.length<=32/\m<=8:=by
 unfold Qz at h;split at h
 ·rename_i b;simp only[Bool.and_eq_true,decide_eq_true_eq] at h;obtain⟨⟨⟨h1,h2⟩,rfl⟩,rfl⟩:=h;refine⟨by omega,by omega,by omega,by simp,by omega⟩
 split at h
 ·rename_i b;simp only[Bool.and_eq_true,decide_eq_true_eq] at h;obtain⟨⟨rfl,h1⟩,rfl⟩:=h;exact⟨by omega,by omega,by omega,Z0A h1,by omega⟩
 split at h
 ·rename_i b;simp only[Bool.and_eq_true,decide_eq_true_eq] at h;obtain⟨⟨rfl,h1⟩,rfl⟩:=h;exact⟨by omega,by omega,by omega,Z3W h1,by omega⟩
 split at h
 ·rename_i b;simp only[Bool.and_eq_true,decide_eq_true_eq] at h;obtain⟨⟨⟨rfl,h1⟩,_⟩,h2⟩:=h;exact⟨by omega,by omega,by omega,Z0A h1,h2⟩
 split at h
 ·rename_i b;simp only[Bool.and_eq_true,Bool.or_eq_true,decide_eq_true_eq] at h;obtain⟨⟨rfl,h1⟩,h2⟩:=h;refine⟨by omega,by omega,by omega,?_,by omega⟩;rcases h1 with (((rfl|rfl)|rfl)|rfl)|rfl<;>decide
 split at h
 ·rename_i b;simp only[Bool.and_eq_true,decide_eq_true_eq] at h;obtain⟨⟨rfl,rfl⟩,rfl⟩:=h;exact⟨by omega,by omega,by omega,by simp,by omega⟩
 ·cases h
mutual
theorem Ze8: ∀ t:Tm,Sh t->t.wf 281474976710656
 |.mk k n s l,h=>by
  obtain⟨h1,h2⟩:=Z43.1 h;obtain⟨b,c,e,f,g⟩:=Z8I h1;exact⟨b,c,e,by omega,by omega,Zdg l h2⟩
theorem Zdg: ∀ l:List Tm,(∀ x∈l,Sh x)->Tm.wfL 281474976710656 l
 |[],_=>trivial
 |a::r,h=>⟨Ze8 a (h a (by simp)),Zdg r λx hx=>h x (by simp[hx])⟩
end
def DP (i:Nat):PR Tm->Prop
 |.ok t j=>t.depth+i<=j
 |.bad _ _=>True
theorem DP.bind {α:Type} {i:Nat} {x:PR α} {f:α->Nat->PR Tm} (k: ∀ a j,x=.ok a j->DP i (f a j)):DP i (x.bind f):=by
 cases x with
 |ok a j=>exact k a j rfl
 |bad a e=>trivial
theorem DP.of {i:Nat} {x:PR Tm} (h:DP i x) {t:Tm} {j:Nat} (hx:x=.ok t j):t.depth+i<=j:=by subst hx;exact h
theorem DP.ite {i:Nat} {c:Prop} [Decidable c] {x y:PR Tm} (h1:c->DP i x) (h2: ¬ c->DP i y):DP i (if c then x else y):=by
 split
 ·rename_i h;exact h1 h
 ·rename_i h;exact h2 h
theorem Zds (k:Nat) (n:Int) (s:List UInt8) (t u:Tm):(Tm.mk k n s [t,u]).depth=max t.depth u.depth+1:=by
 simp only[Tm.depth,Tm.depthL];have:Nat.max t.depth (Nat.max u.depth 0)=max t.depth u.depth:=by
  show max t.depth (max u.depth 0)=_;omega
 rw[this]
theorem Zjt (k:Nat) (n:Int) (s:List UInt8) (t:Tm):(Tm.mk k n s [t]).depth=t.depth+1:=by
 simp only[Tm.depth,Tm.depthL];have:Nat.max t.depth 0=t.depth:=by show max t.depth 0=_;omega
 rw[this]
section
variable {ts:List Tk}
theorem Z2u {k:Int} {i j:Nat} {s:List UInt8} (h:Zv ts k i=.ok s j):j=i+1:=by
 unfold Zv at h;split at h<;>cases h;rfl
theorem Z6K {t:List UInt8} {i j:Nat} {u:Unit} (h:Z0 ts t i=.ok u j):j=i+1:=by
 unfold Z0 at h;split at h<;>cases h;rfl
theorem Z9n {i j:Nat} {v:Int} (h:Z1J ts i=.ok v j):j=i+1:=by
 unfold Z1J at h;cases hx:Zv ts 3 i with
 |bad a e=>rw[hx] at h;cases h
 |ok s k=>rw[hx] at h;cases h;exact Z2u hx
theorem Zac {b:Nat->PR Tm} {ops:List (List UInt8)} {i0:Nat} (c: ∀ k,i0<=k->DP k (b k)): ∀ (n:Nat) (t:Tm) (i:Nat),i0+t.depth<=i->DP i0 (Z0v ts b ops n t i)
 |0,_,_,_=>trivial
 |n+1,t,i,h=>by
  unfold Z0v;refine DP.ite (λ_=>DP.bind λu j e=>?_) λ_=>by show _<=_;omega
  have:=(c (i+1) (by omega)).of e;exact Zac c n _ j (by rw[Zds];omega)
theorem Z72 {b:Nat->PR Tm} {ops:List (List UInt8)} {i0:Nat} (c: ∀ k,i0<=k->DP k (b k)) {i:Nat} (h:i0<=i):DP i (Z0b ts b ops i):=by
 unfold Z0b;refine DP.bind λt j e=>?_
 have:=(c i h).of e;exact Zac (i0:=i) (λk f=>c k (by omega)) _ _ _ (by omega)
theorem Zjv {f:Nat->PR Tm} {i0:Nat} (b: ∀ k,i0<=k->DP k (f k)) {i:Nat} (h:i0<=i):DP i (Z4B ts f i):=Z72 (λk c=>Z72 b c) h
theorem Zaa {f:Nat->PR Tm} {i0:Nat} (b: ∀ k,i0<=k->DP k (f k)) {i:Nat} (h:i0<=i):DP i (ZP ts f i):=by
 unfold ZP;refine DP.bind λt j c=>?_;have h1:=(Zjv b h).of c;refine DP.ite (λ_=>DP.bind λu k e=>?_) λ_=>h1;have h2:=(Zjv (ts:=ts) b (i:=j+1) (by omega)).of e;show _<=_;rw[Zds];omega
theorem Zdt {c:Nat} {f:List UInt8} {b:Nat->PR Tm} {i0:Nat} (g: ∀ k,i0<=k->DP k (b k)): ∀ (n:Nat) (out:List Tm) (i:Nat),i0<=i->(∀ x∈out,x.depth+i0<=i)-> ∀ l j,Z13 ts c f b n out i=.ok l j->i<=j/\ ∀ x∈l,x.depth+i0<=j
 |0,_,_,_,_,_,_,h=>by cases h
 |n+1,out,i,hi,m,l,j,h=>by
  unfold Z13 at h;split at h
  ·cases h
  cases hx:b i with
  |bad a e=>rw[hx] at h;cases h
  |ok t k =>
   rw[hx] at h;simp only[PR.bind] at h;have h1:=(g i hi).of hx;have h2: ∀ x∈out++[t],x.depth+i0<=k:=λx hx=>by
    rcases List.mem_append.1 hx with h|h
    ·have:=m x h;omega
    ·rw[List.mem_singleton.1 h];omega
   split at h
   ·have:=Zdt g n _ (k+1) (by omega) (λx hx=>by have:=h2 x hx;omega) l j h;exact⟨by omega,this.2⟩
   ·cases h;exact⟨by omega,h2⟩
theorem Za7 {l:List Tm} {n:Nat} (h: ∀ x∈l,x.depth<=n):Tm.depthL l<=n:=by
 induction l with
 |nil=>exact Nat.zero_le _
 |cons a r b=>rw[Tm.depthL];exact Nat.max_le.2 ⟨h a (by simp),b λx hx=>h x (by simp[hx])⟩
theorem Zab {f:Nat->PR Tm} {i:Nat} (b: ∀ k,i+1<=k->DP k (f k)):DP i (ZZ ts f i):=by
 unfold ZZ;refine DP.bind λs j hs=>?_
 have:=Z2u hs;subst this;refine DP.ite (λ_=>DP.bind λl k hl=>DP.bind λ_ m hm=>?_) λ_=>by show _<=_;simp[Tm.depth,Tm.depthL];omega
 have h1:=Zdt (i0:=i+1) b _ _ _ (by omega) (λx hx=>by cases hx) l k hl
 have:=Z6K hm;subst this;show _<=_;rw[Tm.depth];have c:=Za7 (n:=k-(i+1)) λx hx=>by have:=h1.2 x hx;omega
 omega
theorem Z2x: ∀ (n i:Nat),DP i (Zj ts n i)
 |0,_=>trivial
 |n+1,i=>by
  unfold Zj;refine DP.ite (λ_=>DP.bind λv j hv=>?_) λ_=>DP.ite (λ_=>DP.bind λs j hs=>?_) λ_=>DP.ite (λ_=>DP.bind λt j b=>DP.bind λ_ k c=>?_) λ_=>DP.ite (λ_=>DP.ite (λ_=>DP.bind λv j hv=>?_) λ_=>DP.bind λt j b=>?_) λ_=>Zab λk c=>Zaa (i0:=k) (λm _=>Z2x n m) (Nat.le_refl k)
  ·have:=Z9n hv;subst this;show _<=_;simp[Tm.depth,Tm.depthL];omega
  ·have:=Z2u hs;subst this;show _<=_;simp[Tm.depth,Tm.depthL];omega
  ·have h1:=(Zaa (ts:=ts) (i0:=0) (λm _=>Z2x n m) (Nat.zero_le (i+1))).of b
   have:=Z6K c;subst this;show _<=_;omega
  ·have:=Z9n hv;subst this;show _<=_;simp[Tm.depth,Tm.depthL];omega
  ·have h1:=(Z2x n (i+1)).of b;show _<=_;rw[Zjt];omega
theorem Za9 (n i:Nat):DP i (Zq ts n i):=Zaa (i0:=0) (λm _=>Z2x n m) (Nat.zero_le i)
theorem Zc7 (n i:Nat):DP i (Q2 ts n i):=Zab λk _=>Za9 n k
end
theorem Z76 (ts:List Tk) (lo:Tm) (i:Nat):VP (λr=>r.b=[]) (Zd ts lo i):=by
 unfold Zd;exact (VP.any _).bind λhs j _ _=>VP.ite (λ_=>rfl) λ_=>(VP.any _).bind λu k _ _=>rfl
theorem ZjF (ts:List Tk) (i:Nat):VP (λr=>r.b=[]) (ZJ ts i):=by
 unfold ZJ;exact VP.ite (λ_=>Z76 ts _ i) λ_=>VP.ite (λ_=>rfl) λ_=>(VP.any _).bind λx j _ _=>VP.ite (λ_=>(VP.any _).bind λhs k _ _=>rfl) λ_=>Z76 ts _ j
theorem Z6U {ts:List Tk} {i:Nat} (h:ts.length<=i):Zg ts i=(0,[],0):=by
 simp only[Zg,List.getD_eq_getElem?_getD,List.getElem?_eq_none h,Option.getD_none]
theorem Z6A {ts:List Tk} {i:Nat} (h:ts.length<=i) (l:List (List UInt8)):Z1 ts i l=false:=by
 cases hs:Z1 ts i l with
 |false=>rfl
 |true=>have:=Qd hs;omega
theorem Z4U {ts:List Tk} {i:Nat} (h:ts.length<=i) (f:Nat->PR Tm):ZZ ts f i=.bad i 40:=by
 unfold ZZ Zv;rw[Z6U h];rfl
theorem Z7U {ts:List Tk} {i:Nat} (h:ts.length<=i) (n:Nat): ∃ e,Zj ts n i=.bad i e:=by
 cases n with
 |zero=>exact⟨_,rfl⟩
 |succ n =>
  unfold Zj;rw[Z6U h,Z6A h,Z6A h,Z4U h];exact⟨40,rfl⟩
theorem ZbD {ts:List Tk} {i:Nat} (h:ts.length<=i) (n:Nat): ∃ e,Zq ts n i=.bad i e:=by
 obtain⟨e,b⟩:=Z7U h n;exact⟨e,by simp only[Zq,ZP,Z4B,Z0b,Z1f,b,PR.bind]⟩
theorem Zfu {ts:List Tk} {n i j:Nat} {t:Tm} (h:Zq ts n i=.ok t j):i<ts.length:=by
 apply Classical.byContradiction;intro c;obtain⟨e,b⟩:=ZbD (ts:=ts) (i:=i) (by omega) n;rw[b] at h;cases h
theorem ZbN {ts:List Tk} {n i j:Nat} {t:Tm} (h:Q2 ts n i=.ok t j):i<ts.length:=by
 apply Classical.byContradiction;intro b;rw[Q2,Z4U (by omega)] at h;cases h
def PR.isOk {α:Type}:PR α->Bool
 |.ok _ _=>true
 |.bad _ _=>false
def PR.pos {α:Type}:PR α->Nat
 |.ok _ j=>j
 |.bad _ _=>0
def PR.val {α:Type} (z:α):PR α->α
 |.ok a _=>a
 |.bad _ _=>z
end Go.Sx.Ps
/- One rule;programs behind each other. -/
namespace Go.Sx.Ps
open Go.Sx
open Go.Sx.Lx (Tk)
structure Gr (a b:Ac):Prop where
 r:a.r.length<=b.r.length
 c:a.c.length<=b.c.length
 s:a.s.length<=b.s.length
 so:a.so=true->b.so=true
section
variable {ts:List Tk}
end
section
variable {ts:List Tk} (H:Z86 ts)
include H
end
def Ac.app (p a:Ac):Ac:=⟨p.r++a.r,p.c++a.c,p.s++a.s,p.so ||a.so⟩
end Go.Sx.Ps
/- A PANIC IN A ROUND OF A RANGE OVER A FUNCTION. Where the body panics,no waiting call lies on the round's frame: so it catches nothing. -/
namespace Go.Sx
open Go.RowKit
variable [Globs] [Codes]
section
variable {P:Program} {F:Fence} {n:Nat} {Q:Exit->Act->World->Prop} {a:Act} {w:World}
end
section
variable {P:Program} {F:Fence} {n:Nat}
end
section
variable {P:Program} {F:Fence} {n:Nat}
end
section
variable {P:Program}
end
end Go.Sx
/- AN OWN ROW THAT A CALL HANDS BACK IS NO MORE WRITTEN TO. -/
namespace Go.Sx
open Go.RowKit
variable [Globs] [Codes]
variable {P:Program}
end Go.Sx
/- A ROW THAT IS HANDED BACK,AS PLAIN DATA. -/
namespace Go.Sx
open Go.RowKit
variable [Globs] [Codes]
variable {P:Program}
theorem CallL.vecR {d:D} {args:List D} {ob ob0:Obs} {sz k:Nat} {e:TypeId} {es:List (List D)} (y:lk ob0 k=none) (hc:CallL P d args ob λr o=>r=.vec k/\o=ob0++[(k,.arr true sz e es)]):CallL P d args ob λr o=>r=.slice es []/\o=ob0:=by
 intro F s n φ h w v vs hp hv p;refine (hc F s n φ h w v vs hp hv p).mono ?_;intro A w' f;obtain⟨u,r0,ob1,φ',h',rfl,⟨rfl,rfl⟩,m,ha⟩:=f.dest λr o hr=>by rw[hr.1];rfl
 have g: ∀ i o,lk ob0 i=some o->lk (ob0++[(k,Ob.arr true sz e es)]) i=some o:=λi o l=>by rw[Z08,l];rfl
 have c: ∀ i,(lk ob0 i).isSome->(lk (ob0++[(k,Ob.arr true sz e es)]) i).isSome:=λi hi=>by
  obtain⟨o,l⟩:=Option.isSome_iff_exists.1 hi;rw[g i o l];rfl
 have z: ∀ b,ZOf ob0 h' b->ZOf (ob0++[(k,Ob.arr true sz e es)]) h' b:=λb ⟨i,hi,t⟩=>⟨i,c i hi,t⟩;have h2:=Z32 (obs:=lk (ob0++[(k,Ob.arr true sz e es)])) (λi o hi _=>ha.loc.obj i o hi) m;have q:dvt (lk (ob0++[(k,Ob.arr true sz e es)])) (.vec k)=.slice es []:=by
  have hl:lk (ob0++[(k,Ob.arr true sz e es)]) k=some (.arr true sz e es):=by rw[Z08,y];simp[lk]
  simp only[dvt,dv,hl]
 rw[q] at h2;exact .ret ⟨rfl,rfl⟩ h2 ⟨⟨ha.loc.one,ha.loc.glob.sub z,ha.loc.mem,λi o l=>ha.loc.obj i o (g i o l),λi j b hi x=>ha.loc.sep i j b (c i hi) (c j x)⟩,ha.ext,ha.new,ha.frame,ha.hfix,ha.os,ha.tape,ha.output,ha.grow⟩
end Go.Sx
