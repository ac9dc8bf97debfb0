/- Own work: a layer over the kit: plain data,a walk over it,its soundness. -/
import Derived.Sort.OwnSorted
import Derived.Test.YtecgehidegnmnaaGreatDoorSx9
import Derived.Test.YtecgehidegnmnaaGreatDoorSx8
import Derived.Test.YtecgehidegnmnaaGreatDoorSx6
set_option linter.unusedSectionVars false
set_option linter.unusedVariables false
set_option linter.unusedSimpArgs false
set_option linter.deprecated false
/- PROGRAMS ARE READ; their sizes; how many names the reference model gathers. -/
namespace Go.Sx
open Go.RowKit Go.Deep Go.ChangeShapes Go.WideShapes
structure Co where
 n:Nm
 v:Tm
def Co.cs (x:Co):List D:= .str x.n::x.v.cells
def coL (l:List Co):List (List D):=l.map Co.cs
theorem ZaO (l:List Co):(coL l).length=l.length:=by simp[coL]
structure Pg where
 r:List Ru
 c:List Co
 s:List (List D)
 so:Bool
def Pg.cs (x:Pg):List D:=[.slice (x.r.map Ru.cs) [],.slice (coL x.c) [],.slice x.s [],.bool x.so]
structure Pg.wf (B:Nat) (x:Pg):Prop where
 rl:x.r.length<=B
 r: ∀ y∈x.r,y.wf B
 cl:x.c.length<=B
 c: ∀ y∈x.c,y.v.wf B
 sl:x.s.length<=B
variable {P:Program}
section
variable [Globs] [Codes]
end
/- Sizes. -/
/- How many names. -/
end Go.Sx
/- THE PARSER,PLAINLY. -/
namespace Go.Sx.Ps
open Go.Sx
open Go.Sx.Lx (Tk)
inductive PR (α:Type) where
 | ok (a:α) (i:Nat)
 | bad (at':Nat) (e:Int)
def PR.bind {α β:Type}:PR α->(α->Nat->PR β)->PR β
 | .ok a i,f=>f a i
 | .bad a e,_=> .bad a e
section
variable (ts:List Tk)
def Zb (i:Nat):Tk:=ts.getD i (0,[],0)
def Z1 (i:Nat) (l:List (List UInt8)):Bool:=decide (4<=(Zb ts i).1) && l.contains (Zb ts i).2.1
def Z0 (t:List UInt8) (i:Nat):PR Unit:=if Z1 ts i [t]=true then .ok () (i+1) else .bad i 40
def Zu (k:Int) (i:Nat):PR (List UInt8):=if (Zb ts i).1=k then .ok (Zb ts i).2.1 (i+1) else .bad i 40
def Zl1 (s:List UInt8):Int:=match Lib.atoiAll s with
 | .ok n=>n
 | .range=>Lib.atoiSat s
 | _=>0
def Z1t (i:Nat):PR Int:=(Zu ts 3 i).bind fun s j=> .ok (Zl1 s) j
def Z10 {α:Type} (most:Nat) (sign:List UInt8) (item:Nat->PR α):Nat->List α->Nat->PR (List α)
 | 0,_,i=> .bad i 0
 | n+1,out,i=>if most<=out.length then .bad i 5 else (item i).bind fun a j=>if Z1 ts j [sign]=true then Z10 most sign item n (out++[a]) (j+1) else .ok (out++[a]) j
def Qi {α:Type} (most:Nat) (sign:List UInt8) (item:Nat->PR α) (i:Nat):PR (List α):=Z10 ts most sign item (most+1) [] i
def Z0s (operand:Nat->PR Tm) (ops:List (List UInt8)):Nat->Tm->Nat->PR Tm
 | 0,_,i=> .bad i 0
 | n+1,t,i=>if Z1 ts i ops=true then (operand (i+1)).bind fun u j=>Z0s operand ops n (.mk 5 0 (Zb ts i).2.1 [t,u]) j else .ok t i
def Z0b (operand:Nat->PR Tm) (ops:List (List UInt8)) (i:Nat):PR Tm:=(operand i).bind fun t j=>Z0s ts operand ops (ts.length+1) t j
def Z1c (f:Nat->PR Tm) (i:Nat):PR Tm:=Z0b ts f [[42],[47],[92]] i
def Z4M (f:Nat->PR Tm) (i:Nat):PR Tm:=Z0b ts (Z1c ts f) [[43],[45]] i
def ZS (f:Nat->PR Tm) (i:Nat):PR Tm:=(Z4M ts f i).bind fun t j=>if Z1 ts j [[46,46]]=true then (Z4M ts f (j+1)).bind fun u k=> .ok (.mk 6 0 [] [t,u]) k else .ok t j
def Q7 (part:Nat->PR Tm) (i:Nat):PR Tm:=(Zu ts 1 i).bind fun s j=>if Z1 ts j [[40]]=true then (Qi ts 8 [44] part (j+1)).bind fun l k=>(Z0 ts [41] k).bind fun _ m=> .ok (.mk 4 0 s l) m else .ok (.mk 2 0 s []) j
def Zl:Nat->Nat->PR Tm
 | 0,i=> .bad i 0
 | n+1,i =>
  if (Zb ts i).1=3 then (Z1t ts i).bind fun v j=> .ok (.mk 1 v [] []) j
  else if (Zb ts i).1=2 then (Zu ts 2 i).bind fun s j=> .ok (.mk 3 0 s []) j
  else if Z1 ts i [[40]]=true then (ZS ts (Zl n) (i+1)).bind fun t j=>(Z0 ts [41] j).bind fun _ k=> .ok t k
  else if Z1 ts i [[45]]=true then
   if (Zb ts (i+1)).1=3 then (Z1t ts (i+1)).bind fun v j=> .ok (.mk 1 (-v) [] []) j
   else (Zl n (i+1)).bind fun t j=> .ok (.mk 5 0 [45] [t]) j
  else Q7 ts (ZS ts (Zl n)) i
def Zp (n:Nat):Nat->PR Tm:=ZS ts (Zl ts n)
def Qa (n:Nat):Nat->PR Tm:=Q7 ts (Zp ts n)
abbrev fu:Nat:=ts.length+1
def ZI (t:Tm) (most at':Nat) (j:Nat):PR Tm:=if most<t.depth then .bad at' 5 else .ok t j
def Z9 (i:Nat):PR Tm:=(Zp ts (fu ts) i).bind fun t j=>ZI t 12 i j
def nmT:Tm->List UInt8
 | .mk _ _ s _=>s
def arT:Tm->List Tm
 | .mk _ _ _ l=>l
def kT:Tm->Nat
 | .mk k _ _ _=>k
abbrev Am:=List UInt8 × List Tm
def ZA (t:Tm) (at' j:Nat):PR Am:=(ZI t 13 at' j).bind fun t j=> .ok (nmT t,arT t) j
def QK (i:Nat):PR Am:=(Qa ts (fu ts) i).bind fun t j=>ZA t i j
def Z6 (ends:List (List UInt8)) (i:Nat):PR (Am × Tm × Bool):=(Zp ts (fu ts) i).bind fun t j =>
 if Z1 ts j ends=true then (ZI t 12 i j).bind fun t j=> .ok (([],[]),t,false) j
 else if (Zb ts i).1≠1\/kT t≠2/\kT t≠4 then (ZI t 12 i j).bind fun _ j=> .bad j 40
 else (ZA t i j).bind fun a j=> .ok (a,t,true) j
def cmpL:List (List UInt8):=[[61],[33,61],[60],[60,61],[62],[62,61]]
def Ze (i:Nat):PR Nat:=if idxS (Zb ts i).2.1 cmpL 0<0\/(Zb ts i).1≠6 then .bad i 40 else .ok ((idxS (Zb ts i).2.1 cmpL 0).toNat+1) (i+1)
abbrev z0:Tm:= .mk 0 0 [] []
def Zn (no:Bool) (i:Nat):PR Lt:=if no=true then (QK ts i).bind fun a j=> .ok ⟨1,true,a.1,a.2,0,z0,z0⟩ j
 else (Z6 ts cmpL i).bind fun x j=>if x.2.2=true then .ok ⟨1,false,x.1.1,x.1.2,0,z0,z0⟩ j
  else (Ze ts j).bind fun op k=>(Z9 ts k).bind fun r m=> .ok ⟨2,false,[],[],op,x.2.1,r⟩ m
def tkP (t:List UInt8) (i:Nat):Bool × Nat:=if Z1 ts i [t]=true then (true,i+1) else (false,i)
def Z1S (i:Nat):PR Lt:=Zn ts (tkP ts Lx.ZD i).1 (tkP ts Lx.ZD i).2
def Qe (i:Nat):PR (List Lt):=if Z1 ts i [[58]]=true then Qi ts 64 [44] (Z1S ts) (i+1) else .ok [] i
def ZX (i:Nat):PR (List Tm):=Qi ts 64 [44] (Z9 ts) i
def Zo {α:Type} (item:Nat->PR α) (i:Nat):PR (List α):=(Z0 ts [123] i).bind fun _ j=>(Qi ts 64 [59] item j).bind fun l k=>(Z0 ts [125] k).bind fun _ m=> .ok l m
def QO (i:Nat):PR El:=(ZX ts i).bind fun l j=>(Qe ts j).bind fun c k=> .ok ⟨l,c⟩ k
def Z25:List UInt8:=[35,99,111,117,110,116]
def Z2b:List UInt8:=[35,115,117,109]
abbrev zL:Lt:=⟨0,false,[],[],0,z0,z0⟩
def Zc (no:Bool) (i:Nat):PR Bo :=
 (if Z1 ts i [Z2b]=true then PR.ok 2 (i+1) else (Z0 ts Z25 i).bind fun _ j=> .ok 1 j).bind fun fn j =>
 (Zo ts (QO ts) j).bind fun es k=>if Z1 ts k [[33,61]]=true then .bad k 40 else
 (Ze ts k).bind fun op m=>(Z9 ts m).bind fun b o=> .ok ⟨3,zL,[],no,fn,es,op,b⟩ o
def Zg (i:Nat):PR Bo :=
 if Z1 ts (tkP ts Lx.ZD i).2 [Z25,Z2b]=true then Zc ts (tkP ts Lx.ZD i).1 (tkP ts Lx.ZD i).2
 else (Zn ts (tkP ts Lx.ZD i).1 (tkP ts Lx.ZD i).2).bind fun l j=>(Qe ts j).bind fun c k=> .ok ⟨if c=[] then 1 else 2,l,c,false,0,[],0,z0⟩ k
def Z0J:Nat->List Bo->Nat->PR (List Bo)
 | 0,_,i=> .bad i 0
 | n+1,out,i=>if 64<=out.length then .bad i 5 else (Zg ts i).bind fun b j =>
  if Z1 ts j [[59]]=true then Z0J n (out++[b]) (j+1)
  else if b.k=2 then .ok (out++[b]) j
  else if Z1 ts j [[44]]=true then Z0J n (out++[b]) (j+1)
  else .ok (out++[b]) j
def ZO (i:Nat):PR (List Bo):=Z0J ts 65 [] i
abbrev zR:Ru:=⟨0,[],z0,z0,[],z0,z0,[]⟩
def Z0q (i:Nat):PR He:=(QK ts i).bind fun a j=>(Qe ts j).bind fun c k=> .ok ⟨a.1,a.2,c⟩ k
def Zf (lower:Tm) (i:Nat):PR Ru:=(Zo ts (Z0q ts) i).bind fun hs j =>
 if Z1 ts j [[58,45],[46]]=true then .ok { zR with k:=2,lo:=lower,h:=hs } j
 else (Z9 ts j).bind fun u k=> .ok { zR with k:=2,lo:=lower,h:=hs,up:=u } k
def Z1P:Nat->List He->Nat->PR (List He)
 | 0,_,i=> .bad i 0
 | n+1,out,i=>if Z1 ts i [[124]]=true then (if 64<=out.length then .bad (i+1) 5 else (QK ts (i+1)).bind fun a j=>Z1P n (out++[⟨a.1,a.2,[]⟩]) j) else .ok out i
def ZM (i:Nat):PR Ru :=
 if Z1 ts i [[123]]=true then Zf ts z0 i
 else if Z1 ts i [[58,45]]=true then .ok { zR with k:=1 } i
 else (Z6 ts [[123]] i).bind fun x j=>if x.2.2=true then (Z1P ts 65 [⟨x.1.1,x.1.2,[]⟩] j).bind fun hs k=> .ok { zR with k:=1,h:=hs } k
  else Zf ts x.2.1 j
def Zs (i:Nat):PR Ru:=(Z9 ts i).bind fun w j =>
 (if Z1 ts j [[64]]=true then Z9 ts (j+1) else .ok (.mk 1 0 [] []) j).bind fun lv k =>
 (if Z1 ts k [[44]]=true then ZX ts (k+1) else .ok [] k).bind fun tu m=> .ok { zR with k:=3,w:=w,lv:=lv,t:=tu } m
def Qw (i:Nat):PR Ru:=(Z0 ts [58,126] i).bind fun _ j =>
 (if Z1 ts j [[46]]=true then .ok [] j else ZO ts j).bind fun b k=>(Z0 ts [46] k).bind fun _ m=>(Z0 ts [91] m).bind fun _ o =>
 (Zs ts o).bind fun r p=>(Z0 ts [93] p).bind fun _ q=> .ok { r with b:=b } q
def Zy (i:Nat):PR Ru:=if Z1 ts i [[58,126]]=true then Qw ts i
 else (ZM ts i).bind fun r j=>(if Z1 ts j [[58,45]]=true then ZO ts (j+1) else .ok [] j).bind fun b k=>(Z0 ts [46] k).bind fun _ m=> .ok { r with b:=b } m
structure Ac where
 r:List Ru
 c:List Co
 s:List (List UInt8 × Int)
 so:Bool
def Zd (n i:Nat):PR Unit:=if 400<=n then .bad i 5 else .ok () i
def Q8:List UInt8:=[35,99,111,110,115,116]
def QV:List UInt8:=[35,115,104,111,119]
def Z2S:List UInt8:=[35,109,105,110,105,109,105,122,101]
def Q0 (a:Ac) (i:Nat):PR Ac:=(Zd a.c.length i).bind fun _ i=>(Z0 ts Q8 i).bind fun _ j=>(Zu ts 1 j).bind fun n k=>(Z0 ts [61] k).bind fun _ m =>
 (Z9 ts m).bind fun v o=>(Z0 ts [46] o).bind fun _ p=> .ok { a with c:=a.c++[⟨n,v⟩] } p
def Z0P (a:Ac) (i:Nat):PR Ac:=(Zd a.s.length i).bind fun _ i=>(Z0 ts QV i).bind fun _ j =>
 (if Z1 ts j [[46]]=true then .ok { a with so:=true } j else (Zu ts 1 j).bind fun n k=>(Z0 ts [47] k).bind fun _ m=>(Z1t ts m).bind fun v o=> .ok { a with so:=true,s:=a.s++[(n,v)] } o).bind fun b p =>
 (Z0 ts [46] p).bind fun _ q=> .ok b q
def ZC:Nat->List Ru->Nat->PR (List Ru)
 | 0,_,i=> .bad i 0
 | n+1,rs,i=>(Zd rs.length i).bind fun _ i=>(Zs ts i).bind fun r j=>(Qe ts j).bind fun l k =>
  if Z1 ts k [[59]]=true then ZC n (rs++[{ r with b:=l.map fun x=>⟨1,x,[],false,0,[],0,z0⟩ }]) (k+1)
  else .ok (rs++[{ r with b:=l.map fun x=>⟨1,x,[],false,0,[],0,z0⟩ }]) k
def ZZ (a:Ac) (i:Nat):PR Ac:=(Z0 ts Z2S i).bind fun _ j=>(Z0 ts [123] j).bind fun _ k=>(ZC ts 401 a.r k).bind fun rs m =>
 (Z0 ts [125] m).bind fun _ o=>(Z0 ts [46] o).bind fun _ p=> .ok { a with r:=rs } p
def Zh (a:Ac) (i:Nat):PR Ac :=
 if (Zb ts i).2.1=Q8 then Q0 ts a i
 else if (Zb ts i).2.1=QV then Z0P ts a i
 else if (Zb ts i).2.1=Z2S then ZZ ts a i
 else (Zd a.r.length i).bind fun _ i=>(Zy ts i).bind fun r j=> .ok { a with r:=a.r++[r] } j
def ZU:Nat->Ac->Nat->PR Ac
 | 0,_,i=> .bad i 0
 | n+1,a,i=>if i<ts.length then (Zh ts a i).bind fun b j=>ZU n b j else .ok a i
def Zz:PR Ac:=ZU ts (fu ts) ⟨[],[],[],false⟩ 0
def ZjE {α:Type} (x:PR α):PR α:=x.bind fun a j=>if j<ts.length then .bad j 40 else .ok a j
end
end Go.Sx.Ps
/- The parser goes on,and ends; two lists of tokens that look alike. -/
namespace Go.Sx.Ps
open Go.Sx
open Go.Sx.Lx (Tk)
theorem Z0j {ts:List Tk} {i:Nat} (h:(Zb ts i).1≠0):i<ts.length:=by
 apply Classical.byContradiction
 intro hn
 apply h
 simp only[Zb,List.getD_eq_getElem?_getD,List.getElem?_eq_none (by omega:ts.length<=i),Option.getD_none]
theorem Qg {ts:List Tk} {i:Nat} {l:List (List UInt8)} (h:Z1 ts i l=true):i<ts.length:=by
 simp only[Z1,Bool.and_eq_true,decide_eq_true_eq] at h
 exact Z0j (by omega)
structure Sm (ts us:List Tk) (d:Nat) (fl:Bool):Prop where
 kd: ∀ i,(i<ts.length\/fl=true)->(Zb us (i+d)).1=(Zb ts i).1
 tx: ∀ i,(i<ts.length\/fl=true)->(Zb us (i+d)).2.1=(Zb ts i).2.1
 ln:ts.length+d<=us.length
 fu:fl=true->us.length=ts.length+d
theorem Sm.self (ts:List Tk):Sm ts ts 0 true:=⟨fun _ _=>rfl,fun _ _=>rfl,Nat.le_refl _,fun _=>rfl⟩
section
variable {ts us:List Tk} {d:Nat} {fl:Bool} (S:Sm ts us d fl) {α β:Type}
include S in
theorem Sm.sees {i:Nat} (h:i<ts.length\/fl=true) (l:List (List UInt8)):Z1 us (i+d) l=Z1 ts i l:=by
 unfold Z1; rw[S.kd i h,S.tx i h]
def W (ts:List Tk) (d:Nat) (fl:Bool) (i:Nat):PR α->PR α->Prop
 | .ok a j,y=>i<=j/\(i<=ts.length->j<=ts.length)/\((j<ts.length\/fl=true)->y= .ok a (j+d))
 | .bad a e,y=>e≠0/\(fl=true->y= .bad (a+d) e)
def WS (ts:List Tk) (d:Nat) (fl:Bool) (i:Nat):PR α->PR α->Prop
 | .ok a j,y=>i<j/\(i<=ts.length->j<=ts.length)/\((i<=ts.length\/fl=true)->y= .ok a (j+d))
 | .bad a e,y=>e≠0/\(fl=true->y= .bad (a+d) e)
theorem W.ok0 {i:Nat} (a:α):W ts d fl i (.ok a i) (.ok a (i+d)):=⟨Nat.le_refl _,id,fun _=>rfl⟩
theorem W.bad {i a:Nat} {e:Int} (h:e≠0):W ts d fl i (.bad a e:PR α) (.bad (a+d) e):=⟨h,fun _=>rfl⟩
theorem W.le {i j:Nat} {x y:PR α} (h:W ts d fl j x y) (hij:i<=j) (h2:i<=ts.length->j<=ts.length):W ts d fl i x y:=by
 cases x with
 | ok a k=>exact⟨Nat.le_trans hij h.1,fun h3=>h.2.1 (h2 h3),h.2.2⟩
 | bad a e=>exact h
theorem WS.le {i j:Nat} {x y:PR α} (h:WS ts d fl j x y) (hij:i<=j) (h2:i<=ts.length->j<=ts.length):WS ts d fl i x y:=by
 cases x with
 | ok a k=>exact⟨Nat.lt_of_le_of_lt hij h.1,fun h3=>h.2.1 (h2 h3),fun h3=>h.2.2 (h3.imp h2 id)⟩
 | bad a e=>exact h
theorem WS.w {i:Nat} {x y:PR α} (h:WS ts d fl i x y):W ts d fl i x y:=by
 cases x with
 | ok a k=>exact⟨Nat.le_of_lt h.1,h.2.1,fun h3=>h.2.2 (h3.imp (fun h4=>by have:=h.1; omega) id)⟩
 | bad a e=>exact h
theorem W.off {i:Nat} {x y:PR α} (hi: ¬ (i<ts.length\/fl=true)) (z:PR α) (h:W ts d fl i x y):W ts d fl i x z:=by
 have hf: ¬ fl=true:=fun h=>hi (.inr h)
 cases x with
 | ok a k=>exact⟨h.1,h.2.1,fun h3=>absurd (h3.imp (fun h4=>Nat.lt_of_le_of_lt h.1 h4) id) hi⟩
 | bad a e=>exact⟨h.1,fun h3=>absurd h3 hf⟩
theorem W.ite {i:Nat} {c c':Prop} [Decidable c] [Decidable c'] {x x' y y':PR α} (hc:(i<ts.length\/fl=true)->(c' ↔ c)) (h1:c->W ts d fl i x x') (h2: ¬ c->W ts d fl i y y'):W ts d fl i (if c then x else y) (if c' then x' else y'):=by
 by_cases hi:i<ts.length\/fl=true
 ·by_cases h:c
  ·rw[if_pos h,if_pos ((hc hi).2 h)]; exact h1 h
  ·rw[if_neg h,if_neg (fun h'=>h ((hc hi).1 h'))]; exact h2 h
 ·by_cases h:c
  ·rw[if_pos h]; exact (h1 h).off hi _
  ·rw[if_neg h]; exact (h2 h).off hi _
theorem W.bind {i:Nat} {x x':PR α} {f g:α->Nat->PR β} (h:W ts d fl i x x') (k: ∀ a j,i<=j->x= .ok a j->W ts d fl j (f a j) (g a (j+d))):W ts d fl i (x.bind f) (x'.bind g):=by
 cases x with
 | ok a j =>
  obtain⟨h1,h2,h3⟩:=h
  have hk:=k a j h1 rfl
  by_cases hj:j<ts.length\/fl=true
  ·rw[h3 hj]; exact hk.le h1 h2
  ·exact (hk.off hj _).le h1 h2
 | bad a e=>exact⟨h.1,fun h3=>by rw[h.2 h3]; rfl⟩
theorem W.bindS {i:Nat} {x x':PR α} {f g:α->Nat->PR β} (h:W ts d fl i x x') (k: ∀ a j,i<=j->x= .ok a j->WS ts d fl j (f a j) (g a (j+d))):WS ts d fl i (x.bind f) (x'.bind g):=by
 cases x with
 | ok a j =>
  obtain⟨h1,h2,h3⟩:=h
  have hk:=k a j h1 rfl
  by_cases hj:j<ts.length\/fl=true
  ·rw[h3 hj]; exact hk.le h1 h2
  ·have hf: ¬ fl=true:=fun h=>hj (.inr h)
   show WS ts d fl i (f a j) _
   cases hx:f a j with
   | ok b m =>
    rw[hx] at hk
    refine⟨Nat.lt_of_le_of_lt h1 hk.1,fun h4=>hk.2.1 (h2 h4),fun h4=> ?_⟩
    rcases h4 with h4 | h4
    ·have:=hk.2.1 (h2 h4); have:=hk.1; exact absurd (.inl (by omega)) hj
    ·exact absurd h4 hf
   | bad b e=>rw[hx] at hk; exact⟨hk.1,fun h4=>absurd h4 hf⟩
 | bad a e=>exact⟨h.1,fun h3=>by rw[h.2 h3]; rfl⟩
theorem WS.map {i:Nat} {x x':PR α} (v:α->β) (h:WS ts d fl i x x'):WS ts d fl i (x.bind fun a j=> .ok (v a) j) (x'.bind fun a j=> .ok (v a) j):=by
 cases x with
 | ok a j=>exact⟨h.1,h.2.1,fun h4=>by rw[h.2.2 h4]; rfl⟩
 | bad a e=>exact⟨h.1,fun h3=>by rw[h.2 h3]; rfl⟩
include S in
theorem WS.ite {i:Nat} {l:List (List UInt8)} {x x' y y':PR α} (h1:Z1 ts i l=true->WS ts d fl i x x') (h2:WS ts d fl i y y'):WS ts d fl i (if Z1 ts i l=true then x else y) (if Z1 us (i+d) l=true then x' else y'):=by
 by_cases hi:i<ts.length\/fl=true
 ·rw[S.sees hi]
  split
  ·rename_i h; exact h1 h
  ·exact h2
 ·rw[if_neg (fun h=>hi (.inl (Qg h)))]
  cases y with
  | ok a j=>exact⟨h2.1,h2.2.1,fun h4=>by
    rcases h4 with h4 | h4
    ·have:=h2.2.1 h4; have:=h2.1; exact absurd (.inl (by omega)) hi
    ·exact absurd (.inr h4) hi⟩
  | bad a e=>exact⟨h2.1,fun h=>absurd (.inr h) hi⟩
include S
theorem Ql {i:Nat} {l:List (List UInt8)} {x x' y y':PR α} (h1:Z1 ts i l=true->W ts d fl i x x') (h2:W ts d fl i y y'):W ts d fl i (if Z1 ts i l=true then x else y) (if Z1 us (i+d) l=true then x' else y') :=
 W.ite (fun hi=>by rw[S.sees hi]) h1 fun _=>h2
omit S in
theorem arc (d i:Nat):i+d+1=i+1+d:=by omega
omit S in
theorem W.nxt {i:Nat} {l:List (List UInt8)} {x y:PR α} (hs:Z1 ts i l=true) (h:W ts d fl (i+1) x y):W ts d fl i x y:=h.le (Nat.le_succ i) fun _=>Qg hs
theorem Q4 (t:List UInt8) (i:Nat):WS ts d fl i (Z0 ts t i) (Z0 us t (i+d)):=by
 unfold Z0
 by_cases hi:i<ts.length\/fl=true
 ·rw[S.sees hi]
  split
  ·rename_i h
   have:=Qg h
   rw[arc]
   exact⟨Nat.lt_succ_self i,fun _=>this,fun _=>rfl⟩
  ·exact⟨by decide,fun _=>rfl⟩
 ·rw[if_neg (fun h=>hi (.inl (Qg h)))]
  exact⟨by decide,fun h=>absurd (.inr h) hi⟩
theorem Z2y {k:Int} (hk:k≠0) (i:Nat):WS ts d fl i (Zu ts k i) (Zu us k (i+d)):=by
 unfold Zu
 by_cases hi:i<ts.length\/fl=true
 ·rw[S.kd i hi,S.tx i hi]
  split
  ·rename_i h
   have:=Z0j (ts:=ts) (i:=i) (by omega)
   rw[arc]
   exact⟨Nat.lt_succ_self i,fun _=>this,fun _=>rfl⟩
  ·exact⟨by decide,fun _=>rfl⟩
 ·rw[if_neg (fun h=>hi (.inl (Z0j (by omega))))]
  exact⟨by decide,fun h=>absurd (.inr h) hi⟩
theorem Z8B (i:Nat):WS ts d fl i (Z1t ts i) (Z1t us (i+d)):=WS.map _ (Z2y S (by decide) i)
theorem Zdw {most:Nat} {sign:List UInt8} {item item':Nat->PR α} {i0:Nat} (hI: ∀ k,i0<=k->W ts d fl k (item k) (item' (k+d))): ∀ (n:Nat) (out:List α) (i:Nat),i0<=i->most+1<=n+out.length->out.length<=most->W ts d fl i (Z10 ts most sign item n out i) (Z10 us most sign item' n out (i+d))
 | 0,out,i,h,hn,ho=>by omega
 | n+1,out,i,h,hn,ho=>by
  unfold Z10
  refine W.ite (fun _=>Iff.rfl) (fun _=>W.bad (by decide)) fun hm=>(hI i h).bind fun a j hj _=> ?_
  refine Ql S (fun hs=>W.nxt hs ?_) (W.ok0 _)
  rw[arc]
  exact Zdw hI n (out++[a]) (j+1) (by omega) (by simp; omega) (by simp; omega)
theorem Z45 (most:Nat) (sign:List UInt8) {item item':Nat->PR α} {i0:Nat} (hI: ∀ k,i0<=k->W ts d fl k (item k) (item' (k+d))) {i:Nat} (h:i0<=i):W ts d fl i (Qi ts most sign item i) (Qi us most sign item' (i+d)) :=
 Zdw S hI (most+1) [] i h (by simp) (by simp)
theorem Z8K {operand operand':Nat->PR Tm} {ops:List (List UInt8)} {i0:Nat} (hI: ∀ k,i0<=k->W ts d fl k (operand k) (operand' (k+d))): ∀ (n m:Nat) (t:Tm) (i:Nat),i0<=i->ts.length-i<n->us.length-(i+d)<m->W ts d fl i (Z0s ts operand ops n t i) (Z0s us operand' ops m t (i+d))
 | 0,_,_,_,_,hn,_=>by omega
 | _+1,0,_,_,_,_,hm=>by omega
 | n+1,m+1,t,i,h,hn,hm=>by
  unfold Z0s
  have hl:=S.ln
  by_cases hs:Z1 ts i ops=true
  ·have hlt:=Qg hs
   rw[S.sees (.inl hlt),if_pos hs,if_pos hs,S.tx i (.inl hlt),arc]
   refine W.nxt hs ((hI (i+1) (by omega)).bind fun u j hj _=> ?_)
   exact Z8K hI n m _ j (by omega) (by omega) (by omega)
  ·refine Ql S (fun h=>absurd h hs) (W.ok0 _)
theorem Z46 {operand operand':Nat->PR Tm} {ops:List (List UInt8)} {i0:Nat} (hI: ∀ k,i0<=k->W ts d fl k (operand k) (operand' (k+d))) {i:Nat} (h:i0<=i):W ts d fl i (Z0b ts operand ops i) (Z0b us operand' ops (i+d)):=by
 unfold Z0b
 refine (hI i h).bind fun t j hj _=>Z8K S hI _ _ t j (by omega) (by omega) (by omega)
theorem Zek {f g:Nat->PR Tm} {i0:Nat} (hI: ∀ k,i0<=k->W ts d fl k (f k) (g (k+d))) {i:Nat} (h:i0<=i):W ts d fl i (Z4M ts f i) (Z4M us g (i+d)) :=
 Z46 S (fun k hk=>Z46 S hI hk) h
theorem Z6y {f g:Nat->PR Tm} {i0:Nat} (hI: ∀ k,i0<=k->W ts d fl k (f k) (g (k+d))) {i:Nat} (h:i0<=i):W ts d fl i (ZS ts f i) (ZS us g (i+d)):=by
 unfold ZS
 refine (Zek S hI h).bind fun t j hj _=>Ql S (fun hs=>W.nxt hs ?_) (W.ok0 _)
 rw[arc]
 exact (Zek S hI (by omega)).bind fun u k hk _=>W.ok0 _
theorem Z8G {f g:Nat->PR Tm} {i:Nat} (hI:i<ts.length-> ∀ k,i+1<=k->W ts d fl k (f k) (g (k+d))):W ts d fl i (Q7 ts f i) (Q7 us g (i+d)):=by
 unfold Q7
 refine (Z2y S (by decide) i).w.bind fun s j hj hx=>Ql S (fun hs=>W.nxt hs ?_) (W.ok0 _)
 rw[arc]
 have hlt:i<ts.length:=by have:=Qg hs; omega
 refine (Z45 S 8 [44] (i0:=i+1) (hI hlt) (by omega)).bind fun l k hk _=>(Q4 S _ k).w.bind fun _ m hm _=>W.ok0 _
theorem Z16: ∀ (n m i:Nat),ts.length-i<n->us.length-(i+d)<m->W ts d fl i (Zl ts n i) (Zl us m (i+d))
 | 0,_,_,hn,_=>by omega
 | _+1,0,_,_,hm=>by omega
 | n+1,m+1,i,hn,hm=>by
  unfold Zl
  have hl:=S.ln
  refine W.ite (fun hi=>by rw[S.kd i hi]) (fun _=>(Z8B S i).w.bind fun v j _ _=>W.ok0 _) fun _=> ?_
  refine W.ite (fun hi=>by rw[S.kd i hi]) (fun _=>(Z2y S (by decide) i).w.bind fun v j _ _=>W.ok0 _) fun _=> ?_
  refine Ql S (fun hs=>W.nxt hs ?_) (Ql S (fun hs=>W.nxt hs ?_) ?_)
  ·have:=Qg hs
   rw[arc]
   exact (Z6y S (i0:=i+1) (fun k hk=>Z16 n m k (by omega) (by omega)) (Nat.le_refl _)).bind fun t j hj _=>(Q4 S _ j).w.bind fun _ k _ _=>W.ok0 _
  ·have:=Qg hs
   rw[arc]
   refine W.ite (fun hi=>by rw[S.kd (i+1) hi]) (fun _=>(Z8B S (i+1)).w.bind fun v j _ _=>W.ok0 _) fun _=> ?_
   exact (Z16 n m (i+1) (by omega) (by omega)).bind fun t j _ _=>W.ok0 _
  ·exact Z8G S fun hlt k hk=>Z6y S (i0:=i+1) (fun k hk=>Z16 n m k (by omega) (by omega)) (by omega)
theorem Z2z (i:Nat):W ts d fl i (Zp ts (fu ts) i) (Zp us (fu us) (i+d)) :=
 Z6y S (i0:=0) (fun k _=>Z16 S _ _ k (by unfold fu; omega) (by unfold fu; omega)) (Nat.zero_le _)
theorem Z6z (i:Nat):W ts d fl i (Qa ts (fu ts) i) (Qa us (fu us) (i+d)) :=
 Z8G S fun _ k _=>Z2z S k
omit S in
theorem Z6A (t:Tm) (most at' j:Nat):W ts d fl j (ZI t most at' j) (ZI t most (at'+d) (j+d)):=by
 unfold ZI
 exact W.ite (fun _=>Iff.rfl) (fun _=>W.bad (by decide)) fun _=>W.ok0 _
theorem Z29 (i:Nat):W ts d fl i (Z9 ts i) (Z9 us (i+d)):=(Z2z S i).bind fun t j _ _=>Z6A t 12 i j
omit S in
theorem Z6F (t:Tm) (at' j:Nat):W ts d fl j (ZA t at' j) (ZA t (at'+d) (j+d)):=(Z6A t 13 at' j).bind fun t j _ _=>W.ok0 _
theorem Z8L (i:Nat):W ts d fl i (QK ts i) (QK us (i+d)):=(Z6z S i).bind fun t j _ _=>Z6F t i j
theorem Z6B (ends:List (List UInt8)) (i:Nat):W ts d fl i (Z6 ts ends i) (Z6 us ends (i+d)):=by
 unfold Z6
 refine (Z2z S i).bind fun t j hj _=>Ql S (fun _=>(Z6A t 12 i j).bind fun t j _ _=>W.ok0 _) ?_
 refine W.ite (fun hi=>by rw[S.kd i (hi.imp (by omega) id)]) (fun _=>(Z6A t 12 i j).bind fun t j _ _=>W.bad (by decide)) fun _=> ?_
 exact (Z6F t i j).bind fun t j _ _=>W.ok0 _
theorem Z8C (i:Nat):WS ts d fl i (Ze ts i) (Ze us (i+d)):=by
 unfold Ze
 by_cases hi:i<ts.length\/fl=true
 ·rw[S.kd i hi,S.tx i hi,arc]
  split
  ·exact⟨by decide,fun _=>rfl⟩
  ·rename_i h
   have:=Z0j (ts:=ts) (i:=i) (by omega)
   exact⟨Nat.lt_succ_self i,fun _=>this,fun _=>rfl⟩
 ·rw[if_pos (.inr fun h=>hi (.inl (Z0j (by omega))))]
  exact⟨by decide,fun h=>absurd (.inr h) hi⟩
theorem Z4G (no:Bool) (i:Nat):W ts d fl i (Zn ts no i) (Zn us no (i+d)):=by
 unfold Zn
 refine W.ite (fun _=>Iff.rfl) (fun _=>(Z8L S i).bind fun a j _ _=>W.ok0 _) fun _=> ?_
 refine (Z6B S _ i).bind fun x j _ _=>W.ite (fun _=>Iff.rfl) (fun _=>W.ok0 _) fun _=> ?_
 exact (Z8C S j).w.bind fun op k _ _=>(Z29 S k).bind fun r m _ _=>W.ok0 _
theorem w_tk {t:List UInt8} {i:Nat} {f g:Bool->Nat->PR α} (h: ∀ b k,W ts d fl k (f b k) (g b (k+d))):W ts d fl i (f (tkP ts t i).1 (tkP ts t i).2) (g (tkP us t (i+d)).1 (tkP us t (i+d)).2):=by
 unfold tkP
 by_cases hi:i<ts.length\/fl=true
 ·rw[S.sees hi]
  by_cases hs:Z1 ts i [t]=true
  ·rw[if_pos hs,if_pos hs]
   refine W.nxt hs ?_
   show W ts d fl (i+1) (f true (i+1)) (g true (i+d+1))
   rw[arc]; exact h true (i+1)
  ·rw[if_neg hs,if_neg hs]; exact h false i
 ·rw[if_neg (fun h=>hi (.inl (Qg h)))]
  exact (h false i).off hi _
theorem ZhK (i:Nat):W ts d fl i (Z1S ts i) (Z1S us (i+d)):=w_tk S (f:=fun b k=>Zn ts b k) (g:=fun b k=>Zn us b k) fun b k=>Z4G S b k
theorem Z6x (i:Nat):W ts d fl i (Qe ts i) (Qe us (i+d)):=by
 unfold Qe
 refine Ql S (fun hs=>W.nxt hs ?_) (W.ok0 _)
 rw[arc]
 exact Z45 S _ _ (i0:=0) (fun k _=>ZhK S k) (Nat.zero_le _)
theorem Z8F (i:Nat):W ts d fl i (ZX ts i) (ZX us (i+d)):=Z45 S _ _ (i0:=0) (fun k _=>Z29 S k) (Nat.zero_le _)
theorem Z6D {item item':Nat->PR α} (hI: ∀ k,W ts d fl k (item k) (item' (k+d))) (i:Nat):W ts d fl i (Zo ts item i) (Zo us item' (i+d)) :=
 (Q4 S _ i).w.bind fun _ j _ _=>(Z45 S _ _ (i0:=0) (fun k _=>hI k) (Nat.zero_le _)).bind fun l k _ _=>(Q4 S _ k).w.bind fun _ m _ _=>W.ok0 _
theorem Zdx (i:Nat):W ts d fl i (QO ts i) (QO us (i+d)):=(Z8F S i).bind fun l j _ _=>(Z6x S j).bind fun c k _ _=>W.ok0 _
theorem Z5t (no:Bool) (i:Nat):W ts d fl i (Zc ts no i) (Zc us no (i+d)):=by
 unfold Zc
 refine W.bind (Ql S (fun hs=>W.nxt hs ?_) ((Q4 S _ i).w.bind fun _ j _ _=>W.ok0 _)) fun fn j _ _=> ?_
 ·rw[arc]; exact W.ok0 _
 refine (Z6D S (Zdx S) j).bind fun es k _ _=>Ql S (fun _=>W.bad (by decide)) ?_
 exact (Z8C S k).w.bind fun op m _ _=>(Z29 S m).bind fun b o _ _=>W.ok0 _
theorem Z8J (i:Nat):W ts d fl i (Zg ts i) (Zg us (i+d)):=by
 unfold Zg
 refine w_tk S (f:=fun b k=>if Z1 ts k [Z25,Z2b]=true then Zc ts b k else (Zn ts b k).bind fun l j=>(Qe ts j).bind fun c k=> .ok ⟨if c=[] then 1 else 2,l,c,false,0,[],0,z0⟩ k) (g:=fun b k=>if Z1 us k [Z25,Z2b]=true then Zc us b k else (Zn us b k).bind fun l j=>(Qe us j).bind fun c k=> .ok ⟨if c=[] then 1 else 2,l,c,false,0,[],0,z0⟩ k) fun b k=> ?_
 exact Ql S (fun _=>Z5t S b k) ((Z4G S b k).bind fun l j _ _=>(Z6x S j).bind fun c m _ _=>W.ok0 _)
theorem Z6E: ∀ (n:Nat) (out:List Bo) (i:Nat),65<=n+out.length->out.length<=64->W ts d fl i (Z0J ts n out i) (Z0J us n out (i+d))
 | 0,out,i,hn,ho=>by omega
 | n+1,out,i,hn,ho=>by
  unfold Z0J
  refine W.ite (fun _=>Iff.rfl) (fun _=>W.bad (by decide)) fun hm=>(Z8J S i).bind fun b j _ _=> ?_
  have go: ∀ l,Z1 ts j l=true->W ts d fl j (Z0J ts n (out++[b]) (j+1)) (Z0J us n (out++[b]) (j+d+1)):=fun l hs=>W.nxt hs (by rw[arc]; exact Z6E n _ (j+1) (by simp; omega) (by simp; omega))
  exact Ql S (go _) (W.ite (fun _=>Iff.rfl) (fun _=>W.ok0 _) fun _=>Ql S (go _) (W.ok0 _))
theorem ZdA (i:Nat):W ts d fl i (ZO ts i) (ZO us (i+d)):=Z6E S 65 [] i (by simp) (by simp)
theorem Z8I (i:Nat):W ts d fl i (Z0q ts i) (Z0q us (i+d)):=(Z8L S i).bind fun a j _ _=>(Z6x S j).bind fun c k _ _=>W.ok0 _
theorem Z6C (lo:Tm) (i:Nat):W ts d fl i (Zf ts lo i) (Zf us lo (i+d)):=by
 unfold Zf
 exact (Z6D S (Z8I S) i).bind fun hs j _ _=>Ql S (fun _=>W.ok0 _) ((Z29 S j).bind fun u k _ _=>W.ok0 _)
theorem Zdy: ∀ (n:Nat) (out:List He) (i:Nat),65<=n+out.length->out.length<=64->W ts d fl i (Z1P ts n out i) (Z1P us n out (i+d))
 | 0,out,i,hn,ho=>by omega
 | n+1,out,i,hn,ho=>by
  unfold Z1P
  refine Ql S (fun hs=>W.nxt hs ?_) (W.ok0 _)
  rw[arc]
  refine W.ite (fun _=>Iff.rfl) (fun _=>W.bad (by decide)) fun hm=>(Z8L S (i+1)).bind fun a j _ _=> ?_
  exact Zdy n _ j (by simp; omega) (by simp; omega)
theorem ZhL (i:Nat):W ts d fl i (ZM ts i) (ZM us (i+d)):=by
 unfold ZM
 refine Ql S (fun _=>Z6C S _ i) (Ql S (fun _=>W.ok0 _) ?_)
 exact (Z6B S _ i).bind fun x j _ _=>W.ite (fun _=>Iff.rfl) (fun _=>(Zdy S 65 _ j (by simp) (by simp)).bind fun hs k _ _=>W.ok0 _) fun _=>Z6C S _ j
theorem Zdz (i:Nat):W ts d fl i (Zs ts i) (Zs us (i+d)):=by
 unfold Zs
 refine (Z29 S i).bind fun w j _ _=>W.bind (Ql S (fun hs=>W.nxt hs ?_) (W.ok0 _)) fun lv k _ _=>W.bind (Ql S (fun hs=>W.nxt hs ?_) (W.ok0 _)) fun tu m _ _=>W.ok0 _
 ·rw[arc]; exact Z29 S _
 ·rw[arc]; exact Z8F S _
theorem Zeg (i:Nat):WS ts d fl i (Qw ts i) (Qw us (i+d)):=by
 unfold Qw
 refine (Q4 S _ i).w.bindS fun _ j _ _=>W.bindS (Ql S (fun _=>W.ok0 _) (ZdA S j)) fun b k _ _=>(Q4 S _ k).w.bindS fun _ m _ _=>(Q4 S _ m).w.bindS fun _ o _ _=>(Zdz S o).bindS fun r p _ _=> ?_
 exact WS.map _ (Q4 S _ p)
theorem Z8A (i:Nat):WS ts d fl i (Zy ts i) (Zy us (i+d)):=by
 unfold Zy
 refine WS.ite S (fun _=>Zeg S i) ?_
 refine (ZhL S i).bindS fun r j _ _=>W.bindS (Ql S (fun hs=>W.nxt hs ?_) (W.ok0 _)) fun b k _ _=>WS.map _ (Q4 S _ k)
 rw[arc]; exact ZdA S _
theorem Z8H (n i:Nat):W ts d fl i (Zd n i) (Zd n (i+d)):=by
 unfold Zd
 exact W.ite (fun _=>Iff.rfl) (fun _=>W.bad (by decide)) fun _=>W.ok0 _
theorem Z5r (a:Ac) (i:Nat):WS ts d fl i (Q0 ts a i) (Q0 us a (i+d)):=by
 unfold Q0
 exact (Z8H S _ i).bindS fun _ i _ _=>(Q4 S _ i).w.bindS fun _ j _ _=>(Z2y S (by decide) j).w.bindS fun n k _ _=>(Q4 S _ k).w.bindS fun _ m _ _=>(Z29 S m).bindS fun v o _ _=>WS.map _ (Q4 S _ o)
theorem Zeh (a:Ac) (i:Nat):WS ts d fl i (Z0P ts a i) (Z0P us a (i+d)):=by
 unfold Z0P
 refine (Z8H S _ i).bindS fun _ i _ _=>(Q4 S _ i).w.bindS fun _ j _ _=>W.bindS (Ql S (fun _=>W.ok0 _) ?_) fun b p _ _=>WS.map _ (Q4 S _ p)
 exact (Z2y S (by decide) j).w.bind fun n k _ _=>(Q4 S _ k).w.bind fun _ m _ _=>(Z8B S m).w.bind fun v o _ _=>W.ok0 _
theorem Zdv: ∀ (n:Nat) (rs:List Ru) (i:Nat),401<=n+rs.length->1<=n->W ts d fl i (ZC ts n rs i) (ZC us n rs (i+d))
 | 0,_,_,_,h=>by omega
 | n+1,rs,i,hn,_=>by
  unfold ZC Zd
  by_cases h4:400<=rs.length
  ·rw[if_pos h4,if_pos h4]; exact W.bad (by decide)
  ·rw[if_neg h4,if_neg h4]
   refine (Zdz S i).bind fun r j _ _=>(Z6x S j).bind fun l k _ _=>Ql S (fun hs=>W.nxt hs ?_) (W.ok0 _)
   rw[arc]
   exact Zdv n _ (k+1) (by simp; omega) (by omega)
theorem Z5q (a:Ac) (i:Nat):WS ts d fl i (ZZ ts a i) (ZZ us a (i+d)):=by
 unfold ZZ
 exact (Q4 S _ i).w.bindS fun _ j _ _=>(Q4 S _ j).w.bindS fun _ k _ _=>(Zdv S 401 a.r k (by omega) (by omega)).bindS fun rs m _ _=>(Q4 S _ m).w.bindS fun _ o _ _=>WS.map _ (Q4 S _ o)
theorem Q9 (a:Ac) (i:Nat) (hi:i<ts.length\/fl=true):WS ts d fl i (Zh ts a i) (Zh us a (i+d)):=by
 unfold Zh
 rw[S.tx i hi]
 split
 ·exact Z5r S a i
 split
 ·exact Zeh S a i
 split
 ·exact Z5q S a i
 exact (Z8H S _ i).bindS fun _ i _ _=>WS.map _ (Z8A S i)
end
theorem Z74 {ts us:List Tk} {d:Nat} (S:Sm ts us d false): ∀ (n m:Nat) (a:Ac) (i:Nat),ts.length-i<n->us.length-(i+d)<m->i<=ts.length-> ∀ b j,ZU ts n a i= .ok b j->j=ts.length/\ ∃ m',us.length-(ts.length+d)<m'/\ZU us m a (i+d)=ZU us m' b (ts.length+d)
 | 0,_,_,_,hn,_,_=>by omega
 | _+1,0,_,_,_,hm,_=>by omega
 | n+1,m+1,a,i,hn,hm,hi=>by
  intro b j h
  unfold ZU at h
  have hl:=S.ln
  by_cases hlt:i<ts.length
  ·rw[if_pos hlt] at h
   have hs:=Q9 S a i (.inl hlt)
   cases hx:Zh ts a i with
   | bad a e=>rw[hx] at h; cases h
   | ok c k =>
    rw[hx] at h hs
    obtain⟨h1,h2,h3⟩:=hs
    have hk:=h2 hi
    obtain⟨h4,m',h5,h6⟩:=Z74 S n m c k (by omega) (by omega) hk b j h
    refine⟨h4,m',h5, ?_⟩
    rw[<- h6]
    show ZU us (m+1) a (i+d)=_
    rw[ZU,if_pos (by omega),h3 (.inl hi)]
    rfl
  ·rw[if_neg hlt] at h
   cases h
   have:i=ts.length:=by omega
   subst this
   exact⟨rfl,m+1,hm,rfl⟩
theorem Z2K {ts us:List Tk} {d:Nat} (S:Sm ts us d true): ∀ (n m:Nat) (a:Ac) (i:Nat),ts.length-i<n->us.length-(i+d)<m->W ts d true i (ZU ts n a i) (ZU us m a (i+d))
 | 0,_,_,_,hn,_=>by omega
 | _+1,0,_,_,_,hm=>by omega
 | n+1,m+1,a,i,hn,hm=>by
  have hl:=S.fu rfl
  unfold ZU
  refine W.ite (fun _=>by rw[hl]; omega) (fun h=> ?_) fun _=>W.ok0 _
  exact (Q9 S a i (.inr rfl)).w.bind fun b j hj hx=>Z2K S n m b j (by
   have hs:=Q9 S a i (.inr rfl)
   rw[hx] at hs
   have:=hs.1; omega) (by
   have hs:=Q9 S a i (.inr rfl)
   rw[hx] at hs
   have:=hs.1; omega)
theorem Z5L {α:Type} {ts:List Tk} {i j:Nat} {x:PR α} {a:α} (h:W ts 0 true i x x) (hx:x= .ok a j):i<=j/\(i<=ts.length->j<=ts.length):=by
 subst hx; exact⟨h.1,h.2.1⟩
end Go.Sx.Ps
/- What is parsed keeps the limits. -/
namespace Go.Sx.Ps
open Go.Sx
open Go.Sx.Lx (Tk)
def VP {α:Type} (P:α->Prop):PR α->Prop
 | .ok a _=>P a
 | .bad _ _=>True
section
variable {α β:Type}
theorem VP.bind {P:α->Prop} {Q:β->Prop} {x:PR α} {f:α->Nat->PR β} (h:VP P x) (k: ∀ a j,x= .ok a j->P a->VP Q (f a j)):VP Q (x.bind f):=by
 cases x with
 | ok a j=>exact k a j rfl h
 | bad a e=>trivial
theorem VP.any (x:PR α):VP (fun _=>True) x:=by cases x <;> trivial
theorem VP.ite {P:α->Prop} {c:Prop} [Decidable c] {x y:PR α} (h1:c->VP P x) (h2: ¬ c->VP P y):VP P (if c then x else y):=by
 split
 ·rename_i h; exact h1 h
 ·rename_i h; exact h2 h
theorem VP.mono {P Q:α->Prop} {x:PR α} (h:VP P x) (k: ∀ a,P a->Q a):VP Q x:=by
 cases x with
 | ok a j=>exact k a h
 | bad a e=>trivial
end
def Z4D (ts:List Tk):Prop:= ∀ t∈ts,Lx.Val t
section
variable {ts:List Tk} (H:Z4D ts)
include H in
theorem Z2t {i:Nat} (hk:(Zb ts i).1≠0):Lx.Val (Zb ts i):=by
 have hlt:=Z0j hk
 simp only[Zb,List.getD_eq_getElem?_getD,List.getElem?_eq_getElem hlt,Option.getD_some]
 exact H _ (List.getElem_mem hlt)
theorem Z5v {t:Tk} (h:Lx.Val t) (hk:t.1=1):Lx.Qt t.2.1=true:=by
 obtain⟨h1,h2⟩:=h
 cases hs:t.2.1 with
 | nil=>exact absurd hs h1
 | cons b r =>
  rw[hs,hk] at h2
  unfold Lx.tok at h2
  simp only at h2
  split at h2
  ·rename_i hb
   simp only[Prod.mk.injEq] at h2
   rw[h2.2.1] at h2
   have:=h2.1
   unfold Lx.Z0n at this
   split at this
   ·cases this
   split at this
   ·assumption
   split at this <;> cases this
  split at h2
  ·cases h2
  split at h2 <;> cases h2
theorem Zel {t:Tk} (h:Lx.Val t) (hk:t.1=2):Lx.QF t.2.1=true:=by
 obtain⟨h1,h2⟩:=h
 cases hs:t.2.1 with
 | nil=>exact absurd hs h1
 | cons b r =>
  rw[hs,hk] at h2
  unfold Lx.tok at h2
  simp only at h2
  split at h2
  ·rename_i hb
   simp only[Prod.mk.injEq] at h2
   rw[h2.2.1] at h2
   have:=h2.1
   unfold Lx.Z0n at this
   split at this
   ·cases this
   split at this
   ·cases this
   split at this
   ·assumption
   ·cases this
  split at h2
  ·cases h2
  split at h2 <;> cases h2
theorem Zem {t:Tk} (h:Lx.Val t) (hk:t.1=3): ∃ n:Nat,(n:Int)<=2147483647/\Lib.atoiAll t.2.1= .ok n/\Lib.itoa n=t.2.1:=by
 obtain⟨h1,h2⟩:=h
 cases hs:t.2.1 with
 | nil=>exact absurd hs h1
 | cons b r =>
  rw[hs,hk] at h2
  unfold Lx.tok at h2
  simp only at h2
  split at h2
  ·rename_i hb
   simp only[Prod.mk.injEq] at h2
   have:=h2.1
   unfold Lx.Z0n at this
   split at this
   ·cases this
   split at this
   ·cases this
   split at this <;> cases this
  split at h2
  ·rename_i hd
   simp only[Prod.mk.injEq] at h2
   rw[h2.2.1] at h2
   have h3:=h2.2.2
   unfold Lx.Z9T at h3
   split at h3
   ·rename_i n hn
    split at h3
    ·cases h3
    rename_i hle
    split at h3
    ·rename_i hi
     have hpos:0<=n:=by
      apply Classical.byContradiction
      intro hneg
      have:(Lib.itoa n).head? = some 45:=by
       unfold Lib.itoa; rw[if_pos (by omega)]; rfl
      rw[hi] at this
      simp only[List.head?_cons,Option.some.injEq] at this
      subst this
      exact absurd hd (by decide)
     obtain⟨m,rfl⟩:=Int.eq_ofNat_of_zero_le hpos
     exact⟨m,by omega,hn,hi⟩
    ·cases h3
   ·cases h3
  split at h2 <;> cases h2
def Sh (t:Tm):Prop:=t.all Tm.shape=true
def Vd (t:Tm):Prop:=t.valid=true
def TV (t:Tm):Prop:=t=z0\/Vd t
theorem ZhX {l:List Tm}:Tm.allL Tm.shape l=true ↔ ∀ x∈l,Sh x:=by
 induction l with
 | nil=>simp[Tm.allL]
 | cons a r ih=>simp[Tm.allL,ih,Sh]
theorem Z4d {k:Nat} {n:Int} {s:List UInt8} {l:List Tm}:Sh (.mk k n s l) ↔ Z1k k n s l.length=true/\ ∀ x∈l,Sh x:=by
 unfold Sh
 rw[Tm.all,Bool.and_eq_true,ZhX]
 rfl
theorem ZdE {α:Type} {P:α->Prop} {most:Nat} {sign:List UInt8} {item:Nat->PR α} (hI: ∀ k,VP P (item k)): ∀ (n:Nat) (out:List α) (i:Nat),(∀ x∈out,P x)->VP (fun l=>(∀ x∈l,P x)/\l.length<=most/\l≠[]) (Z10 ts most sign item n out i)
 | 0,_,_,_=>trivial
 | n+1,out,i,ho=>by
  unfold Z10
  refine VP.ite (fun _=>trivial) fun hm=>(hI i).bind fun a j _ ha=> ?_
  have h2: ∀ x∈out++[a],P x:=fun x hx=>by
   rcases List.mem_append.1 hx with h | h
   ·exact ho x h
   ·rw[List.mem_singleton.1 h]; exact ha
  refine VP.ite (fun _=>ZdE hI n _ _ h2) fun _=>⟨h2,by simp; omega,by simp⟩
theorem Z48 {α:Type} {P:α->Prop} {most:Nat} {sign:List UInt8} {item:Nat->PR α} (hI: ∀ k,VP P (item k)) (i:Nat):VP (fun l=>(∀ x∈l,P x)/\l.length<=most/\l≠[]) (Qi ts most sign item i):=ZdE hI _ [] i (by simp)
theorem Z6Y {i:Nat} {l:List (List UInt8)} (h:Z1 ts i l=true):(Zb ts i).2.1∈l:=by
 simp only[Z1,Bool.and_eq_true,List.contains_iff_mem] at h
 exact h.2
theorem Zky {s:List UInt8} {t u:Tm} (hs:s=[43]\/s=[45]\/s=[42]\/s=[47]\/s=[92]) (ht:Sh t) (hu:Sh u):Sh (.mk 5 0 s [t,u]):=by
 refine Z4d.2 ⟨?_,by simp[ht,hu]⟩
 rcases hs with rfl | rfl | rfl | rfl | rfl <;> rfl
theorem Z8Q {operand:Nat->PR Tm} {ops:List (List UInt8)} (hI: ∀ k,VP Sh (operand k)) (ho: ∀ s∈ops,s=[43]\/s=[45]\/s=[42]\/s=[47]\/s=[92]): ∀ (n:Nat) (t:Tm) (i:Nat),Sh t->VP Sh (Z0s ts operand ops n t i)
 | 0,_,_,_=>trivial
 | n+1,t,i,ht=>by
  unfold Z0s
  refine VP.ite (fun hs=>(hI _).bind fun u j _ hu=>Z8Q hI ho n _ j (Zky (ho _ (Z6Y hs)) ht hu)) fun _=>ht
theorem Z6K {operand:Nat->PR Tm} {ops:List (List UInt8)} (hI: ∀ k,VP Sh (operand k)) (ho: ∀ s∈ops,s=[43]\/s=[45]\/s=[42]\/s=[47]\/s=[92]) (i:Nat):VP Sh (Z0b ts operand ops i) :=
 (hI i).bind fun t j _ ht=>Z8Q hI ho _ _ _ ht
theorem ZhO {f:Nat->PR Tm} (hI: ∀ k,VP Sh (f k)) (i:Nat):VP Sh (Z4M ts f i) :=
 Z6K (fun k=>Z6K hI (by decide) k) (by decide) i
theorem Z6H {f:Nat->PR Tm} (hI: ∀ k,VP Sh (f k)) (i:Nat):VP Sh (ZS ts f i) :=
 (ZhO hI i).bind fun t j _ ht=>VP.ite (fun _=>(ZhO hI _).bind fun u k _ hu=>Z4d.2 ⟨rfl,by simp[ht,hu]⟩) fun _=>ht
def Nd (t:Tm):Prop:=Sh t/\(kT t=2\/kT t=4)
theorem Z2P {k:Int} {i j:Nat} {s:List UInt8} (h:Zu ts k i= .ok s j):(Zb ts i).1=k/\s=(Zb ts i).2.1:=by
 unfold Zu at h
 split at h
 ·cases h; exact⟨by assumption,rfl⟩
 ·cases h
include H
theorem Z8N {f:Nat->PR Tm} (hI: ∀ k,VP Sh (f k)) (i:Nat):VP Nd (Q7 ts f i):=by
 unfold Q7
 refine (VP.any _).bind fun s j hx _=> ?_
 obtain⟨hk,rfl⟩:=Z2P hx
 have hs:=Z5v (Z2t H (by rw[hk]; decide)) hk
 refine VP.ite (fun _=>(Z48 hI _).bind fun l k _ hl=>(VP.any _).bind fun _ m _ _=>⟨Z4d.2 ⟨?_,hl.1⟩,.inr rfl⟩) fun _=>⟨Z4d.2 ⟨?_,by simp⟩,.inl rfl⟩
 ·have h1:1<=l.length:=by have:=List.length_pos_iff.2 hl.2.2; omega
  simp[Z1k,hs,hl.2.1,h1]
 ·simp[Z1k,hs]
theorem Z5X {i:Nat} {v:Int} {j:Nat} (h:Z1t ts i= .ok v j):0<=v/\v<=2147483647:=by
 unfold Z1t at h
 cases hx:Zu ts 3 i with
 | bad a e=>rw[hx] at h; cases h
 | ok s k =>
  rw[hx] at h
  cases h
  obtain⟨hk,rfl⟩:=Z2P hx
  obtain⟨n,h1,h2,_⟩:=Zem (Z2t H (by rw[hk]; decide)) hk
  unfold Zl1
  rw[h2]
  exact⟨by simp,h1⟩
omit H in
theorem Z9a {v:Int} (h1: -2147483647<=v) (h2:v<=2147483647):Sh (.mk 1 v [] []):=Z4d.2 ⟨by simp[Z1k,h1,h2],by simp⟩
theorem Z1z: ∀ (n i:Nat),VP Sh (Zl ts n i)
 | 0,_=>trivial
 | n+1,i=>by
  unfold Zl
  refine VP.ite (fun _=>(VP.any _).bind fun v j hx _=> ?_) fun _=>VP.ite (fun _=>(VP.any _).bind fun s j hx _=> ?_) fun _=>VP.ite (fun _=>(Z6H (Z1z n) _).bind fun t j _ ht=>(VP.any _).bind fun _ k _ _=>ht) fun _=>VP.ite (fun _=>VP.ite (fun _=>(VP.any _).bind fun v j hx _=> ?_) fun _=>(Z1z n _).bind fun t j _ ht=>Z4d.2 ⟨rfl,by simp[ht]⟩) fun _=>(Z8N H (Z6H (Z1z n)) i).mono fun t ht=>ht.1
  ·have:=Z5X H hx
   exact Z9a (by omega) this.2
  ·obtain⟨hk,rfl⟩:=Z2P hx
   exact Z4d.2 ⟨by simp[Z1k,Zel (Z2t H (by rw[hk]; decide)) hk],by simp⟩
  ·have:=Z5X H hx
   exact Z9a (by omega) (by omega)
theorem Z5y (i:Nat):VP Sh (Zp ts (fu ts) i):=Z6H (Z1z H _) i
theorem Z6I (i:Nat):VP Nd (Qa ts (fu ts) i):=Z8N H (Z6H (Z1z H _)) i
omit H in
theorem Z8O {t:Tm} (ht:Sh t) (most at' j:Nat):VP (fun u=>u=t/\t.depth<=most) (ZI t most at' j):=by
 unfold ZI
 exact VP.ite (fun _=>trivial) fun h=>⟨rfl,by omega⟩
omit H in
theorem ZbD {t:Tm} (h:Sh t) (hd:t.depth<=12):Vd t:=by
 unfold Vd Tm.valid; simp[hd]; exact h
theorem Z2A (i:Nat):VP Vd (Z9 ts i):=(Z5y H i).bind fun t j _ ht=>(Z8O ht 12 i j).mono fun u hu=>by obtain⟨rfl,h⟩:=hu; exact ZbD ht h
def AmV (a:Am):Prop:=Lx.Qt a.1=true/\a.2.length<=8/\ ∀ x∈a.2,Vd x
omit H in
theorem Z8o {l:List Tm} {x:Tm} (h:x∈l):x.depth<=Tm.depthL l:=by
 induction l with
 | nil=>cases h
 | cons a r ih =>
  rw[Tm.depthL]
  rcases List.mem_cons.1 h with rfl | h
  ·exact Nat.le_max_left _ _
  ·exact Nat.le_trans (ih h) (Nat.le_max_right _ _)
omit H in
theorem Z6M {t:Tm} (ht:Nd t) (at' j:Nat):VP AmV (ZA t at' j):=by
 unfold ZA
 refine (Z8O ht.1 13 at' j).bind fun u k _ hu=> ?_
 obtain⟨rfl,hd⟩:=hu
 obtain⟨hs,hk⟩:=ht
 cases u with
 | mk k n s l =>
  obtain⟨h1,h2⟩:=Z4d.1 hs
  rw[Tm.depth] at hd
  have hv: ∀ x∈l,Vd x:=fun x hx=>ZbD (h2 x hx) (by have:=Z8o hx; omega)
  rcases hk with hk | hk <;> (change k=_ at hk; subst hk) <;> simp[Z1k] at h1
  ·exact⟨h1.1.2,by show l.length<=8; simp[h1.2],hv⟩
  ·exact⟨h1.1.1.2,by show l.length<=8; omega,hv⟩
theorem Z8R (i:Nat):VP AmV (QK ts i):=(Z6I H i).bind fun t j _ ht=>Z6M ht i j
theorem Z6J (ends:List (List UInt8)) (i:Nat):VP (fun x=>(x.2.2=true->AmV x.1)/\(x.2.2≠true->Vd x.2.1)) (Z6 ts ends i):=by
 unfold Z6
 refine (Z5y H i).bind fun t j _ ht=>VP.ite (fun _=>(Z8O ht 12 i j).bind fun u k _ hu=> ?_) fun _=>VP.ite (fun _=>(VP.any _).bind fun _ _ _ _=>trivial) fun hn=> ?_
 ·obtain⟨rfl,hd⟩:=hu
  exact⟨nofun,fun _=>ZbD ht hd⟩
 ·exact (Z6M ⟨ht,by have:=not_or.1 hn; have:=this.2; omega⟩ i j).bind fun a k _ ha=>⟨fun _=>ha,fun h=>absurd rfl h⟩
def LtF (l:Lt):Prop:=l.k=1/\Lx.Qt l.p=true/\l.a.length<=8\/l.k=2/\l.no=false/\1<=l.op/\l.op<=6
def LtT (l:Lt):Prop:=TV l.l/\TV l.r/\(∀ x∈l.a,TV x)/\l.a.length<=8
def LtV (l:Lt):Prop:=LtF l/\LtT l
omit H in
theorem Z0K:TV z0:= .inl rfl
omit H in
theorem ZdH (i:Nat):VP (fun op=>1<=op/\op<=6/\(op=2->(Zb ts i).2.1=[33,61]/\(Zb ts i).1=6)) (Ze ts i):=by
 unfold Ze
 refine VP.ite (fun _=>trivial) fun h=> ?_
 have h2:=not_or.1 h
 generalize (Zb ts i).2.1=s at *
 simp only[cmpL,idxS] at *
 have h6:(Zb ts i).1=6:=by have:=h2.2; omega
 show _/\_/\_
 have h1:=h2.1
 revert h1
 repeat' split
 all_goals first | (intro _; simp_all; done) | (intro h; exfalso; revert h; decide) | (intro _; subst_vars; refine⟨by decide,by decide, ?_⟩; intro hh; first | exact⟨rfl,h6⟩ | (exfalso; revert hh; decide))
theorem Z4I (no:Bool) (i:Nat):VP LtV (Zn ts no i):=by
 unfold Zn
 refine VP.ite (fun _=>(Z8R H i).bind fun a j _ ha=>⟨.inl ⟨rfl,ha.1,ha.2.1⟩,Z0K,Z0K,fun x hx=> .inr (ha.2.2 x hx),ha.2.1⟩) fun _=>(Z6J H cmpL i).bind fun x j _ hx=>VP.ite (fun h=> ?_) fun h=> ?_
 ·have ha:=hx.1 h
  exact⟨.inl ⟨rfl,ha.1,ha.2.1⟩,Z0K,Z0K,fun x hx=> .inr (ha.2.2 x hx),ha.2.1⟩
 ·have ht:=hx.2 h
  exact (ZdH j).bind fun op k _ ho=>(Z2A H k).bind fun r m _ hr=>⟨.inr ⟨rfl,rfl,ho.1,ho.2.1⟩,.inr ht,.inr hr,nofun,Nat.zero_le _⟩
theorem Zkv (i:Nat):VP LtV (Z1S ts i):=Z4I H _ _
def CdV (l:List Lt):Prop:=(∀ x∈l,LtV x)/\l.length<=64
omit H in
theorem Z3b:CdV []:=⟨nofun,by decide⟩
theorem Z3w (i:Nat):VP CdV (Qe ts i):=by
 unfold Qe
 exact VP.ite (fun _=>(Z48 (Zkv H) _).mono fun l hl=>⟨hl.1,hl.2.1⟩) fun _=>Z3b
def TuV (l:List Tm):Prop:=(∀ x∈l,Vd x)/\l.length<=64
theorem Z5w (i:Nat):VP (fun l=>TuV l/\l≠[]) (ZX ts i):=(Z48 (Z2A H) i).mono fun l hl=>⟨⟨hl.1,hl.2.1⟩,hl.2.2⟩
omit H in
theorem Z6L {α:Type} {P:α->Prop} {item:Nat->PR α} (hI: ∀ k,VP P (item k)) (i:Nat):VP (fun l=>(∀ x∈l,P x)/\l.length<=64/\l≠[]) (Zo ts item i) :=
 (VP.any _).bind fun _ j _ _=>(Z48 hI _).bind fun l k _ hl=>(VP.any _).bind fun _ m _ _=>hl
def ElV (e:El):Prop:=TuV e.t/\e.t≠[]/\CdV e.c
theorem ZhS (i:Nat):VP ElV (QO ts i):=(Z5w H i).bind fun l j _ hl=>(Z3w H j).bind fun c k _ hc=>⟨hl.1,hl.2,hc⟩
def BoV (b:Bo):Prop:=TV b.b/\LtT b.l/\CdV b.c/\((∀ e∈b.e,ElV e)/\b.e.length<=64) ∧
 (b.k=3/\1<=b.f/\b.f<=2/\1<=b.op/\b.op<=6/\b.op≠2/\b.e≠[]/\b.e.length<=64/\kT b.b≠0 ∨
  LtF b.l/\b.no=false/\(b.k=1/\b.c=[]\/b.k=2/\b.c≠[]))
omit H in
theorem vd_k {t:Tm} (h:Vd t):kT t≠0:=by
 cases t with
 | mk k n s l =>
  intro hk
  change k=0 at hk
  subst hk
  simp only[Vd,Tm.valid,Bool.and_eq_true,Tm.all,Tm.shape] at h
  have:=h.2.1
  simp[Z1k] at this
omit H in
theorem Zl4:LtT zL:=⟨Z0K,Z0K,nofun,Nat.zero_le _⟩
theorem Z5z (no:Bool) (i:Nat):VP BoV (Zc ts no i):=by
 unfold Zc
 refine VP.bind (P:=fun f=>1<=f/\f<=2) (VP.ite (fun _=>⟨by decide,by decide⟩) fun _=>(VP.any _).bind fun _ j _ _=>⟨by decide,by decide⟩) fun fn j _ hf=> ?_
 refine (Z6L (ZhS H) j).bind fun es k _ he=>VP.ite (fun _=>trivial) fun hs=>(ZdH k).bind fun op m _ ho=>(Z2A H m).bind fun b o _ hb=>⟨.inr hb,Zl4,Z3b,⟨he.1,he.2.1⟩,.inl ⟨rfl,hf.1,hf.2,ho.1,ho.2.1,fun h2=>hs ?_,he.2.2,he.2.1,vd_k hb⟩⟩
 obtain⟨h3,h4⟩:=ho.2.2 h2
 simp[Z1,h3,h4]
theorem Z8P (i:Nat):VP BoV (Zg ts i):=by
 unfold Zg
 refine VP.ite (fun _=>Z5z H _ _) fun _=>(Z4I H _ _).bind fun l j _ hl=>(Z3w H j).bind fun c k _ hc=>⟨Z0K,hl.2,hc,⟨nofun,Nat.zero_le _⟩,.inr ⟨hl.1,rfl, ?_⟩⟩
 by_cases h:c=[]
 ·exact .inl ⟨by simp[h],h⟩
 ·exact .inr ⟨by simp[h],h⟩
theorem Z49: ∀ (n:Nat) (out:List Bo) (i:Nat),(∀ x∈out,BoV x)->VP (fun l=>(∀ x∈l,BoV x)/\l.length<=64) (Z0J ts n out i)
 | 0,_,_,_=>trivial
 | n+1,out,i,ho=>by
  unfold Z0J
  refine VP.ite (fun _=>trivial) fun hm=>(Z8P H i).bind fun b j _ hb=> ?_
  have h2: ∀ x∈out++[b],BoV x:=fun x hx=>by
   rcases List.mem_append.1 hx with h | h
   ·exact ho x h
   ·rw[List.mem_singleton.1 h]; exact hb
  have h3:(out++[b]).length<=64:=by simp; omega
  exact VP.ite (fun _=>Z49 n _ _ h2) fun _=>VP.ite (fun _=>⟨h2,h3⟩) fun _=>VP.ite (fun _=>Z49 n _ _ h2) fun _=>⟨h2,h3⟩
def BdV (l:List Bo):Prop:=(∀ x∈l,BoV x)/\l.length<=64
theorem ZdI (i:Nat):VP BdV (ZO ts i):=Z49 H 65 [] i nofun
omit H in
theorem Z3i:BdV []:=⟨nofun,by decide⟩
def HeV (h:He):Prop:=Lx.Qt h.p=true/\h.a.length<=8/\(∀ x∈h.a,TV x)/\CdV h.c
structure RuV (r:Ru):Prop where
 k:1<=r.k/\r.k<=3
 lo:TV r.lo
 up:TV r.up
 w:TV r.w
 lv:TV r.lv
 t:TuV r.t
 h: ∀ x∈r.h,HeV x
 hl:r.h.length<=64
 b:BdV r.b
 k3:r.k=3->r.h=[]/\kT r.w≠0/\kT r.lv≠0
 k2:r.k=2->r.h≠[]
 k1:r.k=1-> ∀ x∈r.h,x.c=[]
omit H in
theorem Z5B:TuV []:=⟨nofun,by decide⟩
theorem Zen (i:Nat):VP HeV (Z0q ts i):=(Z8R H i).bind fun a j _ ha=>(Z3w H j).bind fun c k _ hc=>⟨ha.1,ha.2.1,fun x hx=> .inr (ha.2.2 x hx),hc⟩
theorem ZbG {lo:Tm} (hlo:TV lo) (i:Nat):VP RuV (Zf ts lo i):=by
 unfold Zf
 refine (Z6L (Zen H) i).bind fun hs j _ hh=> ?_
 have mk: ∀ u,TV u->RuV { zR with k:=2,lo:=lo,h:=hs,up:=u }:=fun u hu=>⟨⟨by dsimp only; decide,by dsimp only; decide⟩,hlo,hu,Z0K,Z0K,Z5B,hh.1,hh.2.1,Z3i,nofun,fun _=>hh.2.2,nofun⟩
 exact VP.ite (fun _=>mk z0 Z0K) fun _=>(Z2A H j).bind fun u k _ hu=>mk u (.inr hu)
theorem ZdF: ∀ (n:Nat) (out:List He) (i:Nat),(∀ x∈out,HeV x/\x.c=[])->out.length<=64->VP (fun l=>(∀ x∈l,HeV x/\x.c=[])/\l.length<=64) (Z1P ts n out i)
 | 0,_,_,_,_=>trivial
 | n+1,out,i,ho,hl=>by
  unfold Z1P
  refine VP.ite (fun _=>VP.ite (fun _=>trivial) fun hm=>(Z8R H _).bind fun a j _ ha=>ZdF n _ j (fun x hx=> ?_) (by simp; omega)) fun _=>⟨ho,hl⟩
  rcases List.mem_append.1 hx with h | h
  ·exact ho x h
  ·rw[List.mem_singleton.1 h]; exact⟨⟨ha.1,ha.2.1,fun x hx=> .inr (ha.2.2 x hx),Z3b⟩,rfl⟩
theorem ZhR (i:Nat):VP (fun r=>RuV r/\r.k≠3) (ZM ts i):=by
 unfold ZM
 have hc: ∀ {lo:Tm},TV lo-> ∀ i,VP (fun r=>RuV r/\r.k≠3) (Zf ts lo i):=fun {lo} hlo i=>by
  have:=ZbG H hlo i
  cases hx:Zf ts lo i with
  | bad a e=>trivial
  | ok r j =>
   rw[hx] at this
   refine⟨this, ?_⟩
   unfold Zf at hx
   cases h1:Zo ts (Z0q ts) i with
   | bad a e=>rw[h1] at hx; cases hx
   | ok hs k =>
    rw[h1] at hx
    simp only[PR.bind] at hx
    split at hx
    ·cases hx; dsimp only; decide
    ·cases h2:Z9 ts k with
     | bad a e=>rw[h2] at hx; cases hx
     | ok u m=>rw[h2] at hx; cases hx; dsimp only; decide
 have mk: ∀ hs:List He,(∀ x∈hs,HeV x/\x.c=[])->hs.length<=64->RuV { zR with k:=1,h:=hs }:=fun hs h1 h2=>⟨⟨by dsimp only; decide,by dsimp only; decide⟩,Z0K,Z0K,Z0K,Z0K,Z5B,fun x hx=>(h1 x hx).1,h2,Z3i,nofun,nofun,fun _ x hx=>(h1 x hx).2⟩
 refine VP.ite (fun _=>hc Z0K i) fun _=>VP.ite (fun _=>⟨mk [] nofun (by decide),by dsimp only; decide⟩) fun _=>(Z6J H _ i).bind fun x j _ hx=>VP.ite (fun h=> ?_) fun h=>hc (.inr (hx.2 h)) j
 have ha:=hx.1 h
 refine (ZdF H 65 _ j (fun y hy=> ?_) (by simp)).bind fun hs k _ hh=>⟨mk hs hh.1 hh.2,by dsimp only; decide⟩
 rw[List.mem_singleton.1 hy]; exact⟨⟨ha.1,ha.2.1,fun x hx=> .inr (ha.2.2 x hx),Z3b⟩,rfl⟩
theorem ZdG (i:Nat):VP (fun r=>RuV r/\r.k=3/\r.b=[]) (Zs ts i):=by
 unfold Zs
 refine (Z2A H i).bind fun w j _ hw=>VP.bind (P:=Vd) (VP.ite (fun _=>Z2A H _) fun _=>ZbD (Z9a (by decide) (by decide)) (by decide)) fun lv k _ hv=>VP.bind (P:=TuV) (VP.ite (fun _=>(Z5w H _).mono fun l hl=>hl.1) fun _=>Z5B) fun tu m _ ht=>⟨⟨⟨by dsimp only; decide,by dsimp only; decide⟩,Z0K,Z0K,.inr hw,.inr hv,ht,nofun,(by dsimp only; decide),Z3i,fun _=>⟨rfl,vd_k hw,vd_k hv⟩,nofun,nofun⟩,rfl,rfl⟩
omit H in
theorem Z4h {r:Ru} (h:RuV r) {b:List Bo} (hb:BdV b):RuV { r with b:=b }:=⟨h.k,h.lo,h.up,h.w,h.lv,h.t,h.h,h.hl,hb,h.k3,h.k2,h.k1⟩
theorem ZhN (i:Nat):VP RuV (Qw ts i):=by
 unfold Qw
 exact (VP.any _).bind fun _ j _ _=>VP.bind (P:=BdV) (VP.ite (fun _=>Z3i) fun _=>ZdI H j) fun b k _ hb=>(VP.any _).bind fun _ m _ _=>(VP.any _).bind fun _ o _ _=>(ZdG H o).bind fun r p _ hr=>(VP.any _).bind fun _ q _ _=>Z4h hr.1 hb
theorem ZhQ (i:Nat):VP RuV (Zy ts i):=by
 unfold Zy
 exact VP.ite (fun _=>ZhN H i) fun _=>(ZhR H i).bind fun r j _ hr=>VP.bind (P:=BdV) (VP.ite (fun _=>ZdI H _) fun _=>Z3i) fun b k _ hb=>(VP.any _).bind fun _ m _ _=>Z4h hr.1 hb
structure AcV (a:Ac):Prop where
 r: ∀ x∈a.r,RuV x
 rl:a.r.length<=400
 c: ∀ x∈a.c,Lx.Qt x.n=true/\Vd x.v
 cl:a.c.length<=400
 sl:a.s.length<=400
 so:a.s≠[]->a.so=true
omit H in
theorem Z0x {n i j:Nat} {u:Unit} (h:Zd n i= .ok u j):n<400:=by
 unfold Zd at h
 split at h
 ·cases h
 ·omega
theorem Z7N {a:Ac} (ha:AcV a) (i:Nat):VP AcV (Q0 ts a i):=by
 unfold Q0
 refine (VP.any _).bind fun _ i hm _=>(VP.any _).bind fun _ j _ _=>(VP.any _).bind fun n k hn _=>(VP.any _).bind fun _ m _ _=>(Z2A H m).bind fun v o _ hv=>(VP.any _).bind fun _ p _ _=> ?_
 have hm:=Z0x hm
 obtain⟨hk,rfl⟩:=Z2P hn
 refine⟨ha.r,ha.rl,fun x hx=> ?_,by simp; omega,ha.sl,ha.so⟩
 rcases List.mem_append.1 hx with h | h
 ·exact ha.c x h
 ·rw[List.mem_singleton.1 h]; exact⟨Z5v (Z2t H (by rw[hk]; decide)) hk,hv⟩
omit H in
theorem ZhP {a:Ac} (ha:AcV a) (i:Nat):VP AcV (Z0P ts a i):=by
 unfold Z0P
 refine (VP.any _).bind fun _ i hm _=>(VP.any _).bind fun _ j _ _=>VP.bind (P:=AcV) (VP.ite (fun _=>⟨ha.r,ha.rl,ha.c,ha.cl,ha.sl,fun _=>rfl⟩) fun _=>(VP.any _).bind fun n k _ _=>(VP.any _).bind fun _ m _ _=>(VP.any _).bind fun v o _ _=> ?_) fun b p _ hb=>(VP.any _).bind fun _ q _ _=>hb
 have hm:=Z0x hm
 exact⟨ha.r,ha.rl,ha.c,ha.cl,by simp; omega,fun _=>rfl⟩
theorem ZdD: ∀ (n:Nat) (rs:List Ru) (i:Nat),(∀ x∈rs,RuV x)->VP (fun l=>(∀ x∈l,RuV x)/\l.length<=400) (ZC ts n rs i)
 | 0,_,_,_=>trivial
 | n+1,rs,i,ho=>by
  unfold ZC
  refine (VP.any _).bind fun _ i hm _=>(ZdG H i).bind fun r j _ hr=>(Z3w H j).bind fun l k _ hl=> ?_
  have hm:=Z0x hm
  have hb:BdV (l.map fun x=>(⟨1,x,[],false,0,[],0,z0⟩:Bo)):=⟨fun b hb=>by
   obtain⟨x,hx,rfl⟩:=List.mem_map.1 hb
   exact⟨Z0K,(hl.1 x hx).2,Z3b,⟨nofun,Nat.zero_le _⟩,.inr ⟨(hl.1 x hx).1,rfl,.inl ⟨rfl,rfl⟩⟩⟩,by simpa using hl.2⟩
  have h2: ∀ x∈rs++[{ r with b:=l.map fun x=>(⟨1,x,[],false,0,[],0,z0⟩:Bo) }],RuV x:=fun x hx=>by
   rcases List.mem_append.1 hx with h | h
   ·exact ho x h
   ·rw[List.mem_singleton.1 h]; exact Z4h hr.1 hb
  exact VP.ite (fun _=>ZdD n _ _ h2) fun _=>⟨h2,by simp; omega⟩
theorem Z7M {a:Ac} (ha:AcV a) (i:Nat):VP AcV (ZZ ts a i):=by
 unfold ZZ
 exact (VP.any _).bind fun _ j _ _=>(VP.any _).bind fun _ k _ _=>(ZdD H 401 a.r k ha.r).bind fun rs m _ hr=>(VP.any _).bind fun _ o _ _=>(VP.any _).bind fun _ p _ _=>⟨hr.1,hr.2,ha.c,ha.cl,ha.sl,ha.so⟩
theorem Z5x {a:Ac} (ha:AcV a) (i:Nat):VP AcV (Zh ts a i):=by
 unfold Zh
 refine VP.ite (fun _=>Z7N H ha i) fun _=>VP.ite (fun _=>ZhP ha i) fun _=>VP.ite (fun _=>Z7M H ha i) fun _=>(VP.any _).bind fun _ i hm _=>(ZhQ H i).bind fun r j _ hr=> ?_
 have hm:=Z0x hm
 refine⟨fun x hx=> ?_,by simp; omega,ha.c,ha.cl,ha.sl,ha.so⟩
 rcases List.mem_append.1 hx with h | h
 ·exact ha.r x h
 ·rw[List.mem_singleton.1 h]; exact hr
theorem ZdC: ∀ (n:Nat) (a:Ac) (i:Nat),AcV a->VP AcV (ZU ts n a i)
 | 0,_,_,_=>trivial
 | n+1,a,i,ha=>by
  unfold ZU
  exact VP.ite (fun _=>(Z5x H ha i).bind fun b j _ hb=>ZdC n b j hb) fun _=>ha
theorem Z8M:VP AcV (Zz ts):=ZdC H _ _ _ ⟨nofun,by decide,nofun,by decide,by decide,nofun⟩
end
theorem Z4F {f:UInt8->Bool} {s:List UInt8} (h:Lx.Z1o f s=true):s.length<=32:=by
 unfold Lx.Z1o at h
 split at h
 ·cases h
 ·simp only[Bool.and_eq_true,decide_eq_true_eq] at h; exact h.2
theorem Z2C {s:List UInt8} (h:Lx.Qt s=true):s.length<=32:=by
 simp only[Lx.Qt,Bool.and_eq_true] at h; exact Z4F h.1
theorem Z47 {s:List UInt8} (h:Lx.QF s=true):s.length<=32:=by
 simp only[Lx.QF,Bool.or_eq_true] at h
 rcases h with h | h
 ·exact Z4F h
 ·split at h
  ·simp only[Bool.and_eq_true,decide_eq_true_eq] at h; exact h.2
  ·cases h
theorem Z99 {k:Nat} {n:Int} {s:List UInt8} {m:Nat} (h:Z1k k n s m=true):k<=255/\ -9223372036854775808<=n/\n<=9223372036854775807/\s.length<=32/\m<=8:=by
 unfold Z1k at h
 split at h
 ·rename_i hk; simp only[Bool.and_eq_true,decide_eq_true_eq] at h; obtain⟨⟨⟨h1,h2⟩,rfl⟩,rfl⟩:=h; refine⟨by omega,by omega,by omega,by simp,by omega⟩
 split at h
 ·rename_i hk; simp only[Bool.and_eq_true,decide_eq_true_eq] at h; obtain⟨⟨rfl,h1⟩,rfl⟩:=h; exact⟨by omega,by omega,by omega,Z2C h1,by omega⟩
 split at h
 ·rename_i hk; simp only[Bool.and_eq_true,decide_eq_true_eq] at h; obtain⟨⟨rfl,h1⟩,rfl⟩:=h; exact⟨by omega,by omega,by omega,Z47 h1,by omega⟩
 split at h
 ·rename_i hk; simp only[Bool.and_eq_true,decide_eq_true_eq] at h; obtain⟨⟨⟨rfl,h1⟩,_⟩,h2⟩:=h; exact⟨by omega,by omega,by omega,Z2C h1,h2⟩
 split at h
 ·rename_i hk; simp only[Bool.and_eq_true,Bool.or_eq_true,decide_eq_true_eq] at h; obtain⟨⟨rfl,h1⟩,h2⟩:=h
  refine⟨by omega,by omega,by omega, ?_,by omega⟩
  rcases h1 with (((rfl | rfl) | rfl) | rfl) | rfl <;> decide
 split at h
 ·rename_i hk; simp only[Bool.and_eq_true,decide_eq_true_eq] at h; obtain⟨⟨rfl,rfl⟩,rfl⟩:=h; exact⟨by omega,by omega,by omega,by simp,by omega⟩
 ·cases h
mutual
theorem ZeE: ∀ t:Tm,Sh t->t.wf 281474976710656
 | .mk k n s l,h=>by
  obtain⟨h1,h2⟩:=Z4d.1 h
  obtain⟨a1,a2,a3,a4,a5⟩:=Z99 h1
  exact⟨a1,a2,a3,by omega,by omega,ZdN l h2⟩
theorem ZdN: ∀ l:List Tm,(∀ x∈l,Sh x)->Tm.wfL 281474976710656 l
 | [],_=>trivial
 | a::r,h=>⟨ZeE a (h a (by simp)),ZdN r fun x hx=>h x (by simp[hx])⟩
end
def DP (i:Nat):PR Tm->Prop
 | .ok t j=>t.depth+i<=j
 | .bad _ _=>True
theorem DP.bind {α:Type} {i:Nat} {x:PR α} {f:α->Nat->PR Tm} (k: ∀ a j,x= .ok a j->DP i (f a j)):DP i (x.bind f):=by
 cases x with
 | ok a j=>exact k a j rfl
 | bad a e=>trivial
theorem DP.of {i:Nat} {x:PR Tm} (h:DP i x) {t:Tm} {j:Nat} (hx:x= .ok t j):t.depth+i<=j:=by subst hx; exact h
theorem DP.ite {i:Nat} {c:Prop} [Decidable c] {x y:PR Tm} (h1:c->DP i x) (h2: ¬ c->DP i y):DP i (if c then x else y):=by
 split
 ·rename_i h; exact h1 h
 ·rename_i h; exact h2 h
theorem ZdY (k:Nat) (n:Int) (s:List UInt8) (t u:Tm):(Tm.mk k n s [t,u]).depth=max t.depth u.depth+1:=by
 simp only[Tm.depth,Tm.depthL]
 have:Nat.max t.depth (Nat.max u.depth 0)=max t.depth u.depth:=by
  show max t.depth (max u.depth 0)=_
  omega
 rw[this]
theorem ZjG (k:Nat) (n:Int) (s:List UInt8) (t:Tm):(Tm.mk k n s [t]).depth=t.depth+1:=by
 simp only[Tm.depth,Tm.depthL]
 have:Nat.max t.depth 0=t.depth:=by show max t.depth 0=_; omega
 rw[this]
section
variable {ts:List Tk}
theorem Z1L {k:Int} {i j:Nat} {s:List UInt8} (h:Zu ts k i= .ok s j):j=i+1:=by
 unfold Zu at h
 split at h <;> cases h
 rfl
theorem Z7a {t:List UInt8} {i j:Nat} {u:Unit} (h:Z0 ts t i= .ok u j):j=i+1:=by
 unfold Z0 at h
 split at h <;> cases h
 rfl
theorem Z5Y {i j:Nat} {v:Int} (h:Z1t ts i= .ok v j):j=i+1:=by
 unfold Z1t at h
 cases hx:Zu ts 3 i with
 | bad a e=>rw[hx] at h; cases h
 | ok s k=>rw[hx] at h; cases h; exact Z1L hx
theorem ZaG {operand:Nat->PR Tm} {ops:List (List UInt8)} {i0:Nat} (hI: ∀ k,i0<=k->DP k (operand k)): ∀ (n:Nat) (t:Tm) (i:Nat),i0+t.depth<=i->DP i0 (Z0s ts operand ops n t i)
 | 0,_,_,_=>trivial
 | n+1,t,i,h=>by
  unfold Z0s
  refine DP.ite (fun _=>DP.bind fun u j hu=> ?_) fun _=>by show _<=_; omega
  have:=(hI (i+1) (by omega)).of hu
  exact ZaG hI n _ j (by rw[ZdY]; omega)
theorem Z7u {operand:Nat->PR Tm} {ops:List (List UInt8)} {i0:Nat} (hI: ∀ k,i0<=k->DP k (operand k)) {i:Nat} (h:i0<=i):DP i (Z0b ts operand ops i):=by
 unfold Z0b
 refine DP.bind fun t j ht=> ?_
 have:=(hI i h).of ht
 exact ZaG (i0:=i) (fun k hk=>hI k (by omega)) _ _ _ (by omega)
theorem ZjI {f:Nat->PR Tm} {i0:Nat} (hI: ∀ k,i0<=k->DP k (f k)) {i:Nat} (h:i0<=i):DP i (Z4M ts f i):=Z7u (fun k hk=>Z7u hI hk) h
theorem ZaE {f:Nat->PR Tm} {i0:Nat} (hI: ∀ k,i0<=k->DP k (f k)) {i:Nat} (h:i0<=i):DP i (ZS ts f i):=by
 unfold ZS
 refine DP.bind fun t j ht=> ?_
 have h1:=(ZjI hI h).of ht
 refine DP.ite (fun _=>DP.bind fun u k hu=> ?_) fun _=>h1
 have h2:=(ZjI (ts:=ts) hI (i:=j+1) (by omega)).of hu
 show _<=_
 rw[ZdY]; omega
theorem Ze0 {most:Nat} {sign:List UInt8} {item:Nat->PR Tm} {i0:Nat} (hI: ∀ k,i0<=k->DP k (item k)): ∀ (n:Nat) (out:List Tm) (i:Nat),i0<=i->(∀ x∈out,x.depth+i0<=i)-> ∀ l j,Z10 ts most sign item n out i= .ok l j->i<=j/\ ∀ x∈l,x.depth+i0<=j
 | 0,_,_,_,_,_,_,h=>by cases h
 | n+1,out,i,hi,ho,l,j,h=>by
  unfold Z10 at h
  split at h
  ·cases h
  cases hx:item i with
  | bad a e=>rw[hx] at h; cases h
  | ok t k =>
   rw[hx] at h
   simp only[PR.bind] at h
   have h1:=(hI i hi).of hx
   have h2: ∀ x∈out++[t],x.depth+i0<=k:=fun x hx=>by
    rcases List.mem_append.1 hx with h | h
    ·have:=ho x h; omega
    ·rw[List.mem_singleton.1 h]; omega
   split at h
   ·have:=Ze0 hI n _ (k+1) (by omega) (fun x hx=>by have:=h2 x hx; omega) l j h
    exact⟨by omega,this.2⟩
   ·cases h; exact⟨by omega,h2⟩
theorem Z38 {l:List Tm} {n:Nat} (h: ∀ x∈l,x.depth<=n):Tm.depthL l<=n:=by
 induction l with
 | nil=>exact Nat.zero_le _
 | cons a r ih=>rw[Tm.depthL]; exact Nat.max_le.2 ⟨h a (by simp),ih fun x hx=>h x (by simp[hx])⟩
theorem ZaF {f:Nat->PR Tm} {i:Nat} (hI: ∀ k,i+1<=k->DP k (f k)):DP i (Q7 ts f i):=by
 unfold Q7
 refine DP.bind fun s j hs=> ?_
 have:=Z1L hs
 subst this
 refine DP.ite (fun _=>DP.bind fun l k hl=>DP.bind fun _ m hm=> ?_) fun _=>by show _<=_; simp[Tm.depth,Tm.depthL]; omega
 have h1:=Ze0 (i0:=i+1) hI _ _ _ (by omega) (fun x hx=>by cases hx) l k hl
 have:=Z7a hm
 subst this
 show _<=_
 rw[Tm.depth]
 have h3:=Z38 (n:=k-(i+1)) fun x hx=>by have:=h1.2 x hx; omega
 omega
theorem Z2v: ∀ (n i:Nat),DP i (Zl ts n i)
 | 0,_=>trivial
 | n+1,i=>by
  unfold Zl
  refine DP.ite (fun _=>DP.bind fun v j hv=> ?_) fun _=>DP.ite (fun _=>DP.bind fun s j hs=> ?_) fun _=>DP.ite (fun _=>DP.bind fun t j ht=>DP.bind fun _ k hk=> ?_) fun _=>DP.ite (fun _=>DP.ite (fun _=>DP.bind fun v j hv=> ?_) fun _=>DP.bind fun t j ht=> ?_) fun _=>ZaF fun k hk=>ZaE (i0:=k) (fun m _=>Z2v n m) (Nat.le_refl k)
  ·have:=Z5Y hv; subst this; show _<=_; simp[Tm.depth,Tm.depthL]; omega
  ·have:=Z1L hs; subst this; show _<=_; simp[Tm.depth,Tm.depthL]; omega
  ·have h1:=(ZaE (ts:=ts) (i0:=0) (fun m _=>Z2v n m) (Nat.zero_le (i+1))).of ht
   have:=Z7a hk; subst this; show _<=_; omega
  ·have:=Z5Y hv; subst this; show _<=_; simp[Tm.depth,Tm.depthL]; omega
  ·have h1:=(Z2v n (i+1)).of ht
   show _<=_; rw[ZjG]; omega
theorem ZaD (n i:Nat):DP i (Zp ts n i):=ZaE (i0:=0) (fun m _=>Z2v n m) (Nat.zero_le i)
theorem Zcz (n i:Nat):DP i (Qa ts n i):=ZaF fun k _=>ZaD n k
end
theorem Z7y (ts:List Tk) (lo:Tm) (i:Nat):VP (fun r=>r.b=[]) (Zf ts lo i):=by
 unfold Zf
 exact (VP.any _).bind fun hs j _ _=>VP.ite (fun _=>rfl) fun _=>(VP.any _).bind fun u k _ _=>rfl
theorem ZjM (ts:List Tk) (i:Nat):VP (fun r=>r.b=[]) (ZM ts i):=by
 unfold ZM
 exact VP.ite (fun _=>Z7y ts _ i) fun _=>VP.ite (fun _=>rfl) fun _=>(VP.any _).bind fun x j _ _=>VP.ite (fun _=>(VP.any _).bind fun hs k _ _=>rfl) fun _=>Z7y ts _ j
theorem Z7l {ts:List Tk} {i:Nat} (h:ts.length<=i):Zb ts i=(0,[],0):=by
 simp only[Zb,List.getD_eq_getElem?_getD,List.getElem?_eq_none h,Option.getD_none]
theorem Z6Z {ts:List Tk} {i:Nat} (h:ts.length<=i) (l:List (List UInt8)):Z1 ts i l=false:=by
 cases hs:Z1 ts i l with
 | false=>rfl
 | true=>have:=Qg hs; omega
theorem Z55 {ts:List Tk} {i:Nat} (h:ts.length<=i) (f:Nat->PR Tm):Q7 ts f i= .bad i 40:=by
 unfold Q7 Zu
 rw[Z7l h]
 rfl
theorem Z8m {ts:List Tk} {i:Nat} (h:ts.length<=i) (n:Nat): ∃ e,Zl ts n i= .bad i e:=by
 cases n with
 | zero=>exact⟨_,rfl⟩
 | succ n =>
  unfold Zl
  rw[Z7l h,Z6Z h,Z6Z h,Z55 h]
  exact⟨40,rfl⟩
theorem Zc7 {ts:List Tk} {i:Nat} (h:ts.length<=i) (n:Nat): ∃ e,Zp ts n i= .bad i e:=by
 obtain⟨e,he⟩:=Z8m h n
 exact⟨e,by simp only[Zp,ZS,Z4M,Z0b,Z1c,he,PR.bind]⟩
theorem Zg6 {ts:List Tk} {n i j:Nat} {t:Tm} (h:Zp ts n i= .ok t j):i<ts.length:=by
 apply Classical.byContradiction
 intro hn
 obtain⟨e,he⟩:=Zc7 (ts:=ts) (i:=i) (by omega) n
 rw[he] at h; cases h
theorem Zch {ts:List Tk} {n i j:Nat} {t:Tm} (h:Qa ts n i= .ok t j):i<ts.length:=by
 apply Classical.byContradiction
 intro hn
 rw[Qa,Z55 (by omega)] at h; cases h
def PR.isOk {α:Type}:PR α->Bool
 | .ok _ _=>true
 | .bad _ _=>false
def PR.pos {α:Type}:PR α->Nat
 | .ok _ j=>j
 | .bad _ _=>0
def PR.val {α:Type} (z:α):PR α->α
 | .ok a _=>a
 | .bad _ _=>z
end Go.Sx.Ps
/- One rule; programs behind each other. -/
namespace Go.Sx.Ps
open Go.Sx
open Go.Sx.Lx (Tk)
structure Gr (a b:Ac):Prop where
 r:a.r.length<=b.r.length
 c:a.c.length<=b.c.length
 s:a.s.length<=b.s.length
 so:a.so=true->b.so=true
theorem Gr.refl (a:Ac):Gr a a:=⟨Nat.le_refl _,Nat.le_refl _,Nat.le_refl _,id⟩
theorem Gr.trans {a b c:Ac} (h:Gr a b) (k:Gr b c):Gr a c:=⟨Nat.le_trans h.r k.r,Nat.le_trans h.c k.c,Nat.le_trans h.s k.s,fun x=>k.so (h.so x)⟩
def GrS (a b:Ac):Prop:=Gr a b/\(a.r.length<b.r.length\/a.c.length<b.c.length\/b.so=true)
section
variable {ts:List Tk}
theorem Zai: ∀ (n:Nat) (rs:List Ru) (i:Nat),VP (fun l=>rs.length<l.length) (ZC ts n rs i)
 | 0,_,_=>trivial
 | n+1,rs,i=>by
  unfold ZC
  refine (VP.any _).bind fun _ i _ _=>(VP.any _).bind fun r j _ _=>(VP.any _).bind fun l k _ _=>VP.ite (fun _=>(Zai n _ _).mono fun l hl=> ?_) fun _=>by show _<_; simp
  simp at hl; omega
theorem Z6b (a:Ac) (i:Nat):VP (GrS a) (Zh ts a i):=by
 unfold Zh
 refine VP.ite (fun _=> ?_) fun _=>VP.ite (fun _=> ?_) fun _=>VP.ite (fun _=> ?_) fun _=> ?_
 ·unfold Q0
  exact (VP.any _).bind fun _ i _ _=>(VP.any _).bind fun _ j _ _=>(VP.any _).bind fun n k _ _=>(VP.any _).bind fun _ m _ _=>(VP.any _).bind fun v o _ _=>(VP.any _).bind fun _ p _ _=>⟨⟨Nat.le_refl _,by simp,Nat.le_refl _,id⟩,.inr (.inl (by simp))⟩
 ·unfold Z0P
  refine (VP.any _).bind fun _ i _ _=>(VP.any _).bind fun _ j _ _=>VP.bind (P:=GrS a) (VP.ite (fun _=>⟨⟨Nat.le_refl _,Nat.le_refl _,Nat.le_refl _,fun _=>rfl⟩,.inr (.inr rfl)⟩) fun _=>(VP.any _).bind fun n k _ _=>(VP.any _).bind fun _ m _ _=>(VP.any _).bind fun v o _ _=>⟨⟨Nat.le_refl _,Nat.le_refl _,by simp,fun _=>rfl⟩,.inr (.inr rfl)⟩) fun b p _ hb=>(VP.any _).bind fun _ q _ _=>hb
 ·unfold ZZ
  refine (VP.any _).bind fun _ j _ _=>(VP.any _).bind fun _ k _ _=>(Zai 401 a.r k).bind fun rs m _ hr=>(VP.any _).bind fun _ o _ _=>(VP.any _).bind fun _ p _ _=>⟨⟨Nat.le_of_lt hr,Nat.le_refl _,Nat.le_refl _,id⟩,.inl hr⟩
 ·exact (VP.any _).bind fun _ i _ _=>(VP.any _).bind fun r j _ _=>⟨⟨by simp,Nat.le_refl _,Nat.le_refl _,id⟩,.inl (by simp)⟩
theorem ZdV: ∀ (n:Nat) (a:Ac) (i:Nat),VP (fun b=>Gr a b/\(i<ts.length->GrS a b)) (ZU ts n a i)
 | 0,_,_=>trivial
 | n+1,a,i=>by
  unfold ZU
  refine VP.ite (fun _=>(Z6b a i).bind fun b j _ hb=>(ZdV n b j).mono fun c hc=> ?_) fun h=>⟨Gr.refl a,fun h2=>absurd h2 h⟩
  have hg:=hb.1.trans hc.1
  refine⟨hg,fun _=>⟨hg, ?_⟩⟩
  rcases hb.2 with h | h | h
  ·exact .inl (Nat.lt_of_lt_of_le h hc.1.r)
  ·exact .inr (.inl (Nat.lt_of_lt_of_le h hc.1.c))
  ·exact .inr (.inr (hc.1.so h))
end
theorem ZbK:(Lx.tok QV).1=5:=by decide +kernel
theorem ZbE {t:Tk} (h:Lx.Val t):t.1=(Lx.tok t.2.1).1:=by rw[h.2]
section
variable {ts:List Tk} (H:Z4D ts)
include H
end
def Ac.app (p a:Ac):Ac:=⟨p.r++a.r,p.c++a.c,p.s++a.s,p.so || a.so⟩
def ZhC (p b:Ac):Prop:=400<p.r.length+b.r.length\/400<p.c.length+b.c.length\/400<p.s.length+b.s.length
def RA (p:Ac):PR Ac->PR Ac->Prop
 | .ok b j,y=>y= .ok (p.app b) j\/(∃ k,y= .bad k 5)/\ZhC p b
 | .bad k e,y=>y= .bad k e\/ ∃ k',y= .bad k' 5
theorem RA.bind {α:Type} {p:Ac} {x:PR α} {f g:α->Nat->PR Ac} (h: ∀ a j,x= .ok a j->RA p (f a j) (g a j)):RA p (x.bind f) (x.bind g):=by
 cases x with
 | ok a j=>exact h a j rfl
 | bad a e=>exact .inl rfl
theorem RA.ok (p b:Ac) (j:Nat) {c:Ac} (h:c=p.app b):RA p (.ok b j) (.ok c j):= .inl (by rw[h])
theorem RA.more {p:Ac} {n m:Nat} {i:Nat} {f g:Unit->Nat->PR Ac} (h:n+m<400->RA p (f () i) (g () i)) (ho:400<=n+m->VP (ZhC p) (f () i)):RA p ((Zd m i).bind f) ((Zd (n+m) i).bind g):=by
 unfold Zd
 by_cases h1:400<=m
 ·rw[if_pos h1,if_pos (by omega)]; exact .inl rfl
 ·rw[if_neg h1]
  by_cases h2:400<=n+m
  ·rw[if_pos h2]
   have:=ho h2
   show RA p (f () i) (.bad i 5)
   cases hx:f () i with
   | ok b j=>rw[hx] at this; exact .inr ⟨⟨i,rfl⟩,this⟩
   | bad a e=>exact .inr ⟨i,rfl⟩
  ·rw[if_neg h2]; exact h (by omega)
theorem Z9C {ts:List Tk} (p a:Ac): ∀ (n n':Nat) (rs:List Ru) (i:Nat),401<=n+rs.length->401<=n'+(p.r.length+rs.length)->1<=n->1<=n' →
  (match ZC ts n rs i with
   | .ok l j=>ZC ts n' (p.r++rs) i= .ok (p.r++l) j\/(∃ k,ZC ts n' (p.r++rs) i= .bad k 5)/\400<p.r.length+l.length
   | .bad k e=>ZC ts n' (p.r++rs) i= .bad k e\/ ∃ k',ZC ts n' (p.r++rs) i= .bad k' 5)
 | 0,_,_,_,_,_,h,_=>by omega
 | _+1,0,_,_,_,_,_,h=>by omega
 | n+1,n'+1,rs,i,hn,hn',_,_=>by
  by_cases h1:400<=rs.length
  ·have e1:ZC ts (n+1) rs i= .bad i 5:=by rw[ZC]; unfold Zd; rw[if_pos h1]; rfl
   have e2:ZC ts (n'+1) (p.r++rs) i= .bad i 5:=by rw[ZC]; unfold Zd; rw[if_pos (by simp; omega)]; rfl
   rw[e1,e2]; exact .inl rfl
  ·by_cases h2:400<=p.r.length+rs.length
   ·have e2:ZC ts (n'+1) (p.r++rs) i= .bad i 5:=by rw[ZC]; unfold Zd; rw[if_pos (by simpa using h2)]; rfl
    rw[e2]
    have hg:=Zai (ts:=ts) (n+1) rs i
    cases hx:ZC ts (n+1) rs i with
    | ok l j=>rw[hx] at hg; exact .inr ⟨⟨i,rfl⟩,by have:rs.length<l.length:=hg; omega⟩
    | bad k e=>exact .inr ⟨i,rfl⟩
   ·have m1:Zd rs.length i= .ok () i:=by unfold Zd; rw[if_neg h1]
    have m2:Zd (p.r++rs).length i= .ok () i:=by unfold Zd; rw[if_neg (by simpa using h2)]
    rw[ZC,ZC,m1,m2]
    simp only[PR.bind]
    cases Zs ts i with
    | bad a e=>exact .inl rfl
    | ok r j =>
     simp only
     cases Qe ts j with
     | bad a e=>exact .inl rfl
     | ok l k =>
      simp only
      by_cases hs:Z1 ts k [[59]]=true
      ·rw[if_pos hs,if_pos hs,List.append_assoc]
       exact Z9C p a n n' _ (k+1) (by simp; omega) (by simp; omega) (by omega) (by omega)
      ·rw[if_neg hs,if_neg hs,List.append_assoc]; exact .inl rfl
theorem Z53 {ts:List Tk} (p a:Ac) (i:Nat) (hs:(Zb ts i).2.1=QV->p.s.length+a.s.length<400):RA p (Zh ts a i) (Zh ts (p.app a) i):=by
 unfold Zh
 by_cases h1:(Zb ts i).2.1=Q8
 ·rw[if_pos h1,if_pos h1]
  unfold Q0
  have e:(p.app a).c.length=p.c.length+a.c.length:=by simp[Ac.app]
  rw[e]
  refine RA.more (fun _=>RA.bind fun _ j _=>RA.bind fun n k _=>RA.bind fun _ m _=>RA.bind fun v o _=>RA.bind fun _ q _=>RA.ok _ _ _ (by simp[Ac.app])) fun h=>(VP.any _).bind fun _ j _ _=>(VP.any _).bind fun n k _ _=>(VP.any _).bind fun _ m _ _=>(VP.any _).bind fun v o _ _=>(VP.any _).bind fun _ q _ _=> .inr (.inl (by simp; omega))
 rw[if_neg h1,if_neg h1]
 by_cases h2:(Zb ts i).2.1=QV
 ·rw[if_pos h2,if_pos h2]
  unfold Z0P
  have e:(p.app a).s.length=p.s.length+a.s.length:=by simp[Ac.app]
  rw[e]
  refine RA.more (fun _=>RA.bind fun _ j _=> ?_) fun h=>absurd (hs h2) (by omega)
  by_cases h5:Z1 ts j [[46]]=true
  ·rw[if_pos h5,if_pos h5]
   exact RA.bind (x:=Z0 ts [46] j) fun _ q _=>RA.ok _ _ _ (by simp[Ac.app])
  ·rw[if_neg h5,if_neg h5]
   cases Zu ts 1 j with
   | bad b e=>exact .inl rfl
   | ok n k =>
    simp only[PR.bind]
    cases Z0 ts [47] k with
    | bad b e=>exact .inl rfl
    | ok _ m =>
     simp only
     cases Z1t ts m with
     | bad b e=>exact .inl rfl
     | ok v o=>exact RA.bind (x:=Z0 ts [46] o) fun _ q _=>RA.ok _ _ _ (by simp[Ac.app])
 rw[if_neg h2,if_neg h2]
 by_cases h3:(Zb ts i).2.1=Z2S
 ·rw[if_pos h3,if_pos h3]
  unfold ZZ
  refine RA.bind fun _ j _=>RA.bind fun _ k _=> ?_
  have hm:=Z9C (ts:=ts) p a 401 401 a.r k (by omega) (by omega) (by omega) (by omega)
  show RA p ((ZC ts 401 a.r k).bind _) ((ZC ts 401 (p.r++a.r) k).bind _)
  cases hx:ZC ts 401 a.r k with
  | bad b e =>
   rw[hx] at hm
   rcases hm with h | ⟨k',h⟩
   ·rw[h]; exact .inl rfl
   ·rw[h]; exact .inr ⟨k',rfl⟩
  | ok l m =>
   rw[hx] at hm
   rcases hm with h | ⟨⟨k',h⟩,h5⟩
   ·rw[h]
    exact RA.bind (x:=Z0 ts [125] m) fun _ o _=>RA.bind fun _ q _=>RA.ok _ _ _ rfl
   ·rw[h]
    show RA p ((Z0 ts [125] m).bind _) (.bad k' 5)
    cases Z0 ts [125] m with
    | bad b e=>exact .inr ⟨k',rfl⟩
    | ok _ o =>
     show RA p ((Z0 ts [46] o).bind _) (.bad k' 5)
     cases Z0 ts [46] o with
     | bad b e=>exact .inr ⟨k',rfl⟩
     | ok _ q=>exact .inr ⟨⟨k',rfl⟩,.inl h5⟩
 rw[if_neg h3,if_neg h3]
 have e:(p.app a).r.length=p.r.length+a.r.length:=by simp[Ac.app]
 rw[e]
 exact RA.more (fun _=>RA.bind fun r j _=>RA.ok _ _ _ (by simp[Ac.app])) fun h=>(VP.any _).bind fun r j _ _=> .inl (by simp; omega)
theorem Zg7 {p a b:Ac} (h:ZhC p a) (g:Gr a b):ZhC p b:=by
 have h1:=g.r; have h2:=g.c; have h3:=g.s
 unfold ZhC at *
 omega
def ShOK (ts:List Tk) (p:Ac) (B:Nat->Nat):Prop:=(∀ (i:Nat) (a b:Ac) (j:Nat),i<ts.length->Zh ts a i= .ok b j->10*b.s.length+B i<=10*a.s.length+B j)/\ ∀ (i:Nat) (a:Ac),i<ts.length->(Zb ts i).2.1=QV->10*a.s.length<=B i->p.s.length+a.s.length<400
theorem Z9B {ts:List Tk} (p:Ac) {B:Nat->Nat} (hB:ShOK ts p B): ∀ (n:Nat) (a:Ac) (i:Nat),10*a.s.length<=B i->RA p (ZU ts n a i) (ZU ts n (p.app a) i)
 | 0,_,_,_=> .inl rfl
 | n+1,a,i,ha=>by
  rw[ZU,ZU]
  by_cases hi:i<ts.length
  ·rw[if_pos hi,if_pos hi]
   have hs:=Z53 (ts:=ts) p a i fun h=>hB.2 i a hi h ha
   cases hx:Zh ts a i with
   | bad k e =>
    rw[hx] at hs
    rcases hs with h | ⟨k',h⟩
    ·rw[h]; exact .inl rfl
    ·rw[h]; exact .inr ⟨k',rfl⟩
   | ok b j =>
    have hbj:=hB.1 i a b j hi hx
    rw[hx] at hs
    rcases hs with h | ⟨⟨k',h⟩,ho⟩
    ·rw[h]; exact Z9B p hB n b j (by omega)
    ·rw[h]
     show RA p (ZU ts n b j) (.bad k' 5)
     have hg:=ZdV (ts:=ts) n b j
     cases hy:ZU ts n b j with
     | ok c m=>rw[hy] at hg; exact .inr ⟨⟨k',rfl⟩,Zg7 ho hg.1⟩
     | bad c e=>exact .inr ⟨k',rfl⟩
  ·rw[if_neg hi,if_neg hi]; exact .inl rfl
end Go.Sx.Ps
/- A PANIC IN A ROUND OF A RANGE OVER A FUNCTION. Where the body panics,no waiting call lies on the round's frame: so it catches nothing. -/
namespace Go.Sx
open Go.RowKit
variable [Globs] [Codes]
section
variable {P:Program} {F:Fence} {n:Nat} {Q:Exit->Act->World->Prop} {a:Act} {w:World}
end
section
variable {P:Program} {F:Fence} {n:Nat}
end
section
variable {P:Program} {F:Fence} {n:Nat}
end
section
variable {P:Program}
end
end Go.Sx
/- AN OWN ROW THAT A CALL HANDS BACK IS NO MORE WRITTEN TO. -/
namespace Go.Sx
open Go.RowKit
variable [Globs] [Codes]
variable {P:Program}
end Go.Sx
/- A ROW THAT IS HANDED BACK,AS PLAIN DATA. -/
namespace Go.Sx
open Go.RowKit
variable [Globs] [Codes]
variable {P:Program}
theorem CallL.vecR {d:D} {args:List D} {ob ob0:Obs} {sz k:Nat} {e:TypeId} {es:List (List D)} (hk:lk ob0 k=none) (hc:CallL P d args ob fun r o=>r= .vec k/\o=ob0++[(k,.arr true sz e es)]):CallL P d args ob fun r o=>r= .slice es []/\o=ob0:=by
 intro F hF n φ h w v vs hp hv hvs
 refine (hc F hF n φ h w v vs hp hv hvs).mono ?_
 intro e' w' hpost
 obtain⟨u,r0,ob1,φ',h',rfl,⟨rfl,rfl⟩,hrv,ha⟩:=hpost.dest fun r o hr=>by rw[hr.1]; rfl
 have hlk: ∀ i o,lk ob0 i=some o->lk (ob0++[(k,Ob.arr true sz e es)]) i=some o:=fun i o ho=>by rw[Z09,ho]; rfl
 have hsome: ∀ i,(lk ob0 i).isSome->(lk (ob0++[(k,Ob.arr true sz e es)]) i).isSome:=fun i hi=>by
  obtain⟨o,ho⟩:=Option.isSome_iff_exists.1 hi
  rw[hlk i o ho]; rfl
 have hz: ∀ b,ZOf ob0 h' b->ZOf (ob0++[(k,Ob.arr true sz e es)]) h' b:=fun b ⟨i,hi,hb⟩=>⟨i,hsome i hi,hb⟩
 have h2:=Z5d (obs:=lk (ob0++[(k,Ob.arr true sz e es)])) (fun i o hi _=>ha.loc.obj i o hi) hrv
 have e1:dvt (lk (ob0++[(k,Ob.arr true sz e es)])) (.vec k)= .slice es []:=by
  have hl:lk (ob0++[(k,Ob.arr true sz e es)]) k=some (.arr true sz e es):=by rw[Z09,hk]; simp[lk]
  simp only[dvt,dv,hl]
 rw[e1] at h2
 exact .ret ⟨rfl,rfl⟩ h2 ⟨⟨ha.loc.one,ha.loc.glob.sub hz,ha.loc.mem,fun i o ho=>ha.loc.obj i o (hlk i o ho),fun i j b hi hj=>ha.loc.sep i j b (hsome i hi) (hsome j hj)⟩,ha.ext,ha.new,ha.frame,ha.hfix,ha.os,ha.tape,ha.output,ha.grow⟩
end Go.Sx
