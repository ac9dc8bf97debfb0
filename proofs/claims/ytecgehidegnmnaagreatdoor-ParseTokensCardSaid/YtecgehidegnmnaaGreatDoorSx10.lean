/- Own work: a layer over the kit: plain data,a walk over it,its soundness. -/
import Derived.Sort.OwnSorted
import Derived.Test.YtecgehidegnmnaaGreatDoorSx9
import Derived.Test.YtecgehidegnmnaaGreatDoorSx8
import Derived.Test.YtecgehidegnmnaaGreatDoorSx6
set_option linter.unusedSectionVars false
set_option linter.unusedVariables false
set_option linter.unusedSimpArgs false
set_option linter.deprecated false
/- PROGRAMS ARE READ; their sizes; how many names the reference model gathers. -/
namespace Go.Sx
open Go.RowKit Go.Deep Go.ChangeShapes Go.WideShapes
structure Co where
 n:Nm
 v:Tm
def Co.cs (x:Co):List D:= .str x.n::x.v.cells
def coL (l:List Co):List (List D):=l.map Co.cs
theorem ZeQ (l:List Co):(coL l).length=l.length:=by simp[coL]
structure Pg where
 r:List Ru
 c:List Co
 s:List (List D)
 so:Bool
def Pg.cs (x:Pg):List D:=[.slice (x.r.map Ru.cs) [],.slice (coL x.c) [],.slice x.s [],.bool x.so]
structure Pg.wf (B:Nat) (x:Pg):Prop where
 rl:x.r.length<=B
 r: ∀ y∈x.r,y.wf B
 cl:x.c.length<=B
 c: ∀ y∈x.c,y.v.wf B
 sl:x.s.length<=B
variable {P:Program}
section
variable [Globs] [Codes]
end
/- Sizes. -/
/- How many names. -/
end Go.Sx
/- THE PARSER,PLAINLY. -/
namespace Go.Sx.Ps
open Go.Sx
open Go.Sx.Lx (Tk)
inductive PR (α:Type) where
 | ok (a:α) (i:Nat)
 | bad (at':Nat) (e:Int)
def PR.bind {α β:Type}:PR α->(α->Nat->PR β)->PR β
 | .ok a i,f=>f a i
 | .bad a e,_=> .bad a e
section
variable (ts:List Tk)
def hereP (i:Nat):Tk:=ts.getD i (0,[],0)
def seesP (i:Nat) (l:List (List UInt8)):Bool:=decide (4<=(hereP ts i).1) && l.contains (hereP ts i).2.1
def mustP (t:List UInt8) (i:Nat):PR Unit:=if seesP ts i [t]=true then .ok () (i+1) else .bad i 40
def nextP (k:Int) (i:Nat):PR (List UInt8):=if (hereP ts i).1=k then .ok (hereP ts i).2.1 (i+1) else .bad i 40
def numV (s:List UInt8):Int:=match Lib.atoiAll s with
 | .ok n=>n
 | .range=>Lib.atoiSat s
 | _=>0
def numP (i:Nat):PR Int:=(nextP ts 3 i).bind fun s j=> .ok (numV s) j
def listP {α:Type} (most:Nat) (sign:List UInt8) (item:Nat->PR α):Nat->List α->Nat->PR (List α)
 | 0,_,i=> .bad i 0
 | n+1,out,i=>if most<=out.length then .bad i 5 else (item i).bind fun a j=>if seesP ts j [sign]=true then listP most sign item n (out++[a]) (j+1) else .ok (out++[a]) j
def listM {α:Type} (most:Nat) (sign:List UInt8) (item:Nat->PR α) (i:Nat):PR (List α):=listP ts most sign item (most+1) [] i
def chainP (operand:Nat->PR Tm) (ops:List (List UInt8)):Nat->Tm->Nat->PR Tm
 | 0,_,i=> .bad i 0
 | n+1,t,i=>if seesP ts i ops=true then (operand (i+1)).bind fun u j=>chainP operand ops n (.mk 5 0 (hereP ts i).2.1 [t,u]) j else .ok t i
def chainM (operand:Nat->PR Tm) (ops:List (List UInt8)) (i:Nat):PR Tm:=(operand i).bind fun t j=>chainP ts operand ops (ts.length+1) t j
def productP (f:Nat->PR Tm) (i:Nat):PR Tm:=chainM ts f [[42],[47],[92]] i
def sumP (f:Nat->PR Tm) (i:Nat):PR Tm:=chainM ts (productP ts f) [[43],[45]] i
def partOf (f:Nat->PR Tm) (i:Nat):PR Tm:=(sumP ts f i).bind fun t j=>if seesP ts j [[46,46]]=true then (sumP ts f (j+1)).bind fun u k=> .ok (.mk 6 0 [] [t,u]) k else .ok t j
def namedOf (part:Nat->PR Tm) (i:Nat):PR Tm:=(nextP ts 1 i).bind fun s j=>if seesP ts j [[40]]=true then (listM ts 8 [44] part (j+1)).bind fun l k=>(mustP ts [41] k).bind fun _ m=> .ok (.mk 4 0 s l) m else .ok (.mk 2 0 s []) j
def factorP:Nat->Nat->PR Tm
 | 0,i=> .bad i 0
 | n+1,i =>
  if (hereP ts i).1=3 then (numP ts i).bind fun v j=> .ok (.mk 1 v [] []) j
  else if (hereP ts i).1=2 then (nextP ts 2 i).bind fun s j=> .ok (.mk 3 0 s []) j
  else if seesP ts i [[40]]=true then (partOf ts (factorP n) (i+1)).bind fun t j=>(mustP ts [41] j).bind fun _ k=> .ok t k
  else if seesP ts i [[45]]=true then
   if (hereP ts (i+1)).1=3 then (numP ts (i+1)).bind fun v j=> .ok (.mk 1 (-v) [] []) j
   else (factorP n (i+1)).bind fun t j=> .ok (.mk 5 0 [45] [t]) j
  else namedOf ts (partOf ts (factorP n)) i
def partP (n:Nat):Nat->PR Tm:=partOf ts (factorP ts n)
def namedP (n:Nat):Nat->PR Tm:=namedOf ts (partP ts n)
abbrev fu:Nat:=ts.length+1
def fitsP (t:Tm) (most at':Nat) (j:Nat):PR Tm:=if most<t.depth then .bad at' 5 else .ok t j
def termP (i:Nat):PR Tm:=(partP ts (fu ts) i).bind fun t j=>fitsP t 12 i j
def nmT:Tm->List UInt8
 | .mk _ _ s _=>s
def arT:Tm->List Tm
 | .mk _ _ _ l=>l
def kT:Tm->Nat
 | .mk k _ _ _=>k
abbrev Am:=List UInt8 × List Tm
def atomOfP (t:Tm) (at' j:Nat):PR Am:=(fitsP t 13 at' j).bind fun t j=> .ok (nmT t,arT t) j
def atomP (i:Nat):PR Am:=(namedP ts (fu ts) i).bind fun t j=>atomOfP t i j
def eitherP (ends:List (List UInt8)) (i:Nat):PR (Am × Tm × Bool):=(partP ts (fu ts) i).bind fun t j =>
 if seesP ts j ends=true then (fitsP t 12 i j).bind fun t j=> .ok (([],[]),t,false) j
 else if (hereP ts i).1≠1\/kT t≠2/\kT t≠4 then (fitsP t 12 i j).bind fun _ j=> .bad j 40
 else (atomOfP t i j).bind fun a j=> .ok (a,t,true) j
def cmpL:List (List UInt8):=[[61],[33,61],[60],[60,61],[62],[62,61]]
def comparisonP (i:Nat):PR Nat:=if idxS (hereP ts i).2.1 cmpL 0<0\/(hereP ts i).1≠6 then .bad i 40 else .ok ((idxS (hereP ts i).2.1 cmpL 0).toNat+1) (i+1)
abbrev z0:Tm:= .mk 0 0 [] []
def literalP (no:Bool) (i:Nat):PR Lt:=if no=true then (atomP ts i).bind fun a j=> .ok ⟨1,true,a.1,a.2,0,z0,z0⟩ j
 else (eitherP ts cmpL i).bind fun x j=>if x.2.2=true then .ok ⟨1,false,x.1.1,x.1.2,0,z0,z0⟩ j
  else (comparisonP ts j).bind fun op k=>(termP ts k).bind fun r m=> .ok ⟨2,false,[],[],op,x.2.1,r⟩ m
def tkP (t:List UInt8) (i:Nat):Bool × Nat:=if seesP ts i [t]=true then (true,i+1) else (false,i)
def litP (i:Nat):PR Lt:=literalP ts (tkP ts Lx.notS i).1 (tkP ts Lx.notS i).2
def whenP (i:Nat):PR (List Lt):=if seesP ts i [[58]]=true then listM ts 64 [44] (litP ts) (i+1) else .ok [] i
def tupleP (i:Nat):PR (List Tm):=listM ts 64 [44] (termP ts) i
def bracesP {α:Type} (item:Nat->PR α) (i:Nat):PR (List α):=(mustP ts [123] i).bind fun _ j=>(listM ts 64 [59] item j).bind fun l k=>(mustP ts [125] k).bind fun _ m=> .ok l m
def elemP (i:Nat):PR El:=(tupleP ts i).bind fun l j=>(whenP ts j).bind fun c k=> .ok ⟨l,c⟩ k
def cntS:List UInt8:=[35,99,111,117,110,116]
def sumS:List UInt8:=[35,115,117,109]
abbrev zL:Lt:=⟨0,false,[],[],0,z0,z0⟩
def aggregateP (no:Bool) (i:Nat):PR Bo :=
 (if seesP ts i [sumS]=true then PR.ok 2 (i+1) else (mustP ts cntS i).bind fun _ j=> .ok 1 j).bind fun fn j =>
 (bracesP ts (elemP ts) j).bind fun es k=>if seesP ts k [[33,61]]=true then .bad k 40 else
 (comparisonP ts k).bind fun op m=>(termP ts m).bind fun b o=> .ok ⟨3,zL,[],no,fn,es,op,b⟩ o
def elementP (i:Nat):PR Bo :=
 if seesP ts (tkP ts Lx.notS i).2 [cntS,sumS]=true then aggregateP ts (tkP ts Lx.notS i).1 (tkP ts Lx.notS i).2
 else (literalP ts (tkP ts Lx.notS i).1 (tkP ts Lx.notS i).2).bind fun l j=>(whenP ts j).bind fun c k=> .ok ⟨if c=[] then 1 else 2,l,c,false,0,[],0,z0⟩ k
def bodyGo:Nat->List Bo->Nat->PR (List Bo)
 | 0,_,i=> .bad i 0
 | n+1,out,i=>if 64<=out.length then .bad i 5 else (elementP ts i).bind fun b j =>
  if seesP ts j [[59]]=true then bodyGo n (out++[b]) (j+1)
  else if b.k=2 then .ok (out++[b]) j
  else if seesP ts j [[44]]=true then bodyGo n (out++[b]) (j+1)
  else .ok (out++[b]) j
def bodyP (i:Nat):PR (List Bo):=bodyGo ts 65 [] i
abbrev zR:Ru:=⟨0,[],z0,z0,[],z0,z0,[]⟩
def headI (i:Nat):PR He:=(atomP ts i).bind fun a j=>(whenP ts j).bind fun c k=> .ok ⟨a.1,a.2,c⟩ k
def choiceP (lower:Tm) (i:Nat):PR Ru:=(bracesP ts (headI ts) i).bind fun hs j =>
 if seesP ts j [[58,45],[46]]=true then .ok { zR with k:=2,lo:=lower,h:=hs } j
 else (termP ts j).bind fun u k=> .ok { zR with k:=2,lo:=lower,h:=hs,up:=u } k
def disjGo:Nat->List He->Nat->PR (List He)
 | 0,_,i=> .bad i 0
 | n+1,out,i=>if seesP ts i [[124]]=true then (if 64<=out.length then .bad (i+1) 5 else (atomP ts (i+1)).bind fun a j=>disjGo n (out++[⟨a.1,a.2,[]⟩]) j) else .ok out i
def headP (i:Nat):PR Ru :=
 if seesP ts i [[123]]=true then choiceP ts z0 i
 else if seesP ts i [[58,45]]=true then .ok { zR with k:=1 } i
 else (eitherP ts [[123]] i).bind fun x j=>if x.2.2=true then (disjGo ts 65 [⟨x.1.1,x.1.2,[]⟩] j).bind fun hs k=> .ok { zR with k:=1,h:=hs } k
  else choiceP ts x.2.1 j
def costP (i:Nat):PR Ru:=(termP ts i).bind fun w j =>
 (if seesP ts j [[64]]=true then termP ts (j+1) else .ok (.mk 1 0 [] []) j).bind fun lv k =>
 (if seesP ts k [[44]]=true then tupleP ts (k+1) else .ok [] k).bind fun tu m=> .ok { zR with k:=3,w:=w,lv:=lv,t:=tu } m
def weakP (i:Nat):PR Ru:=(mustP ts [58,126] i).bind fun _ j =>
 (if seesP ts j [[46]]=true then .ok [] j else bodyP ts j).bind fun b k=>(mustP ts [46] k).bind fun _ m=>(mustP ts [91] m).bind fun _ o =>
 (costP ts o).bind fun r p=>(mustP ts [93] p).bind fun _ q=> .ok { r with b:=b } q
def ruleP (i:Nat):PR Ru:=if seesP ts i [[58,126]]=true then weakP ts i
 else (headP ts i).bind fun r j=>(if seesP ts j [[58,45]]=true then bodyP ts (j+1) else .ok [] j).bind fun b k=>(mustP ts [46] k).bind fun _ m=> .ok { r with b:=b } m
structure Ac where
 r:List Ru
 c:List Co
 s:List (List UInt8 × Int)
 so:Bool
def moreP (n i:Nat):PR Unit:=if 400<=n then .bad i 5 else .ok () i
def constS:List UInt8:=[35,99,111,110,115,116]
def showS:List UInt8:=[35,115,104,111,119]
def miniS:List UInt8:=[35,109,105,110,105,109,105,122,101]
def constantP (a:Ac) (i:Nat):PR Ac:=(moreP a.c.length i).bind fun _ i=>(mustP ts constS i).bind fun _ j=>(nextP ts 1 j).bind fun n k=>(mustP ts [61] k).bind fun _ m =>
 (termP ts m).bind fun v o=>(mustP ts [46] o).bind fun _ p=> .ok { a with c:=a.c++[⟨n,v⟩] } p
def showP (a:Ac) (i:Nat):PR Ac:=(moreP a.s.length i).bind fun _ i=>(mustP ts showS i).bind fun _ j =>
 (if seesP ts j [[46]]=true then .ok { a with so:=true } j else (nextP ts 1 j).bind fun n k=>(mustP ts [47] k).bind fun _ m=>(numP ts m).bind fun v o=> .ok { a with so:=true,s:=a.s++[(n,v)] } o).bind fun b p =>
 (mustP ts [46] p).bind fun _ q=> .ok b q
def miniGo:Nat->List Ru->Nat->PR (List Ru)
 | 0,_,i=> .bad i 0
 | n+1,rs,i=>(moreP rs.length i).bind fun _ i=>(costP ts i).bind fun r j=>(whenP ts j).bind fun l k =>
  if seesP ts k [[59]]=true then miniGo n (rs++[{ r with b:=l.map fun x=>⟨1,x,[],false,0,[],0,z0⟩ }]) (k+1)
  else .ok (rs++[{ r with b:=l.map fun x=>⟨1,x,[],false,0,[],0,z0⟩ }]) k
def minimizeP (a:Ac) (i:Nat):PR Ac:=(mustP ts miniS i).bind fun _ j=>(mustP ts [123] j).bind fun _ k=>(miniGo ts 401 a.r k).bind fun rs m =>
 (mustP ts [125] m).bind fun _ o=>(mustP ts [46] o).bind fun _ p=> .ok { a with r:=rs } p
def statementP (a:Ac) (i:Nat):PR Ac :=
 if (hereP ts i).2.1=constS then constantP ts a i
 else if (hereP ts i).2.1=showS then showP ts a i
 else if (hereP ts i).2.1=miniS then minimizeP ts a i
 else (moreP a.r.length i).bind fun _ i=>(ruleP ts i).bind fun r j=> .ok { a with r:=a.r++[r] } j
def progGo:Nat->Ac->Nat->PR Ac
 | 0,_,i=> .bad i 0
 | n+1,a,i=>if i<ts.length then (statementP ts a i).bind fun b j=>progGo n b j else .ok a i
def programP:PR Ac:=progGo ts (fu ts) ⟨[],[],[],false⟩ 0
def endP {α:Type} (x:PR α):PR α:=x.bind fun a j=>if j<ts.length then .bad j 40 else .ok a j
end
end Go.Sx.Ps
/- The parser goes on,and ends; two lists of tokens that look alike. -/
namespace Go.Sx.Ps
open Go.Sx
open Go.Sx.Lx (Tk)
theorem Qo {ts:List Tk} {i:Nat} (h:(hereP ts i).1≠0):i<ts.length:=by
 apply Classical.byContradiction
 intro hn
 apply h
 simp only[hereP,List.getD_eq_getElem?_getD,List.getElem?_eq_none (by omega:ts.length<=i),Option.getD_none]
theorem ZD {ts:List Tk} {i:Nat} {l:List (List UInt8)} (h:seesP ts i l=true):i<ts.length:=by
 simp only[seesP,Bool.and_eq_true,decide_eq_true_eq] at h
 exact Qo (by omega)
structure Sm (ts us:List Tk) (d:Nat) (fl:Bool):Prop where
 kd: ∀ i,(i<ts.length\/fl=true)->(hereP us (i+d)).1=(hereP ts i).1
 tx: ∀ i,(i<ts.length\/fl=true)->(hereP us (i+d)).2.1=(hereP ts i).2.1
 ln:ts.length+d<=us.length
 fu:fl=true->us.length=ts.length+d
theorem Sm.self (ts:List Tk):Sm ts ts 0 true:=⟨fun _ _=>rfl,fun _ _=>rfl,Nat.le_refl _,fun _=>rfl⟩
section
variable {ts us:List Tk} {d:Nat} {fl:Bool} (S:Sm ts us d fl) {α β:Type}
include S in
theorem Sm.sees {i:Nat} (h:i<ts.length\/fl=true) (l:List (List UInt8)):seesP us (i+d) l=seesP ts i l:=by
 unfold seesP; rw[S.kd i h,S.tx i h]
def W (ts:List Tk) (d:Nat) (fl:Bool) (i:Nat):PR α->PR α->Prop
 | .ok a j,y=>i<=j/\(i<=ts.length->j<=ts.length)/\((j<ts.length\/fl=true)->y= .ok a (j+d))
 | .bad a e,y=>e≠0/\(fl=true->y= .bad (a+d) e)
def WS (ts:List Tk) (d:Nat) (fl:Bool) (i:Nat):PR α->PR α->Prop
 | .ok a j,y=>i<j/\(i<=ts.length->j<=ts.length)/\((i<=ts.length\/fl=true)->y= .ok a (j+d))
 | .bad a e,y=>e≠0/\(fl=true->y= .bad (a+d) e)
theorem W.ok0 {i:Nat} (a:α):W ts d fl i (.ok a i) (.ok a (i+d)):=⟨Nat.le_refl _,id,fun _=>rfl⟩
theorem W.bad {i a:Nat} {e:Int} (h:e≠0):W ts d fl i (.bad a e:PR α) (.bad (a+d) e):=⟨h,fun _=>rfl⟩
theorem W.le {i j:Nat} {x y:PR α} (h:W ts d fl j x y) (hij:i<=j) (h2:i<=ts.length->j<=ts.length):W ts d fl i x y:=by
 cases x with
 | ok a k=>exact⟨Nat.le_trans hij h.1,fun h3=>h.2.1 (h2 h3),h.2.2⟩
 | bad a e=>exact h
theorem WS.le {i j:Nat} {x y:PR α} (h:WS ts d fl j x y) (hij:i<=j) (h2:i<=ts.length->j<=ts.length):WS ts d fl i x y:=by
 cases x with
 | ok a k=>exact⟨Nat.lt_of_le_of_lt hij h.1,fun h3=>h.2.1 (h2 h3),fun h3=>h.2.2 (h3.imp h2 id)⟩
 | bad a e=>exact h
theorem WS.w {i:Nat} {x y:PR α} (h:WS ts d fl i x y):W ts d fl i x y:=by
 cases x with
 | ok a k=>exact⟨Nat.le_of_lt h.1,h.2.1,fun h3=>h.2.2 (h3.imp (fun h4=>by have:=h.1; omega) id)⟩
 | bad a e=>exact h
theorem W.off {i:Nat} {x y:PR α} (hi: ¬ (i<ts.length\/fl=true)) (z:PR α) (h:W ts d fl i x y):W ts d fl i x z:=by
 have hf: ¬ fl=true:=fun h=>hi (.inr h)
 cases x with
 | ok a k=>exact⟨h.1,h.2.1,fun h3=>absurd (h3.imp (fun h4=>Nat.lt_of_le_of_lt h.1 h4) id) hi⟩
 | bad a e=>exact⟨h.1,fun h3=>absurd h3 hf⟩
theorem W.ite {i:Nat} {c c':Prop} [Decidable c] [Decidable c'] {x x' y y':PR α} (hc:(i<ts.length\/fl=true)->(c' ↔ c)) (h1:c->W ts d fl i x x') (h2: ¬ c->W ts d fl i y y'):W ts d fl i (if c then x else y) (if c' then x' else y'):=by
 by_cases hi:i<ts.length\/fl=true
 ·by_cases h:c
  ·rw[if_pos h,if_pos ((hc hi).2 h)]; exact h1 h
  ·rw[if_neg h,if_neg (fun h'=>h ((hc hi).1 h'))]; exact h2 h
 ·by_cases h:c
  ·rw[if_pos h]; exact (h1 h).off hi _
  ·rw[if_neg h]; exact (h2 h).off hi _
theorem W.bind {i:Nat} {x x':PR α} {f g:α->Nat->PR β} (h:W ts d fl i x x') (k: ∀ a j,i<=j->x= .ok a j->W ts d fl j (f a j) (g a (j+d))):W ts d fl i (x.bind f) (x'.bind g):=by
 cases x with
 | ok a j =>
  obtain⟨h1,h2,h3⟩:=h
  have hk:=k a j h1 rfl
  by_cases hj:j<ts.length\/fl=true
  ·rw[h3 hj]; exact hk.le h1 h2
  ·exact (hk.off hj _).le h1 h2
 | bad a e=>exact⟨h.1,fun h3=>by rw[h.2 h3]; rfl⟩
theorem W.bindS {i:Nat} {x x':PR α} {f g:α->Nat->PR β} (h:W ts d fl i x x') (k: ∀ a j,i<=j->x= .ok a j->WS ts d fl j (f a j) (g a (j+d))):WS ts d fl i (x.bind f) (x'.bind g):=by
 cases x with
 | ok a j =>
  obtain⟨h1,h2,h3⟩:=h
  have hk:=k a j h1 rfl
  by_cases hj:j<ts.length\/fl=true
  ·rw[h3 hj]; exact hk.le h1 h2
  ·have hf: ¬ fl=true:=fun h=>hj (.inr h)
   show WS ts d fl i (f a j) _
   cases hx:f a j with
   | ok b m =>
    rw[hx] at hk
    refine⟨Nat.lt_of_le_of_lt h1 hk.1,fun h4=>hk.2.1 (h2 h4),fun h4=> ?_⟩
    rcases h4 with h4 | h4
    ·have:=hk.2.1 (h2 h4); have:=hk.1; exact absurd (.inl (by omega)) hj
    ·exact absurd h4 hf
   | bad b e=>rw[hx] at hk; exact⟨hk.1,fun h4=>absurd h4 hf⟩
 | bad a e=>exact⟨h.1,fun h3=>by rw[h.2 h3]; rfl⟩
theorem WS.map {i:Nat} {x x':PR α} (v:α->β) (h:WS ts d fl i x x'):WS ts d fl i (x.bind fun a j=> .ok (v a) j) (x'.bind fun a j=> .ok (v a) j):=by
 cases x with
 | ok a j=>exact⟨h.1,h.2.1,fun h4=>by rw[h.2.2 h4]; rfl⟩
 | bad a e=>exact⟨h.1,fun h3=>by rw[h.2 h3]; rfl⟩
include S in
theorem WS.ite {i:Nat} {l:List (List UInt8)} {x x' y y':PR α} (h1:seesP ts i l=true->WS ts d fl i x x') (h2:WS ts d fl i y y'):WS ts d fl i (if seesP ts i l=true then x else y) (if seesP us (i+d) l=true then x' else y'):=by
 by_cases hi:i<ts.length\/fl=true
 ·rw[S.sees hi]
  split
  ·rename_i h; exact h1 h
  ·exact h2
 ·rw[if_neg (fun h=>hi (.inl (ZD h)))]
  cases y with
  | ok a j=>exact⟨h2.1,h2.2.1,fun h4=>by
    rcases h4 with h4 | h4
    ·have:=h2.2.1 h4; have:=h2.1; exact absurd (.inl (by omega)) hi
    ·exact absurd (.inr h4) hi⟩
  | bad a e=>exact⟨h2.1,fun h=>absurd (.inr h) hi⟩
include S
theorem ZC {i:Nat} {l:List (List UInt8)} {x x' y y':PR α} (h1:seesP ts i l=true->W ts d fl i x x') (h2:W ts d fl i y y'):W ts d fl i (if seesP ts i l=true then x else y) (if seesP us (i+d) l=true then x' else y') :=
 W.ite (fun hi=>by rw[S.sees hi]) h1 fun _=>h2
omit S in
theorem arc (d i:Nat):i+d+1=i+1+d:=by omega
omit S in
theorem W.nxt {i:Nat} {l:List (List UInt8)} {x y:PR α} (hs:seesP ts i l=true) (h:W ts d fl (i+1) x y):W ts d fl i x y:=h.le (Nat.le_succ i) fun _=>ZD hs
theorem Zs (t:List UInt8) (i:Nat):WS ts d fl i (mustP ts t i) (mustP us t (i+d)):=by
 unfold mustP
 by_cases hi:i<ts.length\/fl=true
 ·rw[S.sees hi]
  split
  ·rename_i h
   have:=ZD h
   rw[arc]
   exact⟨Nat.lt_succ_self i,fun _=>this,fun _=>rfl⟩
  ·exact⟨by decide,fun _=>rfl⟩
 ·rw[if_neg (fun h=>hi (.inl (ZD h)))]
  exact⟨by decide,fun h=>absurd (.inr h) hi⟩
theorem Z1g {k:Int} (hk:k≠0) (i:Nat):WS ts d fl i (nextP ts k i) (nextP us k (i+d)):=by
 unfold nextP
 by_cases hi:i<ts.length\/fl=true
 ·rw[S.kd i hi,S.tx i hi]
  split
  ·rename_i h
   have:=Qo (ts:=ts) (i:=i) (by omega)
   rw[arc]
   exact⟨Nat.lt_succ_self i,fun _=>this,fun _=>rfl⟩
  ·exact⟨by decide,fun _=>rfl⟩
 ·rw[if_neg (fun h=>hi (.inl (Qo (by omega))))]
  exact⟨by decide,fun h=>absurd (.inr h) hi⟩
theorem Z6N (i:Nat):WS ts d fl i (numP ts i) (numP us (i+d)):=WS.map _ (Z1g S (by decide) i)
theorem ZbD {most:Nat} {sign:List UInt8} {item item':Nat->PR α} {i0:Nat} (hI: ∀ k,i0<=k->W ts d fl k (item k) (item' (k+d))): ∀ (n:Nat) (out:List α) (i:Nat),i0<=i->most+1<=n+out.length->out.length<=most->W ts d fl i (listP ts most sign item n out i) (listP us most sign item' n out (i+d))
 | 0,out,i,h,hn,ho=>by omega
 | n+1,out,i,h,hn,ho=>by
  unfold listP
  refine W.ite (fun _=>Iff.rfl) (fun _=>W.bad (by decide)) fun hm=>(hI i h).bind fun a j hj _=> ?_
  refine ZC S (fun hs=>W.nxt hs ?_) (W.ok0 _)
  rw[arc]
  exact ZbD hI n (out++[a]) (j+1) (by omega) (by simp; omega) (by simp; omega)
theorem Z2F (most:Nat) (sign:List UInt8) {item item':Nat->PR α} {i0:Nat} (hI: ∀ k,i0<=k->W ts d fl k (item k) (item' (k+d))) {i:Nat} (h:i0<=i):W ts d fl i (listM ts most sign item i) (listM us most sign item' (i+d)) :=
 ZbD S hI (most+1) [] i h (by simp) (by simp)
theorem Z6V {operand operand':Nat->PR Tm} {ops:List (List UInt8)} {i0:Nat} (hI: ∀ k,i0<=k->W ts d fl k (operand k) (operand' (k+d))): ∀ (n m:Nat) (t:Tm) (i:Nat),i0<=i->ts.length-i<n->us.length-(i+d)<m->W ts d fl i (chainP ts operand ops n t i) (chainP us operand' ops m t (i+d))
 | 0,_,_,_,_,hn,_=>by omega
 | _+1,0,_,_,_,_,hm=>by omega
 | n+1,m+1,t,i,h,hn,hm=>by
  unfold chainP
  have hl:=S.ln
  by_cases hs:seesP ts i ops=true
  ·have hlt:=ZD hs
   rw[S.sees (.inl hlt),if_pos hs,if_pos hs,S.tx i (.inl hlt),arc]
   refine W.nxt hs ((hI (i+1) (by omega)).bind fun u j hj _=> ?_)
   exact Z6V hI n m _ j (by omega) (by omega) (by omega)
  ·refine ZC S (fun h=>absurd h hs) (W.ok0 _)
theorem w_chainM {operand operand':Nat->PR Tm} {ops:List (List UInt8)} {i0:Nat} (hI: ∀ k,i0<=k->W ts d fl k (operand k) (operand' (k+d))) {i:Nat} (h:i0<=i):W ts d fl i (chainM ts operand ops i) (chainM us operand' ops (i+d)):=by
 unfold chainM
 refine (hI i h).bind fun t j hj _=>Z6V S hI _ _ t j (by omega) (by omega) (by omega)
theorem w_sum {f g:Nat->PR Tm} {i0:Nat} (hI: ∀ k,i0<=k->W ts d fl k (f k) (g (k+d))) {i:Nat} (h:i0<=i):W ts d fl i (sumP ts f i) (sumP us g (i+d)) :=
 w_chainM S (fun k hk=>w_chainM S hI hk) h
theorem w_part {f g:Nat->PR Tm} {i0:Nat} (hI: ∀ k,i0<=k->W ts d fl k (f k) (g (k+d))) {i:Nat} (h:i0<=i):W ts d fl i (partOf ts f i) (partOf us g (i+d)):=by
 unfold partOf
 refine (w_sum S hI h).bind fun t j hj _=>ZC S (fun hs=>W.nxt hs ?_) (W.ok0 _)
 rw[arc]
 exact (w_sum S hI (by omega)).bind fun u k hk _=>W.ok0 _
theorem Z6S {f g:Nat->PR Tm} {i:Nat} (hI:i<ts.length-> ∀ k,i+1<=k->W ts d fl k (f k) (g (k+d))):W ts d fl i (namedOf ts f i) (namedOf us g (i+d)):=by
 unfold namedOf
 refine (Z1g S (by decide) i).w.bind fun s j hj hx=>ZC S (fun hs=>W.nxt hs ?_) (W.ok0 _)
 rw[arc]
 have hlt:i<ts.length:=by have:=ZD hs; omega
 refine (Z2F S 8 [44] (i0:=i+1) (hI hlt) (by omega)).bind fun l k hk _=>(Zs S _ k).w.bind fun _ m hm _=>W.ok0 _
theorem w_factor: ∀ (n m i:Nat),ts.length-i<n->us.length-(i+d)<m->W ts d fl i (factorP ts n i) (factorP us m (i+d))
 | 0,_,_,hn,_=>by omega
 | _+1,0,_,_,hm=>by omega
 | n+1,m+1,i,hn,hm=>by
  unfold factorP
  have hl:=S.ln
  refine W.ite (fun hi=>by rw[S.kd i hi]) (fun _=>(Z6N S i).w.bind fun v j _ _=>W.ok0 _) fun _=> ?_
  refine W.ite (fun hi=>by rw[S.kd i hi]) (fun _=>(Z1g S (by decide) i).w.bind fun v j _ _=>W.ok0 _) fun _=> ?_
  refine ZC S (fun hs=>W.nxt hs ?_) (ZC S (fun hs=>W.nxt hs ?_) ?_)
  ·have:=ZD hs
   rw[arc]
   exact (w_part S (i0:=i+1) (fun k hk=>w_factor n m k (by omega) (by omega)) (Nat.le_refl _)).bind fun t j hj _=>(Zs S _ j).w.bind fun _ k _ _=>W.ok0 _
  ·have:=ZD hs
   rw[arc]
   refine W.ite (fun hi=>by rw[S.kd (i+1) hi]) (fun _=>(Z6N S (i+1)).w.bind fun v j _ _=>W.ok0 _) fun _=> ?_
   exact (w_factor n m (i+1) (by omega) (by omega)).bind fun t j _ _=>W.ok0 _
  ·exact Z6S S fun hlt k hk=>w_part S (i0:=i+1) (fun k hk=>w_factor n m k (by omega) (by omega)) (by omega)
theorem w_partP (i:Nat):W ts d fl i (partP ts (fu ts) i) (partP us (fu us) (i+d)) :=
 w_part S (i0:=0) (fun k _=>w_factor S _ _ k (by unfold fu; omega) (by unfold fu; omega)) (Nat.zero_le _)
theorem w_namedP (i:Nat):W ts d fl i (namedP ts (fu ts) i) (namedP us (fu us) (i+d)) :=
 Z6S S fun _ k _=>w_partP S k
omit S in
theorem Z4W (t:Tm) (most at' j:Nat):W ts d fl j (fitsP t most at' j) (fitsP t most (at'+d) (j+d)):=by
 unfold fitsP
 exact W.ite (fun _=>Iff.rfl) (fun _=>W.bad (by decide)) fun _=>W.ok0 _
theorem w_term (i:Nat):W ts d fl i (termP ts i) (termP us (i+d)):=(w_partP S i).bind fun t j _ _=>Z4W t 12 i j
omit S in
theorem Z51 (t:Tm) (at' j:Nat):W ts d fl j (atomOfP t at' j) (atomOfP t (at'+d) (j+d)):=(Z4W t 13 at' j).bind fun t j _ _=>W.ok0 _
theorem Z6W (i:Nat):W ts d fl i (atomP ts i) (atomP us (i+d)):=(w_namedP S i).bind fun t j _ _=>Z51 t i j
theorem Z4X (ends:List (List UInt8)) (i:Nat):W ts d fl i (eitherP ts ends i) (eitherP us ends (i+d)):=by
 unfold eitherP
 refine (w_partP S i).bind fun t j hj _=>ZC S (fun _=>(Z4W t 12 i j).bind fun t j _ _=>W.ok0 _) ?_
 refine W.ite (fun hi=>by rw[S.kd i (hi.imp (by omega) id)]) (fun _=>(Z4W t 12 i j).bind fun t j _ _=>W.bad (by decide)) fun _=> ?_
 exact (Z51 t i j).bind fun t j _ _=>W.ok0 _
theorem Z6O (i:Nat):WS ts d fl i (comparisonP ts i) (comparisonP us (i+d)):=by
 unfold comparisonP
 by_cases hi:i<ts.length\/fl=true
 ·rw[S.kd i hi,S.tx i hi,arc]
  split
  ·exact⟨by decide,fun _=>rfl⟩
  ·rename_i h
   have:=Qo (ts:=ts) (i:=i) (by omega)
   exact⟨Nat.lt_succ_self i,fun _=>this,fun _=>rfl⟩
 ·rw[if_pos (.inr fun h=>hi (.inl (Qo (by omega))))]
  exact⟨by decide,fun h=>absurd (.inr h) hi⟩
theorem Z3c (no:Bool) (i:Nat):W ts d fl i (literalP ts no i) (literalP us no (i+d)):=by
 unfold literalP
 refine W.ite (fun _=>Iff.rfl) (fun _=>(Z6W S i).bind fun a j _ _=>W.ok0 _) fun _=> ?_
 refine (Z4X S _ i).bind fun x j _ _=>W.ite (fun _=>Iff.rfl) (fun _=>W.ok0 _) fun _=> ?_
 exact (Z6O S j).w.bind fun op k _ _=>(w_term S k).bind fun r m _ _=>W.ok0 _
theorem w_tk {t:List UInt8} {i:Nat} {f g:Bool->Nat->PR α} (h: ∀ b k,W ts d fl k (f b k) (g b (k+d))):W ts d fl i (f (tkP ts t i).1 (tkP ts t i).2) (g (tkP us t (i+d)).1 (tkP us t (i+d)).2):=by
 unfold tkP
 by_cases hi:i<ts.length\/fl=true
 ·rw[S.sees hi]
  by_cases hs:seesP ts i [t]=true
  ·rw[if_pos hs,if_pos hs]
   refine W.nxt hs ?_
   show W ts d fl (i+1) (f true (i+1)) (g true (i+d+1))
   rw[arc]; exact h true (i+1)
  ·rw[if_neg hs,if_neg hs]; exact h false i
 ·rw[if_neg (fun h=>hi (.inl (ZD h)))]
  exact (h false i).off hi _
theorem w_lit (i:Nat):W ts d fl i (litP ts i) (litP us (i+d)):=w_tk S (f:=fun b k=>literalP ts b k) (g:=fun b k=>literalP us b k) fun b k=>Z3c S b k
theorem Z4V (i:Nat):W ts d fl i (whenP ts i) (whenP us (i+d)):=by
 unfold whenP
 refine ZC S (fun hs=>W.nxt hs ?_) (W.ok0 _)
 rw[arc]
 exact Z2F S _ _ (i0:=0) (fun k _=>w_lit S k) (Nat.zero_le _)
theorem Z6R (i:Nat):W ts d fl i (tupleP ts i) (tupleP us (i+d)):=Z2F S _ _ (i0:=0) (fun k _=>w_term S k) (Nat.zero_le _)
theorem Z4Z {item item':Nat->PR α} (hI: ∀ k,W ts d fl k (item k) (item' (k+d))) (i:Nat):W ts d fl i (bracesP ts item i) (bracesP us item' (i+d)) :=
 (Zs S _ i).w.bind fun _ j _ _=>(Z2F S _ _ (i0:=0) (fun k _=>hI k) (Nat.zero_le _)).bind fun l k _ _=>(Zs S _ k).w.bind fun _ m _ _=>W.ok0 _
theorem w_elem (i:Nat):W ts d fl i (elemP ts i) (elemP us (i+d)):=(Z6R S i).bind fun l j _ _=>(Z4V S j).bind fun c k _ _=>W.ok0 _
theorem Z43 (no:Bool) (i:Nat):W ts d fl i (aggregateP ts no i) (aggregateP us no (i+d)):=by
 unfold aggregateP
 refine W.bind (ZC S (fun hs=>W.nxt hs ?_) ((Zs S _ i).w.bind fun _ j _ _=>W.ok0 _)) fun fn j _ _=> ?_
 ·rw[arc]; exact W.ok0 _
 refine (Z4Z S (w_elem S) j).bind fun es k _ _=>ZC S (fun _=>W.bad (by decide)) ?_
 exact (Z6O S k).w.bind fun op m _ _=>(w_term S m).bind fun b o _ _=>W.ok0 _
theorem Z6U (i:Nat):W ts d fl i (elementP ts i) (elementP us (i+d)):=by
 unfold elementP
 refine w_tk S (f:=fun b k=>if seesP ts k [cntS,sumS]=true then aggregateP ts b k else (literalP ts b k).bind fun l j=>(whenP ts j).bind fun c k=> .ok ⟨if c=[] then 1 else 2,l,c,false,0,[],0,z0⟩ k) (g:=fun b k=>if seesP us k [cntS,sumS]=true then aggregateP us b k else (literalP us b k).bind fun l j=>(whenP us j).bind fun c k=> .ok ⟨if c=[] then 1 else 2,l,c,false,0,[],0,z0⟩ k) fun b k=> ?_
 exact ZC S (fun _=>Z43 S b k) ((Z3c S b k).bind fun l j _ _=>(Z4V S j).bind fun c m _ _=>W.ok0 _)
theorem Z50: ∀ (n:Nat) (out:List Bo) (i:Nat),65<=n+out.length->out.length<=64->W ts d fl i (bodyGo ts n out i) (bodyGo us n out (i+d))
 | 0,out,i,hn,ho=>by omega
 | n+1,out,i,hn,ho=>by
  unfold bodyGo
  refine W.ite (fun _=>Iff.rfl) (fun _=>W.bad (by decide)) fun hm=>(Z6U S i).bind fun b j _ _=> ?_
  have go: ∀ l,seesP ts j l=true->W ts d fl j (bodyGo ts n (out++[b]) (j+1)) (bodyGo us n (out++[b]) (j+d+1)):=fun l hs=>W.nxt hs (by rw[arc]; exact Z50 n _ (j+1) (by simp; omega) (by simp; omega))
  exact ZC S (go _) (W.ite (fun _=>Iff.rfl) (fun _=>W.ok0 _) fun _=>ZC S (go _) (W.ok0 _))
theorem ZbG (i:Nat):W ts d fl i (bodyP ts i) (bodyP us (i+d)):=Z50 S 65 [] i (by simp) (by simp)
theorem w_headI (i:Nat):W ts d fl i (headI ts i) (headI us (i+d)):=(Z6W S i).bind fun a j _ _=>(Z4V S j).bind fun c k _ _=>W.ok0 _
theorem Z4Y (lo:Tm) (i:Nat):W ts d fl i (choiceP ts lo i) (choiceP us lo (i+d)):=by
 unfold choiceP
 exact (Z4Z S (w_headI S) i).bind fun hs j _ _=>ZC S (fun _=>W.ok0 _) ((w_term S j).bind fun u k _ _=>W.ok0 _)
theorem ZbE: ∀ (n:Nat) (out:List He) (i:Nat),65<=n+out.length->out.length<=64->W ts d fl i (disjGo ts n out i) (disjGo us n out (i+d))
 | 0,out,i,hn,ho=>by omega
 | n+1,out,i,hn,ho=>by
  unfold disjGo
  refine ZC S (fun hs=>W.nxt hs ?_) (W.ok0 _)
  rw[arc]
  refine W.ite (fun _=>Iff.rfl) (fun _=>W.bad (by decide)) fun hm=>(Z6W S (i+1)).bind fun a j _ _=> ?_
  exact ZbE n _ j (by simp; omega) (by simp; omega)
theorem ZfL (i:Nat):W ts d fl i (headP ts i) (headP us (i+d)):=by
 unfold headP
 refine ZC S (fun _=>Z4Y S _ i) (ZC S (fun _=>W.ok0 _) ?_)
 exact (Z4X S _ i).bind fun x j _ _=>W.ite (fun _=>Iff.rfl) (fun _=>(ZbE S 65 _ j (by simp) (by simp)).bind fun hs k _ _=>W.ok0 _) fun _=>Z4Y S _ j
theorem ZbF (i:Nat):W ts d fl i (costP ts i) (costP us (i+d)):=by
 unfold costP
 refine (w_term S i).bind fun w j _ _=>W.bind (ZC S (fun hs=>W.nxt hs ?_) (W.ok0 _)) fun lv k _ _=>W.bind (ZC S (fun hs=>W.nxt hs ?_) (W.ok0 _)) fun tu m _ _=>W.ok0 _
 ·rw[arc]; exact w_term S _
 ·rw[arc]; exact Z6R S _
theorem Zcm (i:Nat):WS ts d fl i (weakP ts i) (weakP us (i+d)):=by
 unfold weakP
 refine (Zs S _ i).w.bindS fun _ j _ _=>W.bindS (ZC S (fun _=>W.ok0 _) (ZbG S j)) fun b k _ _=>(Zs S _ k).w.bindS fun _ m _ _=>(Zs S _ m).w.bindS fun _ o _ _=>(ZbF S o).bindS fun r p _ _=> ?_
 exact WS.map _ (Zs S _ p)
theorem ws_rule (i:Nat):WS ts d fl i (ruleP ts i) (ruleP us (i+d)):=by
 unfold ruleP
 refine WS.ite S (fun _=>Zcm S i) ?_
 refine (ZfL S i).bindS fun r j _ _=>W.bindS (ZC S (fun hs=>W.nxt hs ?_) (W.ok0 _)) fun b k _ _=>WS.map _ (Zs S _ k)
 rw[arc]; exact ZbG S _
theorem Z6T (n i:Nat):W ts d fl i (moreP n i) (moreP n (i+d)):=by
 unfold moreP
 exact W.ite (fun _=>Iff.rfl) (fun _=>W.bad (by decide)) fun _=>W.ok0 _
theorem Z41 (a:Ac) (i:Nat):WS ts d fl i (constantP ts a i) (constantP us a (i+d)):=by
 unfold constantP
 exact (Z6T S _ i).bindS fun _ i _ _=>(Zs S _ i).w.bindS fun _ j _ _=>(Z1g S (by decide) j).w.bindS fun n k _ _=>(Zs S _ k).w.bindS fun _ m _ _=>(w_term S m).bindS fun v o _ _=>WS.map _ (Zs S _ o)
theorem Zcn (a:Ac) (i:Nat):WS ts d fl i (showP ts a i) (showP us a (i+d)):=by
 unfold showP
 refine (Z6T S _ i).bindS fun _ i _ _=>(Zs S _ i).w.bindS fun _ j _ _=>W.bindS (ZC S (fun _=>W.ok0 _) ?_) fun b p _ _=>WS.map _ (Zs S _ p)
 exact (Z1g S (by decide) j).w.bind fun n k _ _=>(Zs S _ k).w.bind fun _ m _ _=>(Z6N S m).w.bind fun v o _ _=>W.ok0 _
theorem ZbC: ∀ (n:Nat) (rs:List Ru) (i:Nat),401<=n+rs.length->1<=n->W ts d fl i (miniGo ts n rs i) (miniGo us n rs (i+d))
 | 0,_,_,_,h=>by omega
 | n+1,rs,i,hn,_=>by
  unfold miniGo moreP
  by_cases h4:400<=rs.length
  ·rw[if_pos h4,if_pos h4]; exact W.bad (by decide)
  ·rw[if_neg h4,if_neg h4]
   refine (ZbF S i).bind fun r j _ _=>(Z4V S j).bind fun l k _ _=>ZC S (fun hs=>W.nxt hs ?_) (W.ok0 _)
   rw[arc]
   exact ZbC n _ (k+1) (by simp; omega) (by omega)
theorem Z40 (a:Ac) (i:Nat):WS ts d fl i (minimizeP ts a i) (minimizeP us a (i+d)):=by
 unfold minimizeP
 exact (Zs S _ i).w.bindS fun _ j _ _=>(Zs S _ j).w.bindS fun _ k _ _=>(ZbC S 401 a.r k (by omega) (by omega)).bindS fun rs m _ _=>(Zs S _ m).w.bindS fun _ o _ _=>WS.map _ (Zs S _ o)
theorem ws_statement (a:Ac) (i:Nat) (hi:i<ts.length\/fl=true):WS ts d fl i (statementP ts a i) (statementP us a (i+d)):=by
 unfold statementP
 rw[S.tx i hi]
 split
 ·exact Z41 S a i
 split
 ·exact Zcn S a i
 split
 ·exact Z40 S a i
 exact (Z6T S _ i).bindS fun _ i _ _=>WS.map _ (ws_rule S i)
end
theorem Z3C {ts us:List Tk} {d:Nat} (S:Sm ts us d true): ∀ (n m:Nat) (a:Ac) (i:Nat),ts.length-i<n->us.length-(i+d)<m->W ts d true i (progGo ts n a i) (progGo us m a (i+d))
 | 0,_,_,_,hn,_=>by omega
 | _+1,0,_,_,_,hm=>by omega
 | n+1,m+1,a,i,hn,hm=>by
  have hl:=S.fu rfl
  unfold progGo
  refine W.ite (fun _=>by rw[hl]; omega) (fun h=> ?_) fun _=>W.ok0 _
  exact (ws_statement S a i (.inr rfl)).w.bind fun b j hj hx=>Z3C S n m b j (by
   have hs:=ws_statement S a i (.inr rfl)
   rw[hx] at hs
   have:=hs.1; omega) (by
   have hs:=ws_statement S a i (.inr rfl)
   rw[hx] at hs
   have:=hs.1; omega)
theorem self_ok {α:Type} {ts:List Tk} {i j:Nat} {x:PR α} {a:α} (h:W ts 0 true i x x) (hx:x= .ok a j):i<=j/\(i<=ts.length->j<=ts.length):=by
 subst hx; exact⟨h.1,h.2.1⟩
end Go.Sx.Ps
/- What is parsed keeps the limits. -/
namespace Go.Sx.Ps
open Go.Sx
open Go.Sx.Lx (Tk)
def VP {α:Type} (P:α->Prop):PR α->Prop
 | .ok a _=>P a
 | .bad _ _=>True
section
variable {α β:Type}
theorem VP.bind {P:α->Prop} {Q:β->Prop} {x:PR α} {f:α->Nat->PR β} (h:VP P x) (k: ∀ a j,x= .ok a j->P a->VP Q (f a j)):VP Q (x.bind f):=by
 cases x with
 | ok a j=>exact k a j rfl h
 | bad a e=>trivial
theorem VP.any (x:PR α):VP (fun _=>True) x:=by cases x <;> trivial
theorem VP.ite {P:α->Prop} {c:Prop} [Decidable c] {x y:PR α} (h1:c->VP P x) (h2: ¬ c->VP P y):VP P (if c then x else y):=by
 split
 ·rename_i h; exact h1 h
 ·rename_i h; exact h2 h
theorem VP.mono {P Q:α->Prop} {x:PR α} (h:VP P x) (k: ∀ a,P a->Q a):VP Q x:=by
 cases x with
 | ok a j=>exact k a h
 | bad a e=>trivial
end
def TokOK (ts:List Tk):Prop:= ∀ t∈ts,Lx.Val t
section
variable {ts:List Tk} (H:TokOK ts)
include H in
theorem Z1b {i:Nat} (hk:(hereP ts i).1≠0):Lx.Val (hereP ts i):=by
 have hlt:=Qo hk
 simp only[hereP,List.getD_eq_getElem?_getD,List.getElem?_eq_getElem hlt,Option.getD_some]
 exact H _ (List.getElem_mem hlt)
theorem Z6X {t:Tk} (h:Lx.Val t) (hk:t.1=1):Lx.symbolB t.2.1=true:=by
 obtain⟨h1,h2⟩:=h
 cases hs:t.2.1 with
 | nil=>exact absurd hs h1
 | cons b r =>
  rw[hs,hk] at h2
  unfold Lx.tok at h2
  simp only at h2
  split at h2
  ·rename_i hb
   simp only[Prod.mk.injEq] at h2
   rw[h2.2.1] at h2
   have:=h2.1
   unfold Lx.wordK at this
   split at this
   ·cases this
   split at this
   ·assumption
   split at this <;> cases this
  split at h2
  ·cases h2
  split at h2 <;> cases h2
theorem Zcq {t:Tk} (h:Lx.Val t) (hk:t.1=2):Lx.variableB t.2.1=true:=by
 obtain⟨h1,h2⟩:=h
 cases hs:t.2.1 with
 | nil=>exact absurd hs h1
 | cons b r =>
  rw[hs,hk] at h2
  unfold Lx.tok at h2
  simp only at h2
  split at h2
  ·rename_i hb
   simp only[Prod.mk.injEq] at h2
   rw[h2.2.1] at h2
   have:=h2.1
   unfold Lx.wordK at this
   split at this
   ·cases this
   split at this
   ·cases this
   split at this
   ·assumption
   ·cases this
  split at h2
  ·cases h2
  split at h2 <;> cases h2
theorem Zcs {t:Tk} (h:Lx.Val t) (hk:t.1=3): ∃ n:Nat,(n:Int)<=2147483647/\Lib.atoiAll t.2.1= .ok n/\Lib.itoa n=t.2.1:=by
 obtain⟨h1,h2⟩:=h
 cases hs:t.2.1 with
 | nil=>exact absurd hs h1
 | cons b r =>
  rw[hs,hk] at h2
  unfold Lx.tok at h2
  simp only at h2
  split at h2
  ·rename_i hb
   simp only[Prod.mk.injEq] at h2
   have:=h2.1
   unfold Lx.wordK at this
   split at this
   ·cases this
   split at this
   ·cases this
   split at this <;> cases this
  split at h2
  ·rename_i hd
   simp only[Prod.mk.injEq] at h2
   rw[h2.2.1] at h2
   have h3:=h2.2.2
   unfold Lx.numE at h3
   split at h3
   ·rename_i n hn
    split at h3
    ·cases h3
    rename_i hle
    split at h3
    ·rename_i hi
     have hpos:0<=n:=by
      apply Classical.byContradiction
      intro hneg
      have:(Lib.itoa n).head? = some 45:=by
       unfold Lib.itoa; rw[if_pos (by omega)]; rfl
      rw[hi] at this
      simp only[List.head?_cons,Option.some.injEq] at this
      subst this
      exact absurd hd (by decide)
     obtain⟨m,rfl⟩:=Int.eq_ofNat_of_zero_le hpos
     exact⟨m,by omega,hn,hi⟩
    ·cases h3
   ·cases h3
  split at h2 <;> cases h2
def Sh (t:Tm):Prop:=t.all Tm.shape=true
def Vd (t:Tm):Prop:=t.valid=true
def TV (t:Tm):Prop:=t=z0\/Vd t
theorem ZfY {l:List Tm}:Tm.allL Tm.shape l=true ↔ ∀ x∈l,Sh x:=by
 induction l with
 | nil=>simp[Tm.allL]
 | cons a r ih=>simp[Tm.allL,ih,Sh]
theorem Z2M {k:Nat} {n:Int} {s:List UInt8} {l:List Tm}:Sh (.mk k n s l) ↔ Z0g k n s l.length=true/\ ∀ x∈l,Sh x:=by
 unfold Sh
 rw[Tm.all,Bool.and_eq_true,ZfY]
 rfl
theorem ZbK {α:Type} {P:α->Prop} {most:Nat} {sign:List UInt8} {item:Nat->PR α} (hI: ∀ k,VP P (item k)): ∀ (n:Nat) (out:List α) (i:Nat),(∀ x∈out,P x)->VP (fun l=>(∀ x∈l,P x)/\l.length<=most/\l≠[]) (listP ts most sign item n out i)
 | 0,_,_,_=>trivial
 | n+1,out,i,ho=>by
  unfold listP
  refine VP.ite (fun _=>trivial) fun hm=>(hI i).bind fun a j _ ha=> ?_
  have h2: ∀ x∈out++[a],P x:=fun x hx=>by
   rcases List.mem_append.1 hx with h | h
   ·exact ho x h
   ·rw[List.mem_singleton.1 h]; exact ha
  refine VP.ite (fun _=>ZbK hI n _ _ h2) fun _=>⟨h2,by simp; omega,by simp⟩
theorem Z2H {α:Type} {P:α->Prop} {most:Nat} {sign:List UInt8} {item:Nat->PR α} (hI: ∀ k,VP P (item k)) (i:Nat):VP (fun l=>(∀ x∈l,P x)/\l.length<=most/\l≠[]) (listM ts most sign item i):=ZbK hI _ [] i (by simp)
theorem Z9X {i:Nat} {l:List (List UInt8)} (h:seesP ts i l=true):(hereP ts i).2.1∈l:=by
 simp only[seesP,Bool.and_eq_true,List.contains_iff_mem] at h
 exact h.2
theorem Ziw {s:List UInt8} {t u:Tm} (hs:s=[43]\/s=[45]\/s=[42]\/s=[47]\/s=[92]) (ht:Sh t) (hu:Sh u):Sh (.mk 5 0 s [t,u]):=by
 refine Z2M.2 ⟨?_,by simp[ht,hu]⟩
 rcases hs with rfl | rfl | rfl | rfl | rfl <;> rfl
theorem Z72 {operand:Nat->PR Tm} {ops:List (List UInt8)} (hI: ∀ k,VP Sh (operand k)) (ho: ∀ s∈ops,s=[43]\/s=[45]\/s=[42]\/s=[47]\/s=[92]): ∀ (n:Nat) (t:Tm) (i:Nat),Sh t->VP Sh (chainP ts operand ops n t i)
 | 0,_,_,_=>trivial
 | n+1,t,i,ht=>by
  unfold chainP
  refine VP.ite (fun hs=>(hI _).bind fun u j _ hu=>Z72 hI ho n _ j (Ziw (ho _ (Z9X hs)) ht hu)) fun _=>ht
theorem Z55 {operand:Nat->PR Tm} {ops:List (List UInt8)} (hI: ∀ k,VP Sh (operand k)) (ho: ∀ s∈ops,s=[43]\/s=[45]\/s=[42]\/s=[47]\/s=[92]) (i:Nat):VP Sh (chainM ts operand ops i) :=
 (hI i).bind fun t j _ ht=>Z72 hI ho _ _ _ ht
theorem ZfP {f:Nat->PR Tm} (hI: ∀ k,VP Sh (f k)) (i:Nat):VP Sh (sumP ts f i) :=
 Z55 (fun k=>Z55 hI (by decide) k) (by decide) i
theorem Z53 {f:Nat->PR Tm} (hI: ∀ k,VP Sh (f k)) (i:Nat):VP Sh (partOf ts f i) :=
 (ZfP hI i).bind fun t j _ ht=>VP.ite (fun _=>(ZfP hI _).bind fun u k _ hu=>Z2M.2 ⟨rfl,by simp[ht,hu]⟩) fun _=>ht
def Nd (t:Tm):Prop:=Sh t/\(kT t=2\/kT t=4)
theorem Z2W {k:Int} {i j:Nat} {s:List UInt8} (h:nextP ts k i= .ok s j):(hereP ts i).1=k/\s=(hereP ts i).2.1:=by
 unfold nextP at h
 split at h
 ·cases h; exact⟨by assumption,rfl⟩
 ·cases h
include H
theorem Z6Z {f:Nat->PR Tm} (hI: ∀ k,VP Sh (f k)) (i:Nat):VP Nd (namedOf ts f i):=by
 unfold namedOf
 refine (VP.any _).bind fun s j hx _=> ?_
 obtain⟨hk,rfl⟩:=Z2W hx
 have hs:=Z6X (Z1b H (by rw[hk]; decide)) hk
 refine VP.ite (fun _=>(Z2H hI _).bind fun l k _ hl=>(VP.any _).bind fun _ m _ _=>⟨Z2M.2 ⟨?_,hl.1⟩,.inr rfl⟩) fun _=>⟨Z2M.2 ⟨?_,by simp⟩,.inl rfl⟩
 ·have h1:1<=l.length:=by have:=List.length_pos_iff.2 hl.2.2; omega
  simp[Z0g,hs,hl.2.1,h1]
 ·simp[Z0g,hs]
theorem num_val {i:Nat} {v:Int} {j:Nat} (h:numP ts i= .ok v j):0<=v/\v<=2147483647:=by
 unfold numP at h
 cases hx:nextP ts 3 i with
 | bad a e=>rw[hx] at h; cases h
 | ok s k =>
  rw[hx] at h
  cases h
  obtain⟨hk,rfl⟩:=Z2W hx
  obtain⟨n,h1,h2,_⟩:=Zcs (Z1b H (by rw[hk]; decide)) hk
  unfold numV
  rw[h2]
  exact⟨by simp,h1⟩
omit H in
theorem Z7o {v:Int} (h1: -2147483647<=v) (h2:v<=2147483647):Sh (.mk 1 v [] []):=Z2M.2 ⟨by simp[Z0g,h1,h2],by simp⟩
theorem Z0u: ∀ (n i:Nat),VP Sh (factorP ts n i)
 | 0,_=>trivial
 | n+1,i=>by
  unfold factorP
  refine VP.ite (fun _=>(VP.any _).bind fun v j hx _=> ?_) fun _=>VP.ite (fun _=>(VP.any _).bind fun s j hx _=> ?_) fun _=>VP.ite (fun _=>(Z53 (Z0u n) _).bind fun t j _ ht=>(VP.any _).bind fun _ k _ _=>ht) fun _=>VP.ite (fun _=>VP.ite (fun _=>(VP.any _).bind fun v j hx _=> ?_) fun _=>(Z0u n _).bind fun t j _ ht=>Z2M.2 ⟨rfl,by simp[ht]⟩) fun _=>(Z6Z H (Z53 (Z0u n)) i).mono fun t ht=>ht.1
  ·have:=num_val H hx
   exact Z7o (by omega) this.2
  ·obtain⟨hk,rfl⟩:=Z2W hx
   exact Z2M.2 ⟨by simp[Z0g,Zcq (Z1b H (by rw[hk]; decide)) hk],by simp⟩
  ·have:=num_val H hx
   exact Z7o (by omega) (by omega)
theorem v_partP (i:Nat):VP Sh (partP ts (fu ts) i):=Z53 (Z0u H _) i
theorem v_namedP (i:Nat):VP Nd (namedP ts (fu ts) i):=Z6Z H (Z53 (Z0u H _)) i
omit H in
theorem Z70 {t:Tm} (ht:Sh t) (most at' j:Nat):VP (fun u=>u=t/\t.depth<=most) (fitsP t most at' j):=by
 unfold fitsP
 exact VP.ite (fun _=>trivial) fun h=>⟨rfl,by omega⟩
omit H in
theorem Z9L {t:Tm} (h:Sh t) (hd:t.depth<=12):Vd t:=by
 unfold Vd Tm.valid; simp[hd]; exact h
theorem Z1h (i:Nat):VP Vd (termP ts i):=(v_partP H i).bind fun t j _ ht=>(Z70 ht 12 i j).mono fun u hu=>by obtain⟨rfl,h⟩:=hu; exact Z9L ht h
def AmV (a:Am):Prop:=Lx.symbolB a.1=true/\a.2.length<=8/\ ∀ x∈a.2,Vd x
omit H in
theorem Z6D {l:List Tm} {x:Tm} (h:x∈l):x.depth<=Tm.depthL l:=by
 induction l with
 | nil=>cases h
 | cons a r ih =>
  rw[Tm.depthL]
  rcases List.mem_cons.1 h with rfl | h
  ·exact Nat.le_max_left _ _
  ·exact Nat.le_trans (ih h) (Nat.le_max_right _ _)
omit H in
theorem Z57 {t:Tm} (ht:Nd t) (at' j:Nat):VP AmV (atomOfP t at' j):=by
 unfold atomOfP
 refine (Z70 ht.1 13 at' j).bind fun u k _ hu=> ?_
 obtain⟨rfl,hd⟩:=hu
 obtain⟨hs,hk⟩:=ht
 cases u with
 | mk k n s l =>
  obtain⟨h1,h2⟩:=Z2M.1 hs
  rw[Tm.depth] at hd
  have hv: ∀ x∈l,Vd x:=fun x hx=>Z9L (h2 x hx) (by have:=Z6D hx; omega)
  rcases hk with hk | hk <;> (change k=_ at hk; subst hk) <;> simp[Z0g] at h1
  ·exact⟨h1.1.2,by show l.length<=8; simp[h1.2],hv⟩
  ·exact⟨h1.1.1.2,by show l.length<=8; omega,hv⟩
theorem Z73 (i:Nat):VP AmV (atomP ts i):=(v_namedP H i).bind fun t j _ ht=>Z57 ht i j
theorem Z54 (ends:List (List UInt8)) (i:Nat):VP (fun x=>(x.2.2=true->AmV x.1)/\(x.2.2≠true->Vd x.2.1)) (eitherP ts ends i):=by
 unfold eitherP
 refine (v_partP H i).bind fun t j _ ht=>VP.ite (fun _=>(Z70 ht 12 i j).bind fun u k _ hu=> ?_) fun _=>VP.ite (fun _=>(VP.any _).bind fun _ _ _ _=>trivial) fun hn=> ?_
 ·obtain⟨rfl,hd⟩:=hu
  exact⟨nofun,fun _=>Z9L ht hd⟩
 ·exact (Z57 ⟨ht,by have:=not_or.1 hn; have:=this.2; omega⟩ i j).bind fun a k _ ha=>⟨fun _=>ha,fun h=>absurd rfl h⟩
def LtF (l:Lt):Prop:=l.k=1/\Lx.symbolB l.p=true/\l.a.length<=8\/l.k=2/\l.no=false/\1<=l.op/\l.op<=6
def LtT (l:Lt):Prop:=TV l.l/\TV l.r/\(∀ x∈l.a,TV x)/\l.a.length<=8
def LtV (l:Lt):Prop:=LtF l/\LtT l
omit H in
theorem QK:TV z0:= .inl rfl
omit H in
theorem ZbN (i:Nat):VP (fun op=>1<=op/\op<=6/\(op=2->(hereP ts i).2.1=[33,61]/\(hereP ts i).1=6)) (comparisonP ts i):=by
 unfold comparisonP
 refine VP.ite (fun _=>trivial) fun h=> ?_
 have h2:=not_or.1 h
 generalize (hereP ts i).2.1=s at *
 simp only[cmpL,idxS] at *
 have h6:(hereP ts i).1=6:=by have:=h2.2; omega
 show _/\_/\_
 have h1:=h2.1
 revert h1
 repeat' split
 all_goals first | (intro _; simp_all; done) | (intro h; exfalso; revert h; decide) | (intro _; subst_vars; refine⟨by decide,by decide, ?_⟩; intro hh; first | exact⟨rfl,h6⟩ | (exfalso; revert hh; decide))
theorem Z3e (no:Bool) (i:Nat):VP LtV (literalP ts no i):=by
 unfold literalP
 refine VP.ite (fun _=>(Z73 H i).bind fun a j _ ha=>⟨.inl ⟨rfl,ha.1,ha.2.1⟩,QK,QK,fun x hx=> .inr (ha.2.2 x hx),ha.2.1⟩) fun _=>(Z54 H cmpL i).bind fun x j _ hx=>VP.ite (fun h=> ?_) fun h=> ?_
 ·have ha:=hx.1 h
  exact⟨.inl ⟨rfl,ha.1,ha.2.1⟩,QK,QK,fun x hx=> .inr (ha.2.2 x hx),ha.2.1⟩
 ·have ht:=hx.2 h
  exact (ZbN j).bind fun op k _ ho=>(Z1h H k).bind fun r m _ hr=>⟨.inr ⟨rfl,rfl,ho.1,ho.2.1⟩,.inr ht,.inr hr,nofun,Nat.zero_le _⟩
theorem Zis (i:Nat):VP LtV (litP ts i):=Z3e H _ _
def CdV (l:List Lt):Prop:=(∀ x∈l,LtV x)/\l.length<=64
omit H in
theorem Z1M:CdV []:=⟨nofun,by decide⟩
theorem v_when (i:Nat):VP CdV (whenP ts i):=by
 unfold whenP
 exact VP.ite (fun _=>(Z2H (Zis H) _).mono fun l hl=>⟨hl.1,hl.2.1⟩) fun _=>Z1M
def TuV (l:List Tm):Prop:=(∀ x∈l,Vd x)/\l.length<=64
theorem v_tuple (i:Nat):VP (fun l=>TuV l/\l≠[]) (tupleP ts i):=(Z2H (Z1h H) i).mono fun l hl=>⟨⟨hl.1,hl.2.1⟩,hl.2.2⟩
omit H in
theorem Z56 {α:Type} {P:α->Prop} {item:Nat->PR α} (hI: ∀ k,VP P (item k)) (i:Nat):VP (fun l=>(∀ x∈l,P x)/\l.length<=64/\l≠[]) (bracesP ts item i) :=
 (VP.any _).bind fun _ j _ _=>(Z2H hI _).bind fun l k _ hl=>(VP.any _).bind fun _ m _ _=>hl
def ElV (e:El):Prop:=TuV e.t/\e.t≠[]/\CdV e.c
theorem ZfT (i:Nat):VP ElV (elemP ts i):=(v_tuple H i).bind fun l j _ hl=>(v_when H j).bind fun c k _ hc=>⟨hl.1,hl.2,hc⟩
def BoV (b:Bo):Prop:=TV b.b/\LtT b.l/\CdV b.c/\((∀ e∈b.e,ElV e)/\b.e.length<=64) ∧
 (b.k=3/\1<=b.f/\b.f<=2/\1<=b.op/\b.op<=6/\b.op≠2/\b.e≠[]/\b.e.length<=64/\kT b.b≠0 ∨
  LtF b.l/\b.no=false/\(b.k=1/\b.c=[]\/b.k=2/\b.c≠[]))
omit H in
theorem vd_k {t:Tm} (h:Vd t):kT t≠0:=by
 cases t with
 | mk k n s l =>
  intro hk
  change k=0 at hk
  subst hk
  simp only[Vd,Tm.valid,Bool.and_eq_true,Tm.all,Tm.shape] at h
  have:=h.2.1
  simp[Z0g] at this
omit H in
theorem Zj4:LtT zL:=⟨QK,QK,nofun,Nat.zero_le _⟩
theorem Z46 (no:Bool) (i:Nat):VP BoV (aggregateP ts no i):=by
 unfold aggregateP
 refine VP.bind (P:=fun f=>1<=f/\f<=2) (VP.ite (fun _=>⟨by decide,by decide⟩) fun _=>(VP.any _).bind fun _ j _ _=>⟨by decide,by decide⟩) fun fn j _ hf=> ?_
 refine (Z56 (ZfT H) j).bind fun es k _ he=>VP.ite (fun _=>trivial) fun hs=>(ZbN k).bind fun op m _ ho=>(Z1h H m).bind fun b o _ hb=>⟨.inr hb,Zj4,Z1M,⟨he.1,he.2.1⟩,.inl ⟨rfl,hf.1,hf.2,ho.1,ho.2.1,fun h2=>hs ?_,he.2.2,he.2.1,vd_k hb⟩⟩
 obtain⟨h3,h4⟩:=ho.2.2 h2
 simp[seesP,h3,h4]
theorem Z71 (i:Nat):VP BoV (elementP ts i):=by
 unfold elementP
 refine VP.ite (fun _=>Z46 H _ _) fun _=>(Z3e H _ _).bind fun l j _ hl=>(v_when H j).bind fun c k _ hc=>⟨QK,hl.2,hc,⟨nofun,Nat.zero_le _⟩,.inr ⟨hl.1,rfl, ?_⟩⟩
 by_cases h:c=[]
 ·exact .inl ⟨by simp[h],h⟩
 ·exact .inr ⟨by simp[h],h⟩
theorem Z2I: ∀ (n:Nat) (out:List Bo) (i:Nat),(∀ x∈out,BoV x)->VP (fun l=>(∀ x∈l,BoV x)/\l.length<=64) (bodyGo ts n out i)
 | 0,_,_,_=>trivial
 | n+1,out,i,ho=>by
  unfold bodyGo
  refine VP.ite (fun _=>trivial) fun hm=>(Z71 H i).bind fun b j _ hb=> ?_
  have h2: ∀ x∈out++[b],BoV x:=fun x hx=>by
   rcases List.mem_append.1 hx with h | h
   ·exact ho x h
   ·rw[List.mem_singleton.1 h]; exact hb
  have h3:(out++[b]).length<=64:=by simp; omega
  exact VP.ite (fun _=>Z2I n _ _ h2) fun _=>VP.ite (fun _=>⟨h2,h3⟩) fun _=>VP.ite (fun _=>Z2I n _ _ h2) fun _=>⟨h2,h3⟩
def BdV (l:List Bo):Prop:=(∀ x∈l,BoV x)/\l.length<=64
theorem ZbO (i:Nat):VP BdV (bodyP ts i):=Z2I H 65 [] i nofun
omit H in
theorem Z1T:BdV []:=⟨nofun,by decide⟩
def HeV (h:He):Prop:=Lx.symbolB h.p=true/\h.a.length<=8/\(∀ x∈h.a,TV x)/\CdV h.c
structure RuV (r:Ru):Prop where
 k:1<=r.k/\r.k<=3
 lo:TV r.lo
 up:TV r.up
 w:TV r.w
 lv:TV r.lv
 t:TuV r.t
 h: ∀ x∈r.h,HeV x
 hl:r.h.length<=64
 b:BdV r.b
 k3:r.k=3->r.h=[]/\kT r.w≠0/\kT r.lv≠0
 k2:r.k=2->r.h≠[]
 k1:r.k=1-> ∀ x∈r.h,x.c=[]
omit H in
theorem Z48:TuV []:=⟨nofun,by decide⟩
theorem Zct (i:Nat):VP HeV (headI ts i):=(Z73 H i).bind fun a j _ ha=>(v_when H j).bind fun c k _ hc=>⟨ha.1,ha.2.1,fun x hx=> .inr (ha.2.2 x hx),hc⟩
theorem Z9O {lo:Tm} (hlo:TV lo) (i:Nat):VP RuV (choiceP ts lo i):=by
 unfold choiceP
 refine (Z56 (Zct H) i).bind fun hs j _ hh=> ?_
 have mk: ∀ u,TV u->RuV { zR with k:=2,lo:=lo,h:=hs,up:=u }:=fun u hu=>⟨⟨by dsimp only; decide,by dsimp only; decide⟩,hlo,hu,QK,QK,Z48,hh.1,hh.2.1,Z1T,nofun,fun _=>hh.2.2,nofun⟩
 exact VP.ite (fun _=>mk z0 QK) fun _=>(Z1h H j).bind fun u k _ hu=>mk u (.inr hu)
theorem ZbL: ∀ (n:Nat) (out:List He) (i:Nat),(∀ x∈out,HeV x/\x.c=[])->out.length<=64->VP (fun l=>(∀ x∈l,HeV x/\x.c=[])/\l.length<=64) (disjGo ts n out i)
 | 0,_,_,_,_=>trivial
 | n+1,out,i,ho,hl=>by
  unfold disjGo
  refine VP.ite (fun _=>VP.ite (fun _=>trivial) fun hm=>(Z73 H _).bind fun a j _ ha=>ZbL n _ j (fun x hx=> ?_) (by simp; omega)) fun _=>⟨ho,hl⟩
  rcases List.mem_append.1 hx with h | h
  ·exact ho x h
  ·rw[List.mem_singleton.1 h]; exact⟨⟨ha.1,ha.2.1,fun x hx=> .inr (ha.2.2 x hx),Z1M⟩,rfl⟩
theorem ZfS (i:Nat):VP (fun r=>RuV r/\r.k≠3) (headP ts i):=by
 unfold headP
 have hc: ∀ {lo:Tm},TV lo-> ∀ i,VP (fun r=>RuV r/\r.k≠3) (choiceP ts lo i):=fun {lo} hlo i=>by
  have:=Z9O H hlo i
  cases hx:choiceP ts lo i with
  | bad a e=>trivial
  | ok r j =>
   rw[hx] at this
   refine⟨this, ?_⟩
   unfold choiceP at hx
   cases h1:bracesP ts (headI ts) i with
   | bad a e=>rw[h1] at hx; cases hx
   | ok hs k =>
    rw[h1] at hx
    simp only[PR.bind] at hx
    split at hx
    ·cases hx; dsimp only; decide
    ·cases h2:termP ts k with
     | bad a e=>rw[h2] at hx; cases hx
     | ok u m=>rw[h2] at hx; cases hx; dsimp only; decide
 have mk: ∀ hs:List He,(∀ x∈hs,HeV x/\x.c=[])->hs.length<=64->RuV { zR with k:=1,h:=hs }:=fun hs h1 h2=>⟨⟨by dsimp only; decide,by dsimp only; decide⟩,QK,QK,QK,QK,Z48,fun x hx=>(h1 x hx).1,h2,Z1T,nofun,nofun,fun _ x hx=>(h1 x hx).2⟩
 refine VP.ite (fun _=>hc QK i) fun _=>VP.ite (fun _=>⟨mk [] nofun (by decide),by dsimp only; decide⟩) fun _=>(Z54 H _ i).bind fun x j _ hx=>VP.ite (fun h=> ?_) fun h=>hc (.inr (hx.2 h)) j
 have ha:=hx.1 h
 refine (ZbL H 65 _ j (fun y hy=> ?_) (by simp)).bind fun hs k _ hh=>⟨mk hs hh.1 hh.2,by dsimp only; decide⟩
 rw[List.mem_singleton.1 hy]; exact⟨⟨ha.1,ha.2.1,fun x hx=> .inr (ha.2.2 x hx),Z1M⟩,rfl⟩
theorem ZbM (i:Nat):VP (fun r=>RuV r/\r.k=3/\r.b=[]) (costP ts i):=by
 unfold costP
 refine (Z1h H i).bind fun w j _ hw=>VP.bind (P:=Vd) (VP.ite (fun _=>Z1h H _) fun _=>Z9L (Z7o (by decide) (by decide)) (by decide)) fun lv k _ hv=>VP.bind (P:=TuV) (VP.ite (fun _=>(v_tuple H _).mono fun l hl=>hl.1) fun _=>Z48) fun tu m _ ht=>⟨⟨⟨by dsimp only; decide,by dsimp only; decide⟩,QK,QK,.inr hw,.inr hv,ht,nofun,(by dsimp only; decide),Z1T,fun _=>⟨rfl,vd_k hw,vd_k hv⟩,nofun,nofun⟩,rfl,rfl⟩
omit H in
theorem Z2R {r:Ru} (h:RuV r) {b:List Bo} (hb:BdV b):RuV { r with b:=b }:=⟨h.k,h.lo,h.up,h.w,h.lv,h.t,h.h,h.hl,hb,h.k3,h.k2,h.k1⟩
theorem ZfO (i:Nat):VP RuV (weakP ts i):=by
 unfold weakP
 exact (VP.any _).bind fun _ j _ _=>VP.bind (P:=BdV) (VP.ite (fun _=>Z1T) fun _=>ZbO H j) fun b k _ hb=>(VP.any _).bind fun _ m _ _=>(VP.any _).bind fun _ o _ _=>(ZbM H o).bind fun r p _ hr=>(VP.any _).bind fun _ q _ _=>Z2R hr.1 hb
theorem ZfR (i:Nat):VP RuV (ruleP ts i):=by
 unfold ruleP
 exact VP.ite (fun _=>ZfO H i) fun _=>(ZfS H i).bind fun r j _ hr=>VP.bind (P:=BdV) (VP.ite (fun _=>ZbO H _) fun _=>Z1T) fun b k _ hb=>(VP.any _).bind fun _ m _ _=>Z2R hr.1 hb
structure AcV (a:Ac):Prop where
 r: ∀ x∈a.r,RuV x
 rl:a.r.length<=400
 c: ∀ x∈a.c,Lx.symbolB x.n=true/\Vd x.v
 cl:a.c.length<=400
 sl:a.s.length<=400
 so:a.s≠[]->a.so=true
omit H in
theorem more_lt {n i j:Nat} {u:Unit} (h:moreP n i= .ok u j):n<400:=by
 unfold moreP at h
 split at h
 ·cases h
 ·omega
theorem Z62 {a:Ac} (ha:AcV a) (i:Nat):VP AcV (constantP ts a i):=by
 unfold constantP
 refine (VP.any _).bind fun _ i hm _=>(VP.any _).bind fun _ j _ _=>(VP.any _).bind fun n k hn _=>(VP.any _).bind fun _ m _ _=>(Z1h H m).bind fun v o _ hv=>(VP.any _).bind fun _ p _ _=> ?_
 have hm:=more_lt hm
 obtain⟨hk,rfl⟩:=Z2W hn
 refine⟨ha.r,ha.rl,fun x hx=> ?_,by simp; omega,ha.sl,ha.so⟩
 rcases List.mem_append.1 hx with h | h
 ·exact ha.c x h
 ·rw[List.mem_singleton.1 h]; exact⟨Z6X (Z1b H (by rw[hk]; decide)) hk,hv⟩
omit H in
theorem ZfQ {a:Ac} (ha:AcV a) (i:Nat):VP AcV (showP ts a i):=by
 unfold showP
 refine (VP.any _).bind fun _ i hm _=>(VP.any _).bind fun _ j _ _=>VP.bind (P:=AcV) (VP.ite (fun _=>⟨ha.r,ha.rl,ha.c,ha.cl,ha.sl,fun _=>rfl⟩) fun _=>(VP.any _).bind fun n k _ _=>(VP.any _).bind fun _ m _ _=>(VP.any _).bind fun v o _ _=> ?_) fun b p _ hb=>(VP.any _).bind fun _ q _ _=>hb
 have hm:=more_lt hm
 exact⟨ha.r,ha.rl,ha.c,ha.cl,by simp; omega,fun _=>rfl⟩
theorem ZbJ: ∀ (n:Nat) (rs:List Ru) (i:Nat),(∀ x∈rs,RuV x)->VP (fun l=>(∀ x∈l,RuV x)/\l.length<=400) (miniGo ts n rs i)
 | 0,_,_,_=>trivial
 | n+1,rs,i,ho=>by
  unfold miniGo
  refine (VP.any _).bind fun _ i hm _=>(ZbM H i).bind fun r j _ hr=>(v_when H j).bind fun l k _ hl=> ?_
  have hm:=more_lt hm
  have hb:BdV (l.map fun x=>(⟨1,x,[],false,0,[],0,z0⟩:Bo)):=⟨fun b hb=>by
   obtain⟨x,hx,rfl⟩:=List.mem_map.1 hb
   exact⟨QK,(hl.1 x hx).2,Z1M,⟨nofun,Nat.zero_le _⟩,.inr ⟨(hl.1 x hx).1,rfl,.inl ⟨rfl,rfl⟩⟩⟩,by simpa using hl.2⟩
  have h2: ∀ x∈rs++[{ r with b:=l.map fun x=>(⟨1,x,[],false,0,[],0,z0⟩:Bo) }],RuV x:=fun x hx=>by
   rcases List.mem_append.1 hx with h | h
   ·exact ho x h
   ·rw[List.mem_singleton.1 h]; exact Z2R hr.1 hb
  exact VP.ite (fun _=>ZbJ n _ _ h2) fun _=>⟨h2,by simp; omega⟩
theorem Z61 {a:Ac} (ha:AcV a) (i:Nat):VP AcV (minimizeP ts a i):=by
 unfold minimizeP
 exact (VP.any _).bind fun _ j _ _=>(VP.any _).bind fun _ k _ _=>(ZbJ H 401 a.r k ha.r).bind fun rs m _ hr=>(VP.any _).bind fun _ o _ _=>(VP.any _).bind fun _ p _ _=>⟨hr.1,hr.2,ha.c,ha.cl,ha.sl,ha.so⟩
theorem Z45 {a:Ac} (ha:AcV a) (i:Nat):VP AcV (statementP ts a i):=by
 unfold statementP
 refine VP.ite (fun _=>Z62 H ha i) fun _=>VP.ite (fun _=>ZfQ ha i) fun _=>VP.ite (fun _=>Z61 H ha i) fun _=>(VP.any _).bind fun _ i hm _=>(ZfR H i).bind fun r j _ hr=> ?_
 have hm:=more_lt hm
 refine⟨fun x hx=> ?_,by simp; omega,ha.c,ha.cl,ha.sl,ha.so⟩
 rcases List.mem_append.1 hx with h | h
 ·exact ha.r x h
 ·rw[List.mem_singleton.1 h]; exact hr
theorem ZbI: ∀ (n:Nat) (a:Ac) (i:Nat),AcV a->VP AcV (progGo ts n a i)
 | 0,_,_,_=>trivial
 | n+1,a,i,ha=>by
  unfold progGo
  exact VP.ite (fun _=>(Z45 H ha i).bind fun b j _ hb=>ZbI n b j hb) fun _=>ha
theorem Z6Y:VP AcV (programP ts):=ZbI H _ _ _ ⟨nofun,by decide,nofun,by decide,by decide,nofun⟩
end
theorem Z3b {f:UInt8->Bool} {s:List UInt8} (h:Lx.wordB f s=true):s.length<=32:=by
 unfold Lx.wordB at h
 split at h
 ·cases h
 ·simp only[Bool.and_eq_true,decide_eq_true_eq] at h; exact h.2
theorem Z1i {s:List UInt8} (h:Lx.symbolB s=true):s.length<=32:=by
 simp only[Lx.symbolB,Bool.and_eq_true] at h; exact Z3b h.1
theorem Z2G {s:List UInt8} (h:Lx.variableB s=true):s.length<=32:=by
 simp only[Lx.variableB,Bool.or_eq_true] at h
 rcases h with h | h
 ·exact Z3b h
 ·split at h
  ·simp only[Bool.and_eq_true,decide_eq_true_eq] at h; exact h.2
  ·cases h
theorem Z7n {k:Nat} {n:Int} {s:List UInt8} {m:Nat} (h:Z0g k n s m=true):k<=255/\ -9223372036854775808<=n/\n<=9223372036854775807/\s.length<=32/\m<=8:=by
 unfold Z0g at h
 split at h
 ·rename_i hk; simp only[Bool.and_eq_true,decide_eq_true_eq] at h; obtain⟨⟨⟨h1,h2⟩,rfl⟩,rfl⟩:=h; refine⟨by omega,by omega,by omega,by simp,by omega⟩
 split at h
 ·rename_i hk; simp only[Bool.and_eq_true,decide_eq_true_eq] at h; obtain⟨⟨rfl,h1⟩,rfl⟩:=h; exact⟨by omega,by omega,by omega,Z1i h1,by omega⟩
 split at h
 ·rename_i hk; simp only[Bool.and_eq_true,decide_eq_true_eq] at h; obtain⟨⟨rfl,h1⟩,rfl⟩:=h; exact⟨by omega,by omega,by omega,Z2G h1,by omega⟩
 split at h
 ·rename_i hk; simp only[Bool.and_eq_true,decide_eq_true_eq] at h; obtain⟨⟨⟨rfl,h1⟩,_⟩,h2⟩:=h; exact⟨by omega,by omega,by omega,Z1i h1,h2⟩
 split at h
 ·rename_i hk; simp only[Bool.and_eq_true,Bool.or_eq_true,decide_eq_true_eq] at h; obtain⟨⟨rfl,h1⟩,h2⟩:=h
  refine⟨by omega,by omega,by omega, ?_,by omega⟩
  rcases h1 with (((rfl | rfl) | rfl) | rfl) | rfl <;> decide
 split at h
 ·rename_i hk; simp only[Bool.and_eq_true,decide_eq_true_eq] at h; obtain⟨⟨rfl,rfl⟩,rfl⟩:=h; exact⟨by omega,by omega,by omega,by simp,by omega⟩
 ·cases h
mutual
theorem sh_wf: ∀ t:Tm,Sh t->t.wf 281474976710656
 | .mk k n s l,h=>by
  obtain⟨h1,h2⟩:=Z2M.1 h
  obtain⟨a1,a2,a3,a4,a5⟩:=Z7n h1
  exact⟨a1,a2,a3,by omega,by omega,ZbT l h2⟩
theorem ZbT: ∀ l:List Tm,(∀ x∈l,Sh x)->Tm.wfL 281474976710656 l
 | [],_=>trivial
 | a::r,h=>⟨sh_wf a (h a (by simp)),ZbT r fun x hx=>h x (by simp[hx])⟩
end
def DP (i:Nat):PR Tm->Prop
 | .ok t j=>t.depth+i<=j
 | .bad _ _=>True
theorem DP.bind {α:Type} {i:Nat} {x:PR α} {f:α->Nat->PR Tm} (k: ∀ a j,x= .ok a j->DP i (f a j)):DP i (x.bind f):=by
 cases x with
 | ok a j=>exact k a j rfl
 | bad a e=>trivial
theorem DP.of {i:Nat} {x:PR Tm} (h:DP i x) {t:Tm} {j:Nat} (hx:x= .ok t j):t.depth+i<=j:=by subst hx; exact h
theorem DP.ite {i:Nat} {c:Prop} [Decidable c] {x y:PR Tm} (h1:c->DP i x) (h2: ¬ c->DP i y):DP i (if c then x else y):=by
 split
 ·rename_i h; exact h1 h
 ·rename_i h; exact h2 h
theorem Zc4 (k:Nat) (n:Int) (s:List UInt8) (t u:Tm):(Tm.mk k n s [t,u]).depth=max t.depth u.depth+1:=by
 simp only[Tm.depth,Tm.depthL]
 have:Nat.max t.depth (Nat.max u.depth 0)=max t.depth u.depth:=by
  show max t.depth (max u.depth 0)=_
  omega
 rw[this]
theorem ZhE (k:Nat) (n:Int) (s:List UInt8) (t:Tm):(Tm.mk k n s [t]).depth=t.depth+1:=by
 simp only[Tm.depth,Tm.depthL]
 have:Nat.max t.depth 0=t.depth:=by show max t.depth 0=_; omega
 rw[this]
section
variable {ts:List Tk}
theorem next_pos {k:Int} {i j:Nat} {s:List UInt8} (h:nextP ts k i= .ok s j):j=i+1:=by
 unfold nextP at h
 split at h <;> cases h
 rfl
theorem Z5r {t:List UInt8} {i j:Nat} {u:Unit} (h:mustP ts t i= .ok u j):j=i+1:=by
 unfold mustP at h
 split at h <;> cases h
 rfl
theorem Z81 {i j:Nat} {v:Int} (h:numP ts i= .ok v j):j=i+1:=by
 unfold numP at h
 cases hx:nextP ts 3 i with
 | bad a e=>rw[hx] at h; cases h
 | ok s k=>rw[hx] at h; cases h; exact next_pos hx
theorem Z8L {operand:Nat->PR Tm} {ops:List (List UInt8)} {i0:Nat} (hI: ∀ k,i0<=k->DP k (operand k)): ∀ (n:Nat) (t:Tm) (i:Nat),i0+t.depth<=i->DP i0 (chainP ts operand ops n t i)
 | 0,_,_,_=>trivial
 | n+1,t,i,h=>by
  unfold chainP
  refine DP.ite (fun _=>DP.bind fun u j hu=> ?_) fun _=>by show _<=_; omega
  have:=(hI (i+1) (by omega)).of hu
  exact Z8L hI n _ j (by rw[Zc4]; omega)
theorem Z5J {operand:Nat->PR Tm} {ops:List (List UInt8)} {i0:Nat} (hI: ∀ k,i0<=k->DP k (operand k)) {i:Nat} (h:i0<=i):DP i (chainM ts operand ops i):=by
 unfold chainM
 refine DP.bind fun t j ht=> ?_
 have:=(hI i h).of ht
 exact Z8L (i0:=i) (fun k hk=>hI k (by omega)) _ _ _ (by omega)
theorem ZhG {f:Nat->PR Tm} {i0:Nat} (hI: ∀ k,i0<=k->DP k (f k)) {i:Nat} (h:i0<=i):DP i (sumP ts f i):=Z5J (fun k hk=>Z5J hI hk) h
theorem Z8J {f:Nat->PR Tm} {i0:Nat} (hI: ∀ k,i0<=k->DP k (f k)) {i:Nat} (h:i0<=i):DP i (partOf ts f i):=by
 unfold partOf
 refine DP.bind fun t j ht=> ?_
 have h1:=(ZhG hI h).of ht
 refine DP.ite (fun _=>DP.bind fun u k hu=> ?_) fun _=>h1
 have h2:=(ZhG (ts:=ts) hI (i:=j+1) (by omega)).of hu
 show _<=_
 rw[Zc4]; omega
theorem Zc6 {most:Nat} {sign:List UInt8} {item:Nat->PR Tm} {i0:Nat} (hI: ∀ k,i0<=k->DP k (item k)): ∀ (n:Nat) (out:List Tm) (i:Nat),i0<=i->(∀ x∈out,x.depth+i0<=i)-> ∀ l j,listP ts most sign item n out i= .ok l j->i<=j/\ ∀ x∈l,x.depth+i0<=j
 | 0,_,_,_,_,_,_,h=>by cases h
 | n+1,out,i,hi,ho,l,j,h=>by
  unfold listP at h
  split at h
  ·cases h
  cases hx:item i with
  | bad a e=>rw[hx] at h; cases h
  | ok t k =>
   rw[hx] at h
   simp only[PR.bind] at h
   have h1:=(hI i hi).of hx
   have h2: ∀ x∈out++[t],x.depth+i0<=k:=fun x hx=>by
    rcases List.mem_append.1 hx with h | h
    ·have:=ho x h; omega
    ·rw[List.mem_singleton.1 h]; omega
   split at h
   ·have:=Zc6 hI n _ (k+1) (by omega) (fun x hx=>by have:=h2 x hx; omega) l j h
    exact⟨by omega,this.2⟩
   ·cases h; exact⟨by omega,h2⟩
theorem Z1J {l:List Tm} {n:Nat} (h: ∀ x∈l,x.depth<=n):Tm.depthL l<=n:=by
 induction l with
 | nil=>exact Nat.zero_le _
 | cons a r ih=>rw[Tm.depthL]; exact Nat.max_le.2 ⟨h a (by simp),ih fun x hx=>h x (by simp[hx])⟩
theorem Z8K {f:Nat->PR Tm} {i:Nat} (hI: ∀ k,i+1<=k->DP k (f k)):DP i (namedOf ts f i):=by
 unfold namedOf
 refine DP.bind fun s j hs=> ?_
 have:=next_pos hs
 subst this
 refine DP.ite (fun _=>DP.bind fun l k hl=>DP.bind fun _ m hm=> ?_) fun _=>by show _<=_; simp[Tm.depth,Tm.depthL]; omega
 have h1:=Zc6 (i0:=i+1) hI _ _ _ (by omega) (fun x hx=>by cases hx) l k hl
 have:=Z5r hm
 subst this
 show _<=_
 rw[Tm.depth]
 have h3:=Z1J (n:=k-(i+1)) fun x hx=>by have:=h1.2 x hx; omega
 omega
theorem Z1d: ∀ (n i:Nat),DP i (factorP ts n i)
 | 0,_=>trivial
 | n+1,i=>by
  unfold factorP
  refine DP.ite (fun _=>DP.bind fun v j hv=> ?_) fun _=>DP.ite (fun _=>DP.bind fun s j hs=> ?_) fun _=>DP.ite (fun _=>DP.bind fun t j ht=>DP.bind fun _ k hk=> ?_) fun _=>DP.ite (fun _=>DP.ite (fun _=>DP.bind fun v j hv=> ?_) fun _=>DP.bind fun t j ht=> ?_) fun _=>Z8K fun k hk=>Z8J (i0:=k) (fun m _=>Z1d n m) (Nat.le_refl k)
  ·have:=Z81 hv; subst this; show _<=_; simp[Tm.depth,Tm.depthL]; omega
  ·have:=next_pos hs; subst this; show _<=_; simp[Tm.depth,Tm.depthL]; omega
  ·have h1:=(Z8J (ts:=ts) (i0:=0) (fun m _=>Z1d n m) (Nat.zero_le (i+1))).of ht
   have:=Z5r hk; subst this; show _<=_; omega
  ·have:=Z81 hv; subst this; show _<=_; simp[Tm.depth,Tm.depthL]; omega
  ·have h1:=(Z1d n (i+1)).of ht
   show _<=_; rw[ZhE]; omega
theorem d_partP (n i:Nat):DP i (partP ts n i):=Z8J (i0:=0) (fun m _=>Z1d n m) (Nat.zero_le i)
theorem d_namedP (n i:Nat):DP i (namedP ts n i):=Z8K fun k _=>d_partP n k
end
theorem Z5N (ts:List Tk) (lo:Tm) (i:Nat):VP (fun r=>r.b=[]) (choiceP ts lo i):=by
 unfold choiceP
 exact (VP.any _).bind fun hs j _ _=>VP.ite (fun _=>rfl) fun _=>(VP.any _).bind fun u k _ _=>rfl
theorem b_head (ts:List Tk) (i:Nat):VP (fun r=>r.b=[]) (headP ts i):=by
 unfold headP
 exact VP.ite (fun _=>Z5N ts _ i) fun _=>VP.ite (fun _=>rfl) fun _=>(VP.any _).bind fun x j _ _=>VP.ite (fun _=>(VP.any _).bind fun hs k _ _=>rfl) fun _=>Z5N ts _ j
theorem Z5B {ts:List Tk} {i:Nat} (h:ts.length<=i):hereP ts i=(0,[],0):=by
 simp only[hereP,List.getD_eq_getElem?_getD,List.getElem?_eq_none h,Option.getD_none]
theorem Z5h {ts:List Tk} {i:Nat} (h:ts.length<=i) (l:List (List UInt8)):seesP ts i l=false:=by
 cases hs:seesP ts i l with
 | false=>rfl
 | true=>have:=ZD hs; omega
theorem Z3E {ts:List Tk} {i:Nat} (h:ts.length<=i) (f:Nat->PR Tm):namedOf ts f i= .bad i 40:=by
 unfold namedOf nextP
 rw[Z5B h]
 rfl
theorem Z6B {ts:List Tk} {i:Nat} (h:ts.length<=i) (n:Nat): ∃ e,factorP ts n i= .bad i e:=by
 cases n with
 | zero=>exact⟨_,rfl⟩
 | succ n =>
  unfold factorP
  rw[Z5B h,Z5h h,Z5h h,Z3E h]
  exact⟨40,rfl⟩
theorem Zae {ts:List Tk} {i:Nat} (h:ts.length<=i) (n:Nat): ∃ e,partP ts n i= .bad i e:=by
 obtain⟨e,he⟩:=Z6B h n
 exact⟨e,by simp only[partP,partOf,sumP,chainM,productP,he,PR.bind]⟩
theorem part_lt {ts:List Tk} {n i j:Nat} {t:Tm} (h:partP ts n i= .ok t j):i<ts.length:=by
 apply Classical.byContradiction
 intro hn
 obtain⟨e,he⟩:=Zae (ts:=ts) (i:=i) (by omega) n
 rw[he] at h; cases h
theorem named_lt {ts:List Tk} {n i j:Nat} {t:Tm} (h:namedP ts n i= .ok t j):i<ts.length:=by
 apply Classical.byContradiction
 intro hn
 rw[namedP,Z3E (by omega)] at h; cases h
def PR.isOk {α:Type}:PR α->Bool
 | .ok _ _=>true
 | .bad _ _=>false
def PR.pos {α:Type}:PR α->Nat
 | .ok _ j=>j
 | .bad _ _=>0
def PR.val {α:Type} (z:α):PR α->α
 | .ok a _=>a
 | .bad _ _=>z
end Go.Sx.Ps
/- One rule; programs behind each other. -/
namespace Go.Sx.Ps
open Go.Sx
open Go.Sx.Lx (Tk)
structure Gr (a b:Ac):Prop where
 r:a.r.length<=b.r.length
 c:a.c.length<=b.c.length
 s:a.s.length<=b.s.length
 so:a.so=true->b.so=true
section
variable {ts:List Tk}
end
section
variable {ts:List Tk} (H:TokOK ts)
include H
end
def Ac.app (p a:Ac):Ac:=⟨p.r++a.r,p.c++a.c,p.s++a.s,p.so || a.so⟩
end Go.Sx.Ps
/- A PANIC IN A ROUND OF A RANGE OVER A FUNCTION. Where the body panics,no waiting call lies on the round's frame: so it catches nothing. -/
namespace Go.Sx
open Go.RowKit
variable [Globs] [Codes]
section
variable {P:Program} {F:Fence} {n:Nat} {Q:Exit->Act->World->Prop} {a:Act} {w:World}
end
section
variable {P:Program} {F:Fence} {n:Nat}
end
section
variable {P:Program} {F:Fence} {n:Nat}
end
section
variable {P:Program}
end
end Go.Sx
/- AN OWN ROW THAT A CALL HANDS BACK IS NO MORE WRITTEN TO. -/
namespace Go.Sx
open Go.RowKit
variable [Globs] [Codes]
variable {P:Program}
end Go.Sx
/- A ROW THAT IS HANDED BACK,AS PLAIN DATA. -/
namespace Go.Sx
open Go.RowKit
variable [Globs] [Codes]
variable {P:Program}
theorem CallL.vecR {d:D} {args:List D} {ob ob0:Obs} {sz k:Nat} {e:TypeId} {es:List (List D)} (hk:lk ob0 k=none) (hc:CallL P d args ob fun r o=>r= .vec k/\o=ob0++[(k,.arr true sz e es)]):CallL P d args ob fun r o=>r= .slice es []/\o=ob0:=by
 intro F hF n φ h w v vs hp hv hvs
 refine (hc F hF n φ h w v vs hp hv hvs).mono ?_
 intro e' w' hpost
 obtain⟨u,r0,ob1,φ',h',rfl,⟨rfl,rfl⟩,hrv,ha⟩:=hpost.dest fun r o hr=>by rw[hr.1]; rfl
 have hlk: ∀ i o,lk ob0 i=some o->lk (ob0++[(k,Ob.arr true sz e es)]) i=some o:=fun i o ho=>by rw[Qg,ho]; rfl
 have hsome: ∀ i,(lk ob0 i).isSome->(lk (ob0++[(k,Ob.arr true sz e es)]) i).isSome:=fun i hi=>by
  obtain⟨o,ho⟩:=Option.isSome_iff_exists.1 hi
  rw[hlk i o ho]; rfl
 have hz: ∀ b,ZOf ob0 h' b->ZOf (ob0++[(k,Ob.arr true sz e es)]) h' b:=fun b ⟨i,hi,hb⟩=>⟨i,hsome i hi,hb⟩
 have h2:=Z3N (obs:=lk (ob0++[(k,Ob.arr true sz e es)])) (fun i o hi _=>ha.loc.obj i o hi) hrv
 have e1:dvt (lk (ob0++[(k,Ob.arr true sz e es)])) (.vec k)= .slice es []:=by
  have hl:lk (ob0++[(k,Ob.arr true sz e es)]) k=some (.arr true sz e es):=by rw[Qg,hk]; simp[lk]
  simp only[dvt,dv,hl]
 rw[e1] at h2
 exact .ret ⟨rfl,rfl⟩ h2 ⟨⟨ha.loc.one,ha.loc.glob.sub hz,ha.loc.mem,fun i o ho=>ha.loc.obj i o (hlk i o ho),fun i j b hi hj=>ha.loc.sep i j b (hsome i hi) (hsome j hj)⟩,ha.ext,ha.new,ha.frame,ha.hfix,ha.os,ha.tape,ha.output,ha.grow⟩
end Go.Sx
