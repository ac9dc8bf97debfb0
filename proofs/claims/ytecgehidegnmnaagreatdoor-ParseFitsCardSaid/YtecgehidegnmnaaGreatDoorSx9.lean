/- Own work: a layer over the kit: plain data,a walk over it,its soundness. -/
import Derived.Sort.OwnSorted
import Derived.Lib.SlicesCompact
import Derived.Test.YtecgehidegnmnaaGreatDoorSx8
set_option linter.all false
/- The reference model's lexer,plainly: its tests are the lexer's. -/
namespace Go.Sx.Lx
open Go.Sx
end Go.Sx.Lx
/- Numbers and signs of the reference model. -/
namespace Go.Sx.Lx
open Go.Sx
def valN (a:Nat) (l:List UInt8):Nat:=l.foldl (λa c=>a*10+(c.toNat-48)) a
attribute [irreducible] valN
end Go.Sx.Lx
/- The lexer's run,byte by byte. -/
namespace Go.Sx.Lx
open Go.Sx
/- What a token is,by its first byte. -/
end Go.Sx.Lx
/- OWN ROWS OF TEXTS,SORTED AND MADE COMPACT IN PLACE BY THE LIBRARY. -/
namespace Go.Sx
open Go.RowKit Go.Sort
open Go.Proofs (encStr)
variable [Globs] [Codes]
variable {P:Program} {f:FuncId}
def srt (l:List (List UInt8)):List (List UInt8):=l.mergeSort λx y=>decide (x<=y)
end Go.Sx
/- The variables of a term. -/
namespace Go.Sx
def Tm.v1:Tm->List (List UInt8)
 |.mk k _ s _=>if k=3 then [s] else []
mutual
def Tm.vs:Tm->List (List UInt8)
 |.mk k n s l=>Tm.v1 (.mk k n s l)++Tm.vsL l
def Tm.vsL:List Tm->List (List UInt8)
 |[]=>[]
 |a::r=>a.vs++Tm.vsL r
end
end Go.Sx
/- Texts in order. -/
namespace Go.Sx
end Go.Sx
/- Sorted,made compact: what is in it,and in which order. -/
namespace Go.Sx
def Tm.V (x:Tm):List (List UInt8):=Lib.compact (srt x.vs)
end Go.Sx
/- SAFETY,PLAIN: sets of names,what literals bind,the closure. -/
namespace Go.Sx
abbrev Nm:=List UInt8
def insD (x:Nm):List Nm->List Nm
 |[]=>[x]
 |y::r=>if x<y then x::y::r else if x=y then y::r else y::insD x r
def ZkE (l:List Nm):List Nm:=l.foldr insD []
def Tm.W (x:Tm):List Nm:=ZkE x.vs
def Tm.kd:Tm->Nat
 |.mk k _ _ _=>k
def Tm.nm:Tm->Nm
 |.mk _ _ s _=>s
structure Lt where
 k:Nat
 no:Bool
 p:Nm
 a:List Tm
 op:Nat
 l:Tm
 r:Tm
def Lt.c (x:Lt):List D:=.int .u8 x.k:: .bool x.no:: .str x.p:: .slice (Tm.cellsL x.a) []:: .int .u8 x.op::(x.l.cells++x.r.cells)
def ltL (l:List Lt):List (List D):=l.map Lt.c
def Lt.wf (B:Nat) (x:Lt):Prop:=x.k<=255/\x.p.length<=B/\x.a.length<=B/\Tm.wfL B x.a/\x.op<=255/\x.l.wf B/\x.r.wf B
theorem ZfC (x:Lt):x.c.length=13:=by simp[Lt.c,Z0i]
theorem Z11 (l:List Lt):(ltL l).length=l.length:=by simp[ltL]
theorem Z4f {l:List Lt} {i:Nat} (h:i<l.length):(ltL l)[i]? = some l[i].c:=by simp[ltL,h]
end Go.Sx
/- Terms: plain,ground,their depth. -/
namespace Go.Sx
def Tm.plain:Tm->Bool
 |.mk k _ _ _=>decide (k=1) ||decide (k=2) ||decide (k=4)
def Tm.value (t:Tm):Bool:=t.all Tm.plain && t.valid
end Go.Sx
/- A term and its parts. -/
namespace Go.Sx
def n7:Tm:=.mk 1 7 [] []
end Go.Sx
/- SAFETY,PLAIN: sizes of literals. -/
namespace Go.Sx
def Lt.few (N:Int) (x:Lt):Prop:=((Tm.vsL x.a).length:Int)<=N/\(x.l.vs.length:Int)<=N/\(x.r.vs.length:Int)<=N
end Go.Sx
/- RULES,PLAIN: their variables,those that are not bound. -/
namespace Go.Sx
structure El where
 t:List Tm
 c:List Lt
structure He where
 p:Nm
 a:List Tm
 c:List Lt
structure Bo where
 k:Nat
 l:Lt
 c:List Lt
 no:Bool
 f:Nat
 e:List El
 op:Nat
 b:Tm
structure Ru where
 k:Nat
 h:List He
 lo:Tm
 up:Tm
 b:List Bo
 w:Tm
 lv:Tm
 t:List Tm
def El.cs (x:El):List D:=[.slice (Tm.cellsL x.t) [],.slice (ltL x.c) []]
def He.cs (x:He):List D:=[.str x.p,.slice (Tm.cellsL x.a) [],.slice (ltL x.c) []]
def elL (l:List El):List (List D):=l.map El.cs
def heL (l:List He):List (List D):=l.map He.cs
def Bo.cs (x:Bo):List D:=.int .u8 x.k::(x.l.c++ .slice (ltL x.c) []:: .bool x.no:: .int .u8 x.f:: .slice (elL x.e) []:: .int .u8 x.op::x.b.cells)
def boL (l:List Bo):List (List D):=l.map Bo.cs
def Ru.cs (x:Ru):List D:=.int .u8 x.k:: .slice (heL x.h) []::(x.lo.cells++(x.up.cells++ .slice (boL x.b) []::(x.w.cells++(x.lv.cells++[.slice (Tm.cellsL x.t) []]))))
theorem Z31 (l:List El):(elL l).length=l.length:=by simp[elL]
def Z1T (l:List Lt):List Tm:=l.flatMap λx=>x.a++[x.l,x.r]
end Go.Sx
/- LITERALS AND TEXTS ARE READ. -/
namespace Go.Sx
open Go.RowKit Go.Deep Go.ChangeShapes Go.WideShapes
variable {P:Program}
section
variable [Globs] [Codes]
end
end Go.Sx
/- RULES,PLAIN: what is in the sets;a literal added. -/
namespace Go.Sx
end Go.Sx
/- RULES,PLAIN: sizes. -/
namespace Go.Sx
def fewC (N:Int) (l:List Lt):Prop:=(l.length:Int)<=N/\(∀ x∈l,x.few N)/\((Z1T l).length:Int)<=N/\((Tm.vsL (Z1T l)).length:Int)<=N
def fewT (N:Int) (l:List Tm):Prop:=(l.length:Int)<=N/\((Tm.vsL l).length:Int)<=N
def fewB (N:Int) (x:Bo):Prop:=fewC N [x.l]/\fewC N x.c/\(x.b.vs.length:Int)<=N/\(x.e.length:Int)<=N/\ ∀ y∈x.e,fewT N y.t/\fewC N y.c
structure fewR (N:Int) (r:Ru):Prop where
 t4:(r.lo.vs.length:Int)<=N/\(r.up.vs.length:Int)<=N/\(r.w.vs.length:Int)<=N/\(r.lv.vs.length:Int)<=N
 tt:fewT N r.t
 hl:(r.h.length:Int)<=N
 h: ∀ x∈r.h,fewT N x.a/\fewC N x.c
 bl:(r.b.length:Int)<=N
 b: ∀ x∈r.b,fewB N x
end Go.Sx
/- RULES ARE READ;the sizes' Z0c. -/
namespace Go.Sx
open Go.RowKit Go.Deep Go.ChangeShapes Go.WideShapes
structure El.wf (B:Nat) (x:El):Prop where
 tl:x.t.length<=B
 t:Tm.wfL B x.t
 cl:x.c.length<=B
 c: ∀ y∈x.c,y.wf B
structure He.wf (B:Nat) (x:He):Prop where
 al:x.a.length<=B
 a:Tm.wfL B x.a
 cl:x.c.length<=B
 c: ∀ y∈x.c,y.wf B
structure Bo.wf (B:Nat) (x:Bo):Prop where
 l:x.l.wf B
 cl:x.c.length<=B
 c: ∀ y∈x.c,y.wf B
 el:x.e.length<=B
 e: ∀ y∈x.e,y.wf B
 b:x.b.wf B
structure Ru.wf (B:Nat) (x:Ru):Prop where
 lo:x.lo.wf B
 up:x.up.wf B
 w:x.w.wf B
 lv:x.lv.wf B
 tl:x.t.length<=B
 t:Tm.wfL B x.t
 hl:x.h.length<=B
 h: ∀ y∈x.h,y.wf B
 bl:x.b.length<=B
 b: ∀ y∈x.b,y.wf B
variable {P:Program}
section
variable [Globs] [Codes]
end
end Go.Sx
/- RULES,PLAIN: all names of a rule;how many unsafe ones there are,how long they are. -/
namespace Go.Sx
def elT (y:El):List Tm:=y.t++Z1T y.c
def heT (y:He):List Tm:=y.a++Z1T y.c
def boT (b:Bo):List Tm:=Z1T [b.l]++(Z1T b.c++(b.b::b.e.flatMap elT))
def allT (r:Ru):List Tm:=[r.lo,r.up,r.w,r.lv]++(r.t++(r.h.flatMap heT++r.b.flatMap boT))
end Go.Sx
/- RULES,PLAIN: another order of the body,of the heads,of the conditions. -/
namespace Go.Sx
def revE (e:El):El:={e with c:=e.c.reverse}
def revB (b:Bo):Bo:={b with c:=b.c.reverse,e:=b.e.reverse.map revE}
def revH (h:He):He:={h with c:=h.c.reverse}
def rotB (l:List Bo) (k:Nat):List Bo:=l.drop k++l.take k
def Ru.turn (r:Ru) (k:Nat):Ru:={r with b:=(rotB r.b k).map revB,h:=r.h.reverse.map revH}
end Go.Sx
/- SAFETY,THE REFERENCE MODEL,PLAIN: the closure by lists;the same sets. -/
namespace Go.Sx
/- The model's Global and Unsafe. -/
end Go.Sx
