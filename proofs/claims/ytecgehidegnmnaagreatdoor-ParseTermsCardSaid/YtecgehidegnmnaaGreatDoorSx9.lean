/- Own work: a layer over the kit: plain data,a walk over it,its soundness. -/
import Derived.Sort.OwnSorted
import Derived.Lib.SlicesCompact
import Derived.Test.YtecgehidegnmnaaGreatDoorSx8
set_option linter.all false
/- The reference model's lexer,plainly: its tests are the lexer's. -/
namespace Go.Sx.Lx
open Go.Sx
end Go.Sx.Lx
/- Numbers and signs of the reference model. -/
namespace Go.Sx.Lx
open Go.Sx
def valN (a:Nat) (l:List UInt8):Nat:=l.foldl (λa c=>a*10+(c.toNat-48)) a
theorem Qj (a:Nat) (c:UInt8) (r:List UInt8):valN a (c::r)=valN (a*10+(c.toNat-48)) r:=by unfold valN;rw[List.foldl_cons]
theorem QS (a:Nat):valN a []=a:=by unfold valN;rw[List.foldl_nil]
attribute [irreducible] valN
theorem Z8X (l:List UInt8): ∀ (a:Nat),a<=valN a l:=by
 induction l with
 |nil=>intro a;rw[QS];exact Nat.le_refl _
 |cons c r b =>
  intro a;rw[Qj];exact Nat.le_trans (by omega) (b _)
theorem Z6Q (l r:List UInt8): ∀ (a:Nat),valN a (l++r)=valN (valN a l) r:=by
 induction l with
 |nil=>intro a;rw[QS];rfl
 |cons c l b=>intro a;rw[List.cons_append,Qj,Qj,b]
theorem Z1T (b:UInt8):Zz b=true ↔ 48<=b.toNat/\b.toNat<=57:=by simp[Zz]
theorem Z7c: ∀ (l:List UInt8) (a u:Nat),Lib.parseUint10 a l=.ok u->u=valN a l
 |[],a,u,h=>by simp only[Lib.parseUint10] at h;cases h;rw[QS]
 |c::r,a,u,h=>by
  simp only[Lib.parseUint10] at h;split at h
  ·split at h
   ·cases h
   ·split at h
    ·cases h
    ·rw[Qj];exact Z7c r _ u h
  ·cases h
theorem Z34: ∀ (l:List UInt8) (a:Nat),l.all Zz=true->valN a l<=2147483647->Lib.parseUint10 a l=.ok (valN a l)
 |[],a,_,_=>by rw[QS];rfl
 |c::r,a,hd,hv=>by
  rw[List.all_cons,Bool.and_eq_true,Z1T] at hd;rw[Qj] at hv;have h1:=Z8X r (a*10+(c.toNat-48));simp only[Lib.parseUint10];rw[Qj];rw[if_pos hd.1,if_neg (by omega),if_neg (by omega)];exact Z34 r _ hd.2 hv
theorem ZaN: ∀ (m:Nat) (l:List UInt8),l.length=m->l≠[]->l.all Zz=true->(Lib.decDigits (valN 0 l)=l ↔ l.length=1\/l.head? ≠ some 48):=by
 intro m;induction m with
 |zero=>intro l h k;exact absurd (List.length_eq_zero_iff.1 h) k
 |succ m n =>
  intro l hl d hd;obtain⟨q,c,rfl⟩: ∃ q c,l=q++[c]:=⟨l.dropLast,l.getLast d,(List.dropLast_concat_getLast d).symm⟩;rw[List.length_append,List.length_singleton] at hl;rw[List.all_append,Bool.and_eq_true] at hd;have hc:48<=c.toNat/\c.toNat<=57:=by
   have:=hd.2;rw[List.all_cons,List.all_nil,Bool.and_true,Z1T] at this;exact this
  rw[Z6Q,Qj,QS];have a:UInt8.ofNat (48+(c.toNat-48))=c:=by rw[show 48+(c.toNat-48)=c.toNat by omega];simp
  cases q with
  |nil =>
   simp only[QS,Nat.zero_mul,Nat.zero_add,List.nil_append,List.length_singleton,true_or,iff_true];rw[Lib.decDigits_one (by omega),a]
  |cons b r =>
   have i:=n (b::r) (by omega) (by simp) hd.1;have o:48<=b.toNat/\b.toNat<=57:=by
    have:=hd.1;rw[List.all_cons,Bool.and_eq_true,Z1T] at this;exact this.1
   have j:=Z8X r (0*10+(b.toNat-48));have hv:valN 0 (b::r)=valN (0*10+(b.toNat-48)) r:=Qj _ _ _;by_cases h0:valN 0 (b::r)=0
   ·have g:b=48:=UInt8.toNat_inj.1 (by have:(48:UInt8).toNat=48:=rfl;omega);rw[h0,Nat.zero_mul,Nat.zero_add,Lib.decDigits_one (by omega)];constructor
    ·intro h;have:=congrArg List.length h;simp at this
    ·rintro (h|h)
     ·simp at h
     ·rw[g] at h;simp at h
   ·have e: ¬ valN 0 (b::r)*10+(c.toNat-48)<10:=by omega
    rw[Lib.decDigits,dif_neg e,show (valN 0 (b::r)*10+(c.toNat-48)) / 10=valN 0 (b::r) by omega,show (valN 0 (b::r)*10+(c.toNat-48)) % 10=c.toNat-48 by omega,a];rw[List.append_left_inj,i];constructor
    ·rintro (h|h)
     ·right;simp only[List.cons_append,List.head?_cons,ne_eq,Option.some.injEq];rintro rfl;have hr:r=[]:=by cases r with
       |nil=>rfl
       |cons x y=>simp at h
      subst hr;exact h0 (by rw[Qj,QS];rfl)
     ·right;simpa using h
    ·rintro (h|h)
     ·simp at h
     ·right;simpa using h
theorem Zcz (n:Nat):Lib.itoa (n:Int)=Lib.decDigits n:=by
 unfold Lib.itoa;rw[if_neg (by omega),Int.toNat_natCast]
theorem Zcm {s:List UInt8} (a:s≠[]) (hd:s.all Zz=true):Z61 s=0 ↔ valN 0 s<=2147483647/\(s.length=1\/s.head? ≠ some 48):=by
 rw[<- ZaN _ s rfl a hd];unfold Z61;cases s with
 |nil=>exact absurd rfl a
 |cons c r =>
  have hc:48<=c.toNat/\c.toNat<=57:=by
   rw[List.all_cons,Bool.and_eq_true,Z1T] at hd;exact hd.1
  simp only[Lib.atoiAll];rw[if_neg (show ¬ (c.toNat=43\/c.toNat=45) by omega)];simp only[Lib.parseMag,if_neg (List.cons_ne_nil c r),show ¬ c.toNat=45 by omega,not_false_iff,true_and,false_and,if_false];by_cases hv:valN 0 (c::r)<=2147483647
  ·rw[Z34 _ _ hd hv];simp only;rw[if_neg (by omega)];simp only;rw[if_neg (by omega),Zcz];by_cases hx:Lib.decDigits (valN 0 (c::r))=c::r
   ·rw[if_pos hx];simp[hx,hv]
   ·rw[if_neg hx];simp[hx]
  ·constructor
   ·intro h;exfalso;cases hp:Lib.parseUint10 0 (c::r)
    case ok u =>
     have:=Z7c _ _ _ hp;rw[hp] at h;simp only at h;split at h
     ·rename_i n heq;split at heq
      ·cases heq
      ·cases heq;rw[if_pos (by omega)] at h;cases h
     ·cases h
    all_goals (rw[hp] at h;simp at h)
   ·exactλh=>absurd h.1 hv
end Go.Sx.Lx
/- The lexer's run,byte by byte. -/
namespace Go.Sx.Lx
open Go.Sx
/- What a token is,by its first byte. -/
theorem ZaK:(List.range 256).all (λn=>!(Zz (UInt8.ofNat n)) ||(!(Q4 (UInt8.ofNat n)) && !(ZQ (UInt8.ofNat n))))=true:=by decide +kernel
theorem Z6m {b:UInt8} (h:Zz b=true):Q4 b=false/\ZQ b=false:=by
 have:=List.all_eq_true.1 ZaK b.toNat (List.mem_range.2 b.toNat_lt);rw[UInt8.ofNat_toNat,h] at this;simpa using this
end Go.Sx.Lx
/- OWN ROWS OF TEXTS,SORTED AND MADE COMPACT IN PLACE BY THE LIBRARY. -/
namespace Go.Sx
open Go.RowKit Go.Sort
open Go.Proofs (encStr)
variable [Globs] [Codes]
variable {P:Program} {f:FuncId}
def srt (l:List (List UInt8)):List (List UInt8):=l.mergeSort λx y=>decide (x<=y)
end Go.Sx
/- The variables of a term. -/
namespace Go.Sx
def Tm.v1:Tm->List (List UInt8)
 |.mk k _ s _=>if k=3 then [s] else []
mutual
def Tm.vs:Tm->List (List UInt8)
 |.mk k n s l=>Tm.v1 (.mk k n s l)++Tm.vsL l
def Tm.vsL:List Tm->List (List UInt8)
 |[]=>[]
 |a::r=>a.vs++Tm.vsL r
end
end Go.Sx
/- Texts in order. -/
namespace Go.Sx
end Go.Sx
/- Sorted,made compact: what is in it,and in which order. -/
namespace Go.Sx
def Tm.V (x:Tm):List (List UInt8):=Lib.compact (srt x.vs)
end Go.Sx
/- SAFETY,PLAIN: sets of names,what literals bind,the closure. -/
namespace Go.Sx
abbrev Nm:=List UInt8
def insD (x:Nm):List Nm->List Nm
 |[]=>[x]
 |y::r=>if x<y then x::y::r else if x=y then y::r else y::insD x r
def Zmj (l:List Nm):List Nm:=l.foldr insD []
def Tm.W (x:Tm):List Nm:=Zmj x.vs
def Tm.kd:Tm->Nat
 |.mk k _ _ _=>k
def Tm.nm:Tm->Nm
 |.mk _ _ s _=>s
structure Lt where
 k:Nat
 no:Bool
 p:Nm
 a:List Tm
 op:Nat
 l:Tm
 r:Tm
def Lt.c (x:Lt):List D:=.int .u8 x.k:: .bool x.no:: .str x.p:: .slice (Tm.cellsL x.a) []:: .int .u8 x.op::(x.l.cells++x.r.cells)
def ltL (l:List Lt):List (List D):=l.map Lt.c
def Lt.wf (B:Nat) (x:Lt):Prop:=x.k<=255/\x.p.length<=B/\x.a.length<=B/\Tm.wfL B x.a/\x.op<=255/\x.l.wf B/\x.r.wf B
theorem Za6 (l:List Lt):(ltL l).length=l.length:=by simp[ltL]
theorem Za7 {l:List Lt} {i:Nat} (h:i<l.length):(ltL l)[i]? = some l[i].c:=by simp[ltL,h]
end Go.Sx
/- Terms: plain,ground,their depth. -/
namespace Go.Sx
def Tm.plain:Tm->Bool
 |.mk k _ _ _=>decide (k=1) ||decide (k=2) ||decide (k=4)
def Tm.value (t:Tm):Bool:=t.all Tm.plain && t.valid
end Go.Sx
/- A term and its parts. -/
namespace Go.Sx
def n7:Tm:=.mk 1 7 [] []
end Go.Sx
/- SAFETY,PLAIN: sizes of literals. -/
namespace Go.Sx
def Lt.few (N:Int) (x:Lt):Prop:=((Tm.vsL x.a).length:Int)<=N/\(x.l.vs.length:Int)<=N/\(x.r.vs.length:Int)<=N
end Go.Sx
/- RULES,PLAIN: their variables,those that are not bound. -/
namespace Go.Sx
structure El where
 t:List Tm
 c:List Lt
structure He where
 p:Nm
 a:List Tm
 c:List Lt
structure Bo where
 k:Nat
 l:Lt
 c:List Lt
 no:Bool
 f:Nat
 e:List El
 op:Nat
 b:Tm
structure Ru where
 k:Nat
 h:List He
 lo:Tm
 up:Tm
 b:List Bo
 w:Tm
 lv:Tm
 t:List Tm
def El.cs (x:El):List D:=[.slice (Tm.cellsL x.t) [],.slice (ltL x.c) []]
def He.cs (x:He):List D:=[.str x.p,.slice (Tm.cellsL x.a) [],.slice (ltL x.c) []]
def elL (l:List El):List (List D):=l.map El.cs
def heL (l:List He):List (List D):=l.map He.cs
def Bo.cs (x:Bo):List D:=.int .u8 x.k::(x.l.c++ .slice (ltL x.c) []:: .bool x.no:: .int .u8 x.f:: .slice (elL x.e) []:: .int .u8 x.op::x.b.cells)
def boL (l:List Bo):List (List D):=l.map Bo.cs
def Ru.cs (x:Ru):List D:=.int .u8 x.k:: .slice (heL x.h) []::(x.lo.cells++(x.up.cells++ .slice (boL x.b) []::(x.w.cells++(x.lv.cells++[.slice (Tm.cellsL x.t) []]))))
def Z20 (l:List Lt):List Tm:=l.flatMap λx=>x.a++[x.l,x.r]
end Go.Sx
/- LITERALS AND TEXTS ARE READ. -/
namespace Go.Sx
open Go.RowKit Go.Deep Go.ChangeShapes Go.WideShapes
variable {P:Program}
section
variable [Globs] [Codes]
end
end Go.Sx
/- RULES,PLAIN: what is in the sets;a literal added. -/
namespace Go.Sx
end Go.Sx
/- RULES,PLAIN: sizes. -/
namespace Go.Sx
def fewC (N:Int) (l:List Lt):Prop:=(l.length:Int)<=N/\(∀ x∈l,x.few N)/\((Z20 l).length:Int)<=N/\((Tm.vsL (Z20 l)).length:Int)<=N
def fewT (N:Int) (l:List Tm):Prop:=(l.length:Int)<=N/\((Tm.vsL l).length:Int)<=N
def fewB (N:Int) (x:Bo):Prop:=fewC N [x.l]/\fewC N x.c/\(x.b.vs.length:Int)<=N/\(x.e.length:Int)<=N/\ ∀ y∈x.e,fewT N y.t/\fewC N y.c
structure fewR (N:Int) (r:Ru):Prop where
 t4:(r.lo.vs.length:Int)<=N/\(r.up.vs.length:Int)<=N/\(r.w.vs.length:Int)<=N/\(r.lv.vs.length:Int)<=N
 tt:fewT N r.t
 hl:(r.h.length:Int)<=N
 h: ∀ x∈r.h,fewT N x.a/\fewC N x.c
 bl:(r.b.length:Int)<=N
 b: ∀ x∈r.b,fewB N x
end Go.Sx
/- RULES ARE READ;the sizes' Z0m. -/
namespace Go.Sx
open Go.RowKit Go.Deep Go.ChangeShapes Go.WideShapes
structure El.wf (B:Nat) (x:El):Prop where
 tl:x.t.length<=B
 t:Tm.wfL B x.t
 cl:x.c.length<=B
 c: ∀ y∈x.c,y.wf B
structure He.wf (B:Nat) (x:He):Prop where
 al:x.a.length<=B
 a:Tm.wfL B x.a
 cl:x.c.length<=B
 c: ∀ y∈x.c,y.wf B
structure Bo.wf (B:Nat) (x:Bo):Prop where
 l:x.l.wf B
 cl:x.c.length<=B
 c: ∀ y∈x.c,y.wf B
 el:x.e.length<=B
 e: ∀ y∈x.e,y.wf B
 b:x.b.wf B
structure Ru.wf (B:Nat) (x:Ru):Prop where
 lo:x.lo.wf B
 up:x.up.wf B
 w:x.w.wf B
 lv:x.lv.wf B
 tl:x.t.length<=B
 t:Tm.wfL B x.t
 hl:x.h.length<=B
 h: ∀ y∈x.h,y.wf B
 bl:x.b.length<=B
 b: ∀ y∈x.b,y.wf B
variable {P:Program}
section
variable [Globs] [Codes]
end
end Go.Sx
/- RULES,PLAIN: all names of a rule;how many unsafe ones there are,how long they are. -/
namespace Go.Sx
def elT (y:El):List Tm:=y.t++Z20 y.c
def heT (y:He):List Tm:=y.a++Z20 y.c
def boT (b:Bo):List Tm:=Z20 [b.l]++(Z20 b.c++(b.b::b.e.flatMap elT))
def allT (r:Ru):List Tm:=[r.lo,r.up,r.w,r.lv]++(r.t++(r.h.flatMap heT++r.b.flatMap boT))
end Go.Sx
/- RULES,PLAIN: another order of the body,of the heads,of the conditions. -/
namespace Go.Sx
def revE (e:El):El:={e with c:=e.c.reverse}
def revB (b:Bo):Bo:={b with c:=b.c.reverse,e:=b.e.reverse.map revE}
def revH (h:He):He:={h with c:=h.c.reverse}
def rotB (l:List Bo) (k:Nat):List Bo:=l.drop k++l.take k
def Ru.turn (r:Ru) (k:Nat):Ru:={r with b:=(rotB r.b k).map revB,h:=r.h.reverse.map revH}
end Go.Sx
/- SAFETY,THE REFERENCE MODEL,PLAIN: the closure by lists;the same sets. -/
namespace Go.Sx
/- The model's Global and Unsafe. -/
end Go.Sx
