/- Own work: a layer over the kit: plain data,a walk over it,its soundness. -/
import Derived.Test.YtaclfbhhekhflaaGreatDoorSx7
import Derived.Test.YtaclfbhhekhflaaGreatDoorSx9
import Derived.Test.YtaclfbhhekhflaaGreatDoorSx8
import Derived.Test.YtaclfbhhekhflaaGreatDoorSx6
set_option linter.all false
/- WHAT COMES IN WITH TERMS IN IT: structs and slices over terms,as plain data. -/
namespace Go.Sx
open Go.RowKit Go.Deep Go.ChangeShapes Go.WideShapes
inductive ShT where
 |bool
 |int (k:IntKind)
 |str
 |tms
 |slice (e:List ShT)
mutual
def ShT.fit (B:Nat):ShT->D->Prop
 |.bool,d=>∃ b,d=.bool b
 |.int k,d=>∃ n,d=.int k n/\(Lit.int k n).wf=true
 |.str,d=>∃ s,d=.str s/\s.length<=B
 |.tms,d=>∃ l,d=.slice (Tm.cellsL l) []/\l.length<=B/\Tm.wfL B l
 |.slice l,d=>∃ es,d=.slice es []/\es.length<=B/\ ∀ e,e∈es->ShT.fits B l e
def ShT.fits (B:Nat):List ShT->List D->Prop
 |[],ds=>ds=[]
 |s::r,ds=>∃ d t,ds=d::t/\ShT.fit B s d/\ShT.fits B r t
end
def fshT (P:Program) (sh:TypeId->Option (List ShT)):List Field->Nat->Option (List ShT)
 |[],_=>some []
 |f::r,off=>if f.offset=off then match sh f.type with
  |some l=>if l.length=P.cellsOf f.type then match fshT P sh r (off+l.length) with
   |some m=>some (l++m)
   |none=>none
   else none
  |none=>none
  else none
def shT (P:Program) (T:TypeId):Nat->TypeId->Option (List ShT)
 |0,_=>none
 |n+1,t=>match P.underlying t with
  |some .bool=>some [.bool]
  |some (.int k)=>some [.int k]
  |some .string=>some [.str]
  |some (.slice e)=>if e == T then some [.tms] else if 0<P.bytesOf e then match shT P T n e with
   |some l=>if l.length=P.cellsOf e/\0<l.length then some [.slice l] else none
   |none=>none
   else none
  |some (.struct fs)=>match fshT P (shT P T n) fs.toList 0 with
   |some l=>if l.length=P.cellsOf t then some l else none
   |none=>none
  |_=>none
theorem Z6V {B:Nat}: ∀ {l:List ShT} {ds:List D},ShT.fits B l ds->ds.length=l.length
 |[],ds,h=>by simp only[ShT.fits] at h;simp[h]
 |s::r,ds,h=>by
  simp only[ShT.fits] at h;obtain⟨d,t,rfl,_,h2⟩:=h;simp[Z6V h2]
theorem Z32 {B:Nat}: ∀ {l m:List ShT} {ds es:List D},ShT.fits B l ds->ShT.fits B m es->ShT.fits B (l++m) (ds++es)
 |[],m,ds,es,h,k=>by simp only[ShT.fits] at h;simpa [h] using k
 |s::r,m,ds,es,h,k=>by
  simp only[ShT.fits] at h;obtain⟨d,t,rfl,h1,h2⟩:=h;simp only[List.cons_append,ShT.fits];exact⟨d,t++es,rfl,h1,Z32 h2 k⟩
variable {H:Type} {enc:TypeId × Value->H} {P:Program} {w:World}
theorem Zc3 {T:TypeId} {n:Nat} {w:World} {r:Reach} {base:Nat} {t:TypeId} {v:Value} {l:List ShT} (hs:shT P T n t=some l) (h:Value.okWide P w r base t v) :
  (aggB P t=some true/\ ∃ cs,v=.agg cs)\/(aggB P t=some false/\v.cells=#[v]):=by
 cases n with
 |zero=>simp[shT] at hs
 |succ n =>
  unfold shT at hs;unfold aggB;unfold Value.okWide at h;split at hs;all_goals first
   |(cases hs;done)
   |(
    rename_i fs b;rw[b] at h ⊢;simp only at h;obtain⟨cs,rfl,_⟩:=h;exact .inl ⟨rfl,cs,rfl⟩)
   |(
    rename_i b;rw[b] at h ⊢;simp only[Cell.okWide,b] at h;refine .inr ⟨rfl,?_⟩;cases v<;>simp_all [Cell.ok,Value.cells])
section
variable [Globs] [Codes]
end
end Go.Sx
/- Sorted,made compact: what is in it,and in which order. -/
namespace Go.Sx
theorem Zhq (l:List (List UInt8)):(srt l).Pairwise (· <= ·):=by
 have h:=List.pairwise_mergeSort (le:=λx y:List UInt8=>decide (x<=y)) (λa b c h1 h2=>by simp only[decide_eq_true_eq] at *;exact List.le_trans h1 h2) (λa b=>by simp only[Bool.or_eq_true,decide_eq_true_eq];exact List.le_total a b) l;exact h.imp λh=>of_decide_eq_true h
theorem Z0k {l:List (List UInt8)} {x:List UInt8}:x∈srt l ↔ x∈l:=(List.mergeSort_perm l _).mem_iff
theorem ZhX {d:Array (List UInt8)} (c: ∀ i j,i<=j->j<d.size->d[i]! <= d[j]!): ∀ m,m<=d.size->(∀ x,x∈Lib.compactUpTo d m ↔ ∃ j,j<m/\d[j]! = x)/\(Lib.compactUpTo d m).Pairwise (· < ·)
 |0,_=>⟨λx=>by simp[Lib.compactUpTo],by simp[Lib.compactUpTo]⟩
 |m+1,h=>by
  obtain⟨h1,h2⟩:=ZhX c m (by omega);rw[Lib.compactUpTo_succ];by_cases hk:Lib.keeps d m=true
  ·rw[if_pos hk];refine⟨λx=>?_,?_⟩
   ·rw[List.mem_append,h1,List.mem_singleton];constructor
    ·rintro (⟨j,b,e⟩|e)
     ·exact⟨j,by omega,e⟩
     ·exact⟨m,by omega,e.symm⟩
    ·rintro⟨j,b,e⟩;by_cases hm:j=m
     ·exact .inr (by rw[<- e,hm])
     ·exact .inl ⟨j,by omega,e⟩
   ·rw[List.pairwise_append];refine⟨h2,by simp,λx hx y k=>?_⟩;rw[List.mem_singleton] at k;subst k;obtain⟨j,b,rfl⟩:=(h1 x).1 hx;have g:d[m]! ≠ d[m-1]! :=by
     unfold Lib.keeps at hk;rcases of_decide_eq_true hk with h|h
     ·omega
     ·exact h
    exact List.lt_of_le_of_lt (c j (m-1) (by omega) (by omega)) (ZcX (c (m-1) m (by omega) (by omega)) λe=>g e.symm)
  ·rw[if_neg hk,List.append_nil];refine⟨λx=>?_,h2⟩;have f:m≠0/\d[m]! = d[m-1]! :=by
    unfold Lib.keeps at hk;simp only[decide_eq_true_eq,not_or,Classical.not_not] at hk;exact hk
   rw[h1];constructor
   ·rintro⟨j,b,e⟩;exact⟨j,by omega,e⟩
   ·rintro⟨j,b,e⟩;by_cases hm:j=m
    ·exact⟨m-1,by omega,by rw[<- f.2,<- hm,e]⟩
    ·exact⟨j,by omega,e⟩
def Tm.V (x:Tm):List (List UInt8):=Lib.compact (srt x.vs)
theorem ZdU (l:List (List UInt8)):(∀ x,x∈Lib.compact (srt l) ↔ x∈l)/\(Lib.compact (srt l)).Pairwise (· < ·):=by
 have hp:=Zhq l;have h:=ZhX (d:=(srt l).toArray) (λi j f b=>by
  have c:j<(srt l).length:=by simpa using b
  rcases Nat.lt_or_eq_of_le f with h|h
  ·have:=List.pairwise_iff_getElem.1 hp i j (by omega) c h;simpa [getElem!_pos,show i<(srt l).length by omega,c] using this
  ·subst h;exact List.le_refl _) (srt l).length (by simp)
 refine⟨λx=>?_,h.2⟩;rw[<- Z0k (l:=l)]
 have:=h.1 x;unfold Lib.compact;rw[this];constructor
 ·rintro⟨j,b,e⟩;rw[getElem!_pos _ j (by simpa using b)] at e;rw[<- e];simp
 ·intro hx;obtain⟨j,b,e⟩:=List.mem_iff_getElem.1 hx;exact⟨j,b,by rw[getElem!_pos _ j (by simpa using b)];simpa using e⟩
theorem Zm7 {x:Tm} {s:List UInt8}:s∈x.V ↔ s∈x.vs:=(ZdU x.vs).1 s
theorem Zsf {x:Tm}:x.V=[] ↔ x.vs=[]:=by
 constructor
 ·intro h;rw[List.eq_nil_iff_forall_not_mem] at h ⊢;exactλs hs=>h s (Zm7.2 hs)
 ·intro h;rw[List.eq_nil_iff_forall_not_mem] at h ⊢;exactλs hs=>h s (Zm7.1 hs)
end Go.Sx
/- SAFETY,PLAIN: sets of names,what literals bind,the closure. -/
namespace Go.Sx
abbrev Nm:=List UInt8
def insS (s:List Nm) (n:Nm):List Nm:=if n∈s then s else s++[n]
def addS (s l:List Nm):List Nm:=l.foldl insS s
def kS (s:List Nm):List D:=s.map .str
def uS (s:List Nm):List D:=s.map λ_=>.agg []
theorem Z9E (s:List Nm):(kS s).length=s.length:=by simp[kS]
theorem Zg4 (n:Nm): ∀ s:List Nm,mput (.str n) (.agg []) (kS s) (uS s)=some (kS (insS s n),uS (insS s n)):=by intro s;induction s<;>grind [kS,uS,mput,keqD,insS]
theorem ZcV (n:Nm): ∀ s:List Nm,Z2K (.str n) (kS s) (uS s)=some (if n∈s then some (.agg []) else none):=by intro s;induction s<;>grind [kS,uS,Z2K,keqD]
theorem Z3l {s:List Nm} {n x:Nm}:x∈insS s n ↔ x∈s\/x=n:=by grind [insS]
theorem Ql {l:List Nm}: ∀ {s:List Nm} {x:Nm},x∈addS s l ↔ x∈s\/x∈l:=by
 induction l with
 |nil=>intro s x;simp[addS]
 |cons a r b =>
  intro s x;show x∈addS (insS s a) r ↔ _;rw[b,Z3l,List.mem_cons];constructor
  ·grind
  ·grind
theorem Zdd {s:List Nm} (n:Nm) (h:s.Nodup):(insS s n).Nodup:=by grind [insS]
theorem Z0q {l:List Nm}: ∀ {s:List Nm},s.Nodup->(addS s l).Nodup:=by
 induction l with
 |nil=>exactλh=>h
 |cons a r b=>exactλh=>b (Zdd a h)
theorem Z9J (s:List Nm) (n:Nm): ∃ t,insS s n=s++t:=by
 unfold insS;split
 ·simp_all
 ·grind
theorem Zh2 {l:List Nm}: ∀ {s:List Nm},∃ t,addS s l=s++t:=by
 induction l with
 |nil=>exactλ{s}=>⟨[],by simp[addS]⟩
 |cons a r d =>
  intro s;obtain⟨t,b⟩:=Z9J s a;obtain⟨u,c⟩:=d (s:=insS s a);exact⟨t++u,by show addS (insS s a) r=_;rw[c,b,List.append_assoc]⟩
theorem Zae (s a b:List Nm):addS s (a++b)=addS (addS s a) b:=by simp[addS]
theorem Zgd (s:List Nm) (n:Nm):s.length<=(insS s n).length/\(insS s n).length<=s.length+1:=by
 unfold insS;split<;>simp
theorem Zh3: ∀ (l s:List Nm),s.length<=(addS s l).length/\(addS s l).length<=s.length+l.length:=by intro l;induction l<;>grind [Zgd,List.length_cons,addS,insS]
theorem Z3j (s:List Nm):(srt s).Perm s:=List.mergeSort_perm s _
theorem Zc2 {s:List Nm} (h:s.Nodup):(srt s).Pairwise (· < ·):=by
 have h1:=Zhq s;have h2:(srt s).Nodup:=(Z3j s).nodup_iff.2 h;have c:=h1.and h2;exact c.imp λ⟨a,b⟩=>ZcX a b
theorem ZfU: ∀ {a b:List Nm},a.Pairwise (· < ·)->b.Pairwise (· < ·)->(∀ x,x∈a ↔ x∈b)->a=b
 |[],[],_,_,_=>rfl
 |[],y::b,_,_,h=>by have:=(h y).2 (List.mem_cons_self ..);cases this
 |x::a,[],_,_,h=>by have:=(h x).1 (List.mem_cons_self ..);cases this
 |x::a,y::b,ha,g,h=>by
  have c:=List.pairwise_cons.1 ha;have d:=List.pairwise_cons.1 g;have e:x=y:=by
   rcases List.mem_cons.1 ((h x).1 (List.mem_cons_self ..)) with e|h1
   ·exact e
   ·rcases List.mem_cons.1 ((h y).2 (List.mem_cons_self ..)) with e|h2
    ·exact e.symm
    ·exact absurd (c.1 y h2) (List.lt_asymm (d.1 x h1))
  subst e;rw[ZfU c.2 d.2 λz=>?_];constructor
  ·intro f;rcases List.mem_cons.1 ((h z).1 (List.mem_cons_of_mem _ f)) with e|h1
   ·subst e;exact absurd (c.1 z f) (List.lt_irrefl z)
   ·exact h1
  ·intro f;rcases List.mem_cons.1 ((h z).2 (List.mem_cons_of_mem _ f)) with e|h1
   ·subst e;exact absurd (d.1 z f) (List.lt_irrefl z)
   ·exact h1
theorem Z97 {a b:List Nm} (ha:a.Nodup) (c:b.Nodup) (h: ∀ x,x∈a ↔ x∈b):srt a=srt b:=by grind [ZfU,Zc2,Z0k]
def insD (x:Nm):List Nm->List Nm
 |[]=>[x]
 |y::r=>if x<y then x::y::r else if x=y then y::r else y::insD x r
def Z0Y (l:List Nm):List Nm:=l.foldr insD []
theorem Z5H {x z:Nm}: ∀ {l:List Nm},z∈insD x l ↔ z=x\/z∈l
 |[]=>by simp[insD]
 |y::r=>by
  unfold insD;split
  ·simp
  ·split
   ·rename_i h;subst h;simp
   ·rw[List.mem_cons,Z5H (l:=r),List.mem_cons];constructor
    ·rintro (h|h|h)
     ·exact .inr (.inl h)
     ·exact .inl h
     ·exact .inr (.inr h)
    ·rintro (h|h|h)
     ·exact .inr (.inl h)
     ·exact .inl h
     ·exact .inr (.inr h)
theorem Zde {x:Nm}: ∀ {l:List Nm},l.Pairwise (· < ·)->(insD x l).Pairwise (· < ·)
 |[],_=>by simp[insD]
 |y::r,h=>by
  have hh:=List.pairwise_cons.1 h;unfold insD;split
  ·rename_i hx;refine List.pairwise_cons.2 ⟨λz b=>?_,h⟩;rcases List.mem_cons.1 b with rfl|b
   ·exact hx
   ·exact List.lt_trans hx (hh.1 z b)
  ·rename_i hx;split
   ·exact h
   ·rename_i c;refine List.pairwise_cons.2 ⟨λz b=>?_,Zde hh.2⟩;rcases Z5H.1 b with rfl|b
    ·exact ZcX (List.not_lt.1 hx) λe=>c e.symm
    ·exact hh.1 z b
theorem Z5k: ∀ l:List Nm,(Z0Y l).Pairwise (· < ·)
 |[]=>List.Pairwise.nil
 |x::r=>Zde (Z5k r)
theorem ZH {z:Nm}: ∀ {l:List Nm},z∈Z0Y l ↔ z∈l
 |[]=>Iff.rfl
 |x::r=>by
  show z∈insD x (Z0Y r) ↔ _;rw[Z5H,ZH (l:=r),List.mem_cons]
theorem Z3C {s:List Nm} (h:s.Nodup):srt s=Z0Y s:=by grind [ZfU,Zc2,Z5k,Z0k,ZH]
def Tm.W (x:Tm):List Nm:=Z0Y x.vs
theorem V_eq (x:Tm):x.V=x.W:=ZfU (ZdU x.vs).2 (Z5k _) λy=>by unfold Tm.W;rw[ZH];exact Zm7
theorem Zgg (x:Nm): ∀ l:List Nm,(insD x l).length<=l.length+1:=by intro l;induction l<;>grind [List.length_cons,insD]
theorem Z0t: ∀ l:List Nm,(Z0Y l).length<=l.length
 |[]=>Nat.le_refl _
 |x::r=>by
  have h1:=Z0t r;have h2:=Zgg x (Z0Y r);show (insD x (Z0Y r)).length<=_;simp only[List.length_cons];omega
theorem Zm6 (x:Tm):x.W.length<=x.vs.length:=Z0t _
mutual
def Tm.ov:Tm->List Nm
 |.mk k n s l=>if k=5\/k=6 then [] else if k=3 then s::Tm.ovL l else Tm.ovL l
def Tm.ovL:List Tm->List Nm
 |[]=>[]
 |a::r=>a.ov++Tm.ovL r
end
theorem ZhB: ∀ x:Tm,x.ov.length<=x.vs.length
 |.mk k n s l=>by
  have IH: ∀ y∈l,y.ov.length<=y.vs.length:=λy b=>ZhB y;have c: ∀ r:List Tm,(∀ y∈r,y.ov.length<=y.vs.length)->(Tm.ovL r).length<=(Tm.vsL r).length:=by
   intro r;induction r with
   |nil=>intro _;simp[Tm.ovL]
   |cons a r d =>
    intro h;have h1:=h a (List.mem_cons_self ..);have h2:=d λy b=>h y (List.mem_cons_of_mem _ b);simp only[Tm.ovL,Tm.vsL,List.length_append];omega
  have h:=c l IH;simp only[Tm.ov,Tm.vs,Tm.v1,List.length_append];split
  ·simp
  ·split
   ·simp only[List.length_cons,List.length_nil];omega
   ·simp only[List.length_nil];omega
termination_by x=>SizeOf.sizeOf x
decreasing_by
 have:=List.sizeOf_lt_of_mem b;simp only[Tm.mk.sizeOf_spec];omega
theorem Z7O: ∀ r:List Tm,(Tm.ovL r).length<=(Tm.vsL r).length:=by intro r;induction r<;>grind [ZhB,List.length_append,Tm.ovL,Tm.vsL]
def Tm.kd:Tm->Nat
 |.mk k _ _ _=>k
def Tm.nm:Tm->Nm
 |.mk _ _ s _=>s
structure Lt where
 k:Nat
 no:Bool
 p:Nm
 a:List Tm
 op:Nat
 l:Tm
 r:Tm
def Lt.c (x:Lt):List D:=.int .u8 x.k:: .bool x.no:: .str x.p:: .slice (Tm.cellsL x.a) []:: .int .u8 x.op::(x.l.cells++x.r.cells)
def ltL (l:List Lt):List (List D):=l.map Lt.c
def Lt.wf (B:Nat) (x:Lt):Prop:=x.k<=255/\x.p.length<=B/\x.a.length<=B/\Tm.wfL B x.a/\x.op<=255/\x.l.wf B/\x.r.wf B
theorem ZkP (x:Lt):x.c.length=13:=by simp[Lt.c,Qq]
theorem Z0I (l:List Lt):(ltL l).length=l.length:=by simp[ltL]
theorem Z7T {l:List Lt} {i:Nat} (h:i<l.length):(ltL l)[i]? = some l[i].c:=by simp[ltL,h]
def Z2n (s:List Nm) (t:Tm):Bool:=t.W.all λx=>decide (x∈s)
def eqS (s:List Nm) (x t:Tm):List Nm:=if x.kd=3/\Z2n s t=true then insS s x.nm else s
def Qt (s:List Nm) (x:Lt):List Nm :=
 if x.no=true then s else if x.k=1 then addS s (Tm.ovL x.a) else if x.k=2/\x.op=1 then eqS (eqS s x.l x.r) x.r x.l else s
def ZK (s:List Nm) (ls:List Lt):List Nm:=ls.foldl Qt s
def QN:Nat->List Nm->List Lt->List Nm
 |0,s,_=>s
 |n+1,s,ls=>if (ZK s ls).length=s.length then ZK s ls else QN n (ZK s ls) ls
def Lt.pool (x:Lt):List Nm:=Tm.ovL x.a++[x.l.nm,x.r.nm]
def gapS (s:List Nm) (ls:List Lt):Nat:=((ls.flatMap Lt.pool).filter λx=>!decide (x∈s)).length
def ZF (s:List Nm) (ls:List Lt):List Nm:=QN (gapS s ls+1) s ls
theorem Z2L {s:List Nm} {t:Tm}:Z2n s t=true ↔ ∀ x∈t.W,x∈s:=by simp[Z2n]
theorem ZdE (s:List Nm) (x t:Tm): ∃ u,eqS s x t=s++u:=by
 unfold eqS;split
 ·exact Z9J _ _
 ·simp_all
theorem ZrF {s:List Nm} (x t:Tm) (h:s.Nodup):(eqS s x t).Nodup:=by grind [Zdd,eqS]
theorem Z46 {s:List Nm} {x t:Tm} {y:Nm}:y∈eqS s x t ↔ y∈s\/(x.kd=3/\Z2n s t=true/\y=x.nm):=by grind [Z3l,eqS]
theorem Z3z (s:List Nm) (x:Lt): ∃ t,Qt s x=s++t:=by
 unfold Qt;split
 ·simp_all
 split
 ·exact Zh2
 split
 ·obtain⟨t,b⟩:=ZdE s x.l x.r;obtain⟨u,c⟩:=ZdE (eqS s x.l x.r) x.r x.l;exact⟨t++u,by rw[c,b,List.append_assoc]⟩
 ·simp_all
theorem Zfz {s:List Nm} (x:Lt) (h:s.Nodup):(Qt s x).Nodup:=by grind [Z0q,ZrF,Qt]
theorem ZbZ {s:List Nm} {x:Lt} {y:Nm} (h:y∈Qt s x):y∈s\/y∈x.pool:=by
 unfold Qt at h;unfold Lt.pool;split at h
 ·exact .inl h
 split at h
 ·rcases Ql.1 h with h|h
  ·exact .inl h
  ·grind
 split at h
 ·rcases Z46.1 h with h|⟨_,_,rfl⟩
  ·rcases Z46.1 h with h|⟨_,_,rfl⟩
   ·exact .inl h
   ·grind
  ·grind
 ·exact .inl h
theorem Z5Q {s t:List Nm} {x u:Tm} (hs: ∀ y∈s,y∈t): ∀ y∈eqS s x u,y∈eqS t x u:=by
 intro y h;rcases Z46.1 h with h|⟨h1,h2,b⟩
 ·exact Z46.2 (.inl (hs y h))
 ·exact Z46.2 (.inr ⟨h1,Z2L.2 λz c=>hs z (Z2L.1 h2 z c),b⟩)
theorem Zau {s t:List Nm} {x:Lt} (hs: ∀ y∈s,y∈t): ∀ y∈Qt s x,y∈Qt t x:=by
 intro y h;unfold Qt at h ⊢;split at h
 ·grind
 rename_i h1;rw[if_neg h1];split at h
 ·rename_i h2;rw[if_pos h2];exact Ql.2 ((Ql.1 h).imp (hs y) id)
 rename_i h2;rw[if_neg h2];split at h
 ·grind [Z5Q,Qt]
 ·grind
theorem Z1q: ∀ (ls:List Lt) (s:List Nm),∃ t,ZK s ls=s++t
 |[],s=>⟨[],by simp[ZK]⟩
 |x::r,s=>by
  obtain⟨t,b⟩:=Z3z s x;obtain⟨u,c⟩:=Z1q r (Qt s x);exact⟨t++u,by show ZK (Qt s x) r=_;rw[c,b,List.append_assoc]⟩
theorem Z05: ∀ (ls:List Lt) {s:List Nm},s.Nodup->(ZK s ls).Nodup
 |[],s,h=>h
 |x::r,s,h=>Z05 r (Zfz x h)
theorem Z4G: ∀ (ls:List Lt) {s:List Nm} {y:Nm},y∈ZK s ls->y∈s\/y∈ls.flatMap Lt.pool:=by intro ls;induction ls<;>grind [ZbZ,ZK,Qt]
def Cl (ls:List Lt) (T:List Nm):Prop:=∀ x∈ls,∀ y∈Qt T x,y∈T
theorem Z6z {ls:List Lt} {T:List Nm} (c:Cl ls T): ∀ (r:List Lt) {s:List Nm},(∀ x∈r,x∈ls)->(∀ y∈s,y∈T)-> ∀ y∈ZK s r,y∈T
 |[],s,_,hs,y,h=>hs y h
 |x::r,s,hr,hs,y,h=>Z6z c r (λz b=>hr z (List.mem_cons_of_mem _ b)) (λz b=>c x (hr x (List.mem_cons_self ..)) z (Zau hs z b)) y h
theorem ZhA {s t:List Nm} (h: ∃ u,t=s++u) (hl:t.length=s.length):t=s:=by
 obtain⟨u,rfl⟩:=h;have:u=[]:=by
  simp_all
 simp[this]
theorem Zcx {s t:List Nm} (h: ∃ u,t=s++u):s.length<=t.length:=by
 obtain⟨u,rfl⟩:=h;simp
theorem Z4H: ∀ (ls:List Lt) {s:List Nm},ZK s ls=s-> ∀ x∈ls,Qt s x=s
 |[],s,_,x,hx=>by cases hx
 |a::r,s,h,x,hx=>by
  have h:ZK (Qt s a) r=s:=h;have h1:=Zcx (Z3z s a);have h2:=Zcx (Z1q r (Qt s a));rw[h] at h2;have e:=ZhA (Z3z s a) (by omega);rw[e] at h;rcases List.mem_cons.1 hx with rfl|hx
  ·exact e
  ·exact Z4H r h x hx
theorem Z9Q {s:List Nm} {ls:List Lt} (hs:s.Nodup) (hl:(ZK s ls).length≠s.length):gapS (ZK s ls) ls<gapS s ls:=by
 obtain⟨u,d⟩:=Z1q ls s;have g:=Z05 ls hs;cases u with
 |nil=>rw[d] at hl;simp at hl
 |cons e u =>
  have c:e∈ZK s ls:=by rw[d];simp
  have b:e ∉ s:=by
   grind
  have hp:e∈ls.flatMap Lt.pool:=(Z4G ls c).resolve_left b;unfold gapS;have f:(ls.flatMap Lt.pool).filter (λx=>!decide (x∈ZK s ls))=((ls.flatMap Lt.pool).filter (λx=>!decide (x∈s))).filter (λx=>!decide (x∈ZK s ls)):=by
   rw[List.filter_filter];refine List.filter_congr λx _=>?_;by_cases h1:x∈ZK s ls
   ·simp[h1]
   ·grind
  rw[f];refine List.length_filter_lt_length_iff_exists.2 ⟨e,?_,by simp[c]⟩;rw[List.mem_filter];exact⟨hp,by simp[b]⟩
theorem Ze2: ∀ (n:Nat) {s:List Nm} (ls:List Lt),s.Nodup->(QN n s ls).Nodup:=by intro n;induction n<;>grind [Z05,QN]
theorem Z75 {ls:List Lt} {T:List Nm} (b:Cl ls T): ∀ (n:Nat) {s:List Nm},(∀ y∈s,y∈T)-> ∀ y∈QN n s ls,y∈T
 |0,s,hs,y,h=>hs y h
 |n+1,s,hs,y,h=>by
  have hr:=Z6z b ls (λ_ h=>h) hs;unfold QN at h;split at h
  ·exact hr y h
  ·exact Z75 b n hr y h
theorem Z50: ∀ (n:Nat) {s:List Nm} (ls:List Lt),s.Nodup->gapS s ls<n->ZK (QN n s ls) ls=QN n s ls
 |0,s,ls,_,h=>by omega
 |n+1,s,ls,hs,h=>by
  unfold QN;split
  ·rename_i hl;have e:=ZhA (Z1q ls s) hl;rw[e,e]
  ·rename_i hl
   have:=Z9Q hs hl;exact Z50 n ls (Z05 ls hs) (by omega)
theorem Z4f: ∀ (n m:Nat) {s:List Nm} (ls:List Lt),s.Nodup->gapS s ls<n->gapS s ls<m->QN n s ls=QN m s ls
 |0,_,s,ls,_,h,_=>by omega
 |_+1,0,s,ls,_,_,h=>by omega
 |n+1,m+1,s,ls,hs,h1,h2=>by
  unfold QN;split
  ·rfl
  ·rename_i hl
   have:=Z9Q hs hl;exact Z4f n m ls (Z05 ls hs) (by omega) (by omega)
theorem Z8q {s:List Nm} (ls:List Lt) (hs:s.Nodup):ZF s ls=if (ZK s ls).length=s.length then ZK s ls else ZF (ZK s ls) ls:=by grind [Z9Q,Z4f,Z05,ZF,QN]
theorem Z2t {s:List Nm} (ls:List Lt) (h:s.Nodup):(ZF s ls).Nodup:=Ze2 _ ls h
theorem Ze0 {s:List Nm} (ls:List Lt) (h:s.Nodup):Cl ls (ZF s ls):=λx hx y b=>by
 have e:=Z4H ls (Z50 (gapS s ls+1) ls h (Nat.lt_succ_self _)) x hx;have b:y∈Qt (QN (gapS s ls+1) s ls) x:=b;rw[e] at b;exact b
theorem Z4e {s:List Nm} {ls:List Lt} {T:List Nm} (b:Cl ls T) (hs: ∀ y∈s,y∈T): ∀ y∈ZF s ls,y∈T:=Z75 b _ hs
def Z0j (ls:List Lt) (b:List Nm):List Nm:=srt (ZF (addS [] b) ls)
theorem Zbl {ls:List Lt} {g:List Nm} {x:Nm}:x∈Z0j ls g ↔ x∈ZF (addS [] g) ls:=Z0k
theorem Zeb (ls:List Lt) (g:List Nm):(Z0j ls g).Pairwise (· < ·):=Zc2 (Z2t ls (Z0q List.nodup_nil))
end Go.Sx
/- A term and its parts. -/
namespace Go.Sx
mutual
theorem ZtR: ∀ (t:Tm) (m:Int),t.sz m<=m->(t.vs.length:Int)<=m
 |.mk k n s l,m,h=>by
  simp only[Tm.sz] at h
  have:=Zhn l (m-1) 0 (by omega);have h1:(Tm.v1 (.mk k n s l)).length<=1:=by
   simp only[Tm.v1];split<;>simp
  simp only[Tm.vs,List.length_append];omega
theorem Zhn: ∀ (l:List Tm) (m n:Int),Tm.szL l m n<=m->((Tm.vsL l).length:Int)<=m-n
 |[],m,n,h=>by
  simp only[Tm.szL] at h;simp only[Tm.vsL,List.length_nil];omega
 |a::r,m,n,h=>by
  simp only[Tm.szL] at h;simp only[Tm.vsL,List.length_append];split at h
  ·have h0:=Qh r m (n+a.sz (m-n));have h1:=ZtR a (m-n) (by omega);have c:=Qg a (m-n);have h2:=Zhn r m (n+a.sz (m-n)) h;have b:=Z0X a (m-n) (by omega);omega
  ·omega
theorem Z0X: ∀ (t:Tm) (m:Int),t.sz m<=m->(t.vs.length:Int)<=t.sz m
 |.mk k n s l,m,h=>by
  simp only[Tm.sz] at h ⊢
  have:=Z3x l (m-1) 0 (by omega);have h1:(Tm.v1 (.mk k n s l)).length<=1:=by
   simp only[Tm.v1];split<;>simp
  simp only[Tm.vs,List.length_append];omega
theorem Z3x: ∀ (l:List Tm) (m n:Int),Tm.szL l m n<=m->((Tm.vsL l).length:Int)<=Tm.szL l m n-n
 |[],m,n,h=>by
  simp only[Tm.szL] at h ⊢;simp only[Tm.vsL,List.length_nil];omega
 |a::r,m,n,h=>by
  simp only[Tm.szL] at h ⊢;simp only[Tm.vsL,List.length_append];split at h
  ·rename_i hc;rw[if_pos hc];have h0:=Qh r m (n+a.sz (m-n));have h2:=Z3x r m (n+a.sz (m-n)) h;have b:=Z0X a (m-n) (by omega);omega
  ·omega
end
def n7:Tm:=.mk 1 7 [] []
end Go.Sx
/- SAFETY,PLAIN: sizes of literals. -/
namespace Go.Sx
def szLt (x:Lt) (m:Int):Int:=1+(1+Tm.szL x.a (m-1) 0)+x.l.sz m+x.r.sz m
def ZW:List Lt->Int->Int->Int
 |[],_,n=>n
 |x::r,m,n=>if n<=m then ZW r m (n+szLt x (m-n)) else n
theorem Z5i (x:Lt) (m:Int):4<=szLt x m:=by
 have h1:=Qh x.a (m-1) 0;have h2:=Qg x.l m;have b:=Qg x.r m;unfold szLt;omega
theorem ZQ: ∀ (l:List Lt) (m n:Int),n<=ZW l m n
 |[],m,n=>Int.le_refl _
 |x::r,m,n=>by
  unfold ZW;split
  ·have h1:=ZQ r m (n+szLt x (m-n));have h2:=Z5i x (m-n);omega
  ·exact Int.le_refl _
def Lt.few (N:Int) (x:Lt):Prop:=((Tm.vsL x.a).length:Int)<=N/\(x.l.vs.length:Int)<=N/\(x.r.vs.length:Int)<=N
theorem Z92 {x:Lt} {m:Int} (h:szLt x m<=m):x.few m/\(x.pool.length:Int)+2<=szLt x m:=by
 have h1:=Qh x.a (m-1) 0;have h2:=Qg x.l m;have b:=Qg x.r m;unfold szLt at h ⊢;have c:=Z3x x.a (m-1) 0 (by omega);have d:=Z0X x.l m (by omega);have e:=Z0X x.r m (by omega);have f:(Tm.ovL x.a).length<=(Tm.vsL x.a).length:=Z7O x.a;refine⟨⟨by omega,by omega,by omega⟩,?_⟩;simp only[Lt.pool,List.length_append,List.length_cons,List.length_nil];omega
theorem Z5L {x:Lt} {a b:Int} (h:x.few a) (c:a<=b):x.few b:=⟨Int.le_trans h.1 c,Int.le_trans h.2.1 c,Int.le_trans h.2.2 c⟩
theorem Z6h: ∀ (l:List Lt) (m n:Int),0<=n->ZW l m n<=m->(∀ x∈l,x.few m)/\n+l.length+(l.flatMap Lt.pool).length<=ZW l m n
 |[],m,n,_,h=>⟨λx hx=>(by cases hx),by simp[ZW]⟩
 |x::r,m,n,e,h=>by
  unfold ZW at h ⊢;split at h
  ·rename_i hc;rw[if_pos hc];have h1:=ZQ r m (n+szLt x (m-n));have h2:=Z5i x (m-n);have c:=Z92 (x:=x) (m:=m-n) (by omega);have d:=Z6h r m (n+szLt x (m-n)) (by omega) h;refine⟨λy b=>?_,?_⟩
   ·rcases List.mem_cons.1 b with rfl|b
    ·exact Z5L c.1 (by omega)
    ·exact d.1 y b
   ·rw[List.length_cons,List.flatMap_cons,List.length_append];omega
  ·omega
theorem Zbh {s:List Nm} (ls:List Lt) (h:s.Nodup):(ZF s ls).length<=s.length+(ls.flatMap Lt.pool).length:=by
 have c: ∀ (n:Nat) (s:List Nm),∀ y∈QN n s ls,y∈s++ls.flatMap Lt.pool:=by
  intro n;induction n with
  |zero=>intro s y b;exact List.mem_append_left _ b
  |succ n e =>
   intro s y b;unfold QN at b;have hr: ∀ z∈ZK s ls,z∈s++ls.flatMap Lt.pool:=λz d=>List.mem_append.2 (Z4G ls d);split at b
   ·exact hr y b
   ·grind
 have:=List.Nodup.length_le_of_subset (Z2t ls h) (l₂:=s++ls.flatMap Lt.pool) (λy b=>c _ s y b);rw[List.length_append] at this;exact this
end Go.Sx
/- RULES,PLAIN: their variables,those that are not bound. -/
namespace Go.Sx
structure El where
 t:List Tm
 c:List Lt
structure He where
 p:Nm
 a:List Tm
 c:List Lt
structure Bo where
 k:Nat
 l:Lt
 c:List Lt
 no:Bool
 f:Nat
 e:List El
 op:Nat
 b:Tm
structure Ru where
 k:Nat
 h:List He
 lo:Tm
 up:Tm
 b:List Bo
 w:Tm
 lv:Tm
 t:List Tm
def El.cs (x:El):List D:=[.slice (Tm.cellsL x.t) [],.slice (ltL x.c) []]
def He.cs (x:He):List D:=[.str x.p,.slice (Tm.cellsL x.a) [],.slice (ltL x.c) []]
def elL (l:List El):List (List D):=l.map El.cs
def heL (l:List He):List (List D):=l.map He.cs
def Bo.cs (x:Bo):List D:=.int .u8 x.k::(x.l.c++ .slice (ltL x.c) []:: .bool x.no:: .int .u8 x.f:: .slice (elL x.e) []:: .int .u8 x.op::x.b.cells)
def boL (l:List Bo):List (List D):=l.map Bo.cs
def Ru.cs (x:Ru):List D:=.int .u8 x.k:: .slice (heL x.h) []::(x.lo.cells++(x.up.cells++ .slice (boL x.b) []::(x.w.cells++(x.lv.cells++[.slice (Tm.cellsL x.t) []]))))
theorem Z5S (l:List El):(elL l).length=l.length:=by simp[elL]
theorem Z3V (l:List He):(heL l).length=l.length:=by simp[heL]
theorem Q6 (l:List Bo):(boL l).length=l.length:=by simp[boL]
theorem ZdM {l:List El} {i:Nat} (h:i<l.length):(elL l)[i]? = some l[i].cs:=by simp[elL,h]
theorem Z87 {l:List He} {i:Nat} (h:i<l.length):(heL l)[i]? = some l[i].cs:=by simp[heL,h]
theorem Z8w {l:List Bo} {i:Nat} (h:i<l.length):(boL l)[i]? = some l[i].cs:=by simp[boL,h]
def Zb (l:List Lt):List Tm:=l.flatMap λx=>x.a++[x.l,x.r]
def Zj (l:List Tm):List Nm:=l.flatMap Tm.W
def Z2z (l:List Lt):List Nm:=Zj (Zb l)
def Z3Z (k:Nat) (s:List Nm) (x:He):List Nm:=if k=2 then s else addS (addS s (Zj x.a)) (Z2z x.c)
def Z40 (s:List Nm) (x:Bo):List Nm:=if x.k=1 then addS s (Z2z [x.l]) else if x.k=3 then addS s (Zj [x.b]) else s
def Zq (r:Ru):List Nm:=r.b.foldl Z40 (r.h.foldl (Z3Z r.k) (addS (addS [] (Zj [r.lo,r.up,r.w,r.lv])) (Zj r.t)))
def ckS (u names b:List Nm):List Nm:=addS u (names.filter λx=>!decide (x∈b))
def Z2q (g u:List Nm) (c:List Lt) (names:List Nm):List Nm:=ckS (ckS u names (ZF g c)) (Z2z c) (ZF g c)
def Z5d (g u:List Nm) (x:El):List Nm:=Z2q g u x.c (Zj x.t)
def Z0E (g:List Nm) (p:List Nm × List Lt) (x:Bo):List Nm × List Lt:=if x.k=1 then (p.1,p.2++[x.l]) else if x.k=2 then (Z2q g p.1 x.c (Z2z [x.l]),p.2) else if x.k=3 then (x.e.foldl (Z5d g) p.1,p.2) else p
def Z2A (k:Nat) (g u:List Nm) (x:He):List Nm:=if k=2 then Z2q g u x.c (Zj x.a) else u
def ZV (r:Ru):List Nm:=ckS (r.h.foldl (Z2A r.k (Zq r)) (r.b.foldl (Z0E (Zq r)) ([],[])).1) (Zq r) (ZF [] (r.b.foldl (Z0E (Zq r)) ([],[])).2)
theorem Za1 {u names b:List Nm} (h:u.Nodup):(ckS u names b).Nodup:=Z0q h
theorem Z5R {g u:List Nm} {c:List Lt} {names:List Nm} (h:u.Nodup):(Z2q g u c names).Nodup:=Za1 (Za1 h)
theorem Zgo (k:Nat): ∀ (l:List He) {s:List Nm},s.Nodup->(l.foldl (Z3Z k) s).Nodup:=by intro l;induction l<;>grind [Z0q,Z3Z]
theorem Zgp: ∀ (l:List Bo) {s:List Nm},s.Nodup->(l.foldl Z40 s).Nodup:=by intro l;induction l<;>grind [Z0q,Z40]
theorem Z1A (r:Ru):(Zq r).Nodup:=Zgp _ (Zgo _ _ (Z0q (Z0q List.nodup_nil)))
theorem Z8W (g:List Nm): ∀ (l:List El) {u:List Nm},u.Nodup->(l.foldl (Z5d g) u).Nodup
 |[],u,h=>h
 |x::r,u,h=>Z8W g r (Z5R h)
theorem Z5e (g:List Nm): ∀ (l:List Bo) {p:List Nm × List Lt},p.1.Nodup->(l.foldl (Z0E g) p).1.Nodup
 |[],p,h=>h
 |x::r,p,h=>Z5e g r (by unfold Z0E;split;exact h;split;exact Z5R h;split;exact Z8W g _ h;exact h)
theorem Z8V (k:Nat) (g:List Nm): ∀ (l:List He) {u:List Nm},u.Nodup->(l.foldl (Z2A k g) u).Nodup:=by intro l;induction l<;>grind [Z5R,Z2A]
theorem QW (r:Ru):(ZV r).Nodup:=Za1 (Z8V _ _ _ (Z5e _ _ List.nodup_nil))
theorem Z8s {u names b:List Nm} {x:Nm}:x∈ckS u names b ↔ x∈u\/(x∈names/\x ∉ b):=by grind [Ql,ckS]
theorem ZgM {u q g b:List Nm} (c:u.Nodup) (h:q.Perm g):(ckS u q b).Perm (ckS u g b):=by grind [List.perm_ext_iff_of_nodup,Za1,Z8s]
theorem Za2 (u:List Nm) (x:Nm) (r b:List Nm):ckS u (x::r) b=if x∈b then ckS u r b else ckS (insS u x) r b:=by
 unfold ckS;by_cases h:x∈b
 ·grind
 ·rw[if_neg h,List.filter_cons_of_pos (by simp[h])];rfl
theorem Z8t (u a b c:List Nm):ckS u (a++b) c=ckS (ckS u a c) b c:=by
 unfold ckS;rw[List.filter_append,Zae]
end Go.Sx
/- LITERALS AND TEXTS ARE READ. -/
namespace Go.Sx
open Go.RowKit Go.Deep Go.ChangeShapes Go.WideShapes
def tmSh:List ShT:=[.int .u8,.int .i64,.str,.tms]
def Z7X:List ShT:=.int .u8:: .bool:: .str:: .tms:: .int .u8::(tmSh++tmSh)
theorem Z0a {B:Nat}: ∀ {l m:List ShT} {ds:List D},ShT.fits B (l++m) ds-> ∃ a b,ds=a++b/\ShT.fits B l a/\ShT.fits B m b
 |[],m,ds,h=>⟨[],ds,rfl,rfl,h⟩
 |s::r,m,ds,h=>by
  simp only[List.cons_append,ShT.fits] at h;obtain⟨d,t,rfl,h1,h2⟩:=h;obtain⟨a,b,rfl,c,e⟩:=Z0a h2;exact⟨d::a,b,rfl,⟨d,a,rfl,h1,c⟩,e⟩
theorem Z7u {B:Nat} {ds:List D} (h:ShT.fits B tmSh ds): ∃ t:Tm,t.wf B/\ds=t.cells:=by
 simp only[tmSh,ShT.fits,ShT.fit] at h;obtain⟨_,_,rfl,⟨k,rfl,hk⟩,_,_,rfl,⟨n,rfl,b⟩,_,_,rfl,⟨s,rfl,hs⟩,_,_,rfl,⟨l,rfl,hl,c⟩,rfl⟩:=h;have h1:=Z68 hk;have h2:=Zhi b;refine⟨.mk k.toNat n s l,⟨by omega,h2.1,h2.2,hs,hl,c⟩,?_⟩;simp only[Tm.cells];rw[Int.toNat_of_nonneg h1.1]
theorem ZhL {B:Nat} {ds:List D} (h:ShT.fits B Z7X ds): ∃ x:Lt,x.wf B/\ds=x.c:=by
 simp only[Z7X,ShT.fits,ShT.fit] at h;obtain⟨_,_,rfl,⟨k,rfl,hk⟩,_,_,rfl,⟨no,rfl⟩,_,_,rfl,⟨p,rfl,hp⟩,_,_,rfl,⟨a,rfl,ha,b⟩,_,_,rfl,⟨op,rfl,c⟩,h⟩:=h;obtain⟨c1,c2,rfl,h1,h2⟩:=Z0a h;obtain⟨l,hl,rfl⟩:=Z7u h1;obtain⟨r,hr,rfl⟩:=Z7u h2;have d:=Z68 hk;have e:=Z68 c;refine⟨⟨k.toNat,no,p,a,op.toNat,l,r⟩,⟨by simp only;omega,hp,ha,b,by simp only;omega,hl,hr⟩,?_⟩;simp only[Lt.c];rw[Int.toNat_of_nonneg d.1,Int.toNat_of_nonneg e.1]
theorem Z5B {B:Nat}: ∀ {es:List (List D)},(∀ e∈es,ShT.fits B Z7X e)-> ∃ l:List Lt,es=ltL l/\ ∀ x∈l,x.wf B
 |[],_=>⟨[],rfl,λ_ h=>by cases h⟩
 |e::r,h=>by
  obtain⟨x,hx,rfl⟩:=ZhL (h e (List.mem_cons_self ..));obtain⟨l,rfl,hl⟩:=Z5B (es:=r) λy b=>h y (List.mem_cons_of_mem _ b);refine⟨x::l,rfl,λy b=>?_⟩;rcases List.mem_cons.1 b with rfl|b
  ·exact hx
  ·exact hl y b
variable {P:Program}
section
variable [Globs] [Codes]
end
end Go.Sx
/- RULES,PLAIN: what is in the sets;a literal added. -/
namespace Go.Sx
theorem Z6P {k:Nat} {x:Nm}: ∀ {l:List He} {s:List Nm},x∈l.foldl (Z3Z k) s ↔ x∈s\/(k≠2/\ ∃ h∈l,x∈Zj h.a\/x∈Z2z h.c)
 |[],s=>by simp
 |a::r,s=>by
  rw[List.foldl_cons,Z6P (l:=r)];by_cases hk:k=2
  ·simp[Z3Z,hk]
  ·have e:Z3Z k s a=addS (addS s (Zj a.a)) (Z2z a.c):=by unfold Z3Z;rw[if_neg hk]
   rw[e,Ql,Ql];constructor
   ·rintro (((h|h)|h)|⟨_,y,b,h⟩)
    ·exact .inl h
    ·exact .inr ⟨hk,a,List.mem_cons_self ..,.inl h⟩
    ·exact .inr ⟨hk,a,List.mem_cons_self ..,.inr h⟩
    ·exact .inr ⟨hk,y,List.mem_cons_of_mem _ b,h⟩
   ·rintro (h|⟨_,y,b,h⟩)
    ·exact .inl (.inl (.inl h))
    ·rcases List.mem_cons.1 b with rfl|b
     ·rcases h with h|h
      ·exact .inl (.inl (.inr h))
      ·exact .inl (.inr h)
     ·exact .inr ⟨hk,y,b,h⟩
def gOf (b:Bo) (x:Nm):Prop:=(b.k=1/\x∈Z2z [b.l])\/(b.k=3/\x∈Zj [b.b])
theorem Z6Q {x:Nm}: ∀ {l:List Bo} {s:List Nm},x∈l.foldl Z40 s ↔ x∈s\/ ∃ b∈l,gOf b x
 |[],s=>by simp
 |a::r,s=>by
  rw[List.foldl_cons,Z6Q (l:=r)];have e:x∈Z40 s a ↔ x∈s\/gOf a x:=by
   unfold Z40 gOf;by_cases h1:a.k=1
   ·rw[if_pos h1,Ql];simp[h1]
   ·rw[if_neg h1];by_cases d:a.k=3
    ·rw[if_pos d,Ql];simp[d]
    ·rw[if_neg d];simp[h1,d]
  rw[e];constructor
  ·rintro ((h|h)|⟨b,c,h⟩)
   ·exact .inl h
   ·exact .inr ⟨a,List.mem_cons_self ..,h⟩
   ·exact .inr ⟨b,List.mem_cons_of_mem _ c,h⟩
  ·rintro (h|⟨b,c,h⟩)
   ·exact .inl (.inl h)
   ·rcases List.mem_cons.1 c with rfl|c
    ·exact .inl (.inr h)
    ·exact .inr ⟨b,c,h⟩
theorem Z1W {r:Ru} {x:Nm}:x∈Zq r ↔ x∈Zj [r.lo,r.up,r.w,r.lv]\/x∈Zj r.t\/(r.k≠2/\ ∃ h∈r.h,x∈Zj h.a\/x∈Z2z h.c)\/ ∃ b∈r.b,gOf b x:=by grind [Z6Q,Z6P,Ql,Zq]
def badE (g:List Nm) (c:List Lt) (names:List Nm) (x:Nm):Prop:=x ∉ ZF g c/\(x∈names\/x∈Z2z c)
theorem Z49 {g u:List Nm} {c:List Lt} {names:List Nm} {x:Nm}:x∈Z2q g u c names ↔ x∈u\/badE g c names x:=by grind [Z8s,Z2q,badE]
theorem Z6b {g:List Nm} {x:Nm}: ∀ {l:List El} {u:List Nm},x∈l.foldl (Z5d g) u ↔ x∈u\/ ∃ e∈l,badE g e.c (Zj e.t) x
 |[],u=>by simp
 |a::r,u=>by
  rw[List.foldl_cons,Z6b (l:=r)];unfold Z5d;rw[Z49];constructor
  ·rintro ((h|h)|⟨b,c,h⟩)
   ·exact .inl h
   ·exact .inr ⟨a,List.mem_cons_self ..,h⟩
   ·exact .inr ⟨b,List.mem_cons_of_mem _ c,h⟩
  ·rintro (h|⟨b,c,h⟩)
   ·exact .inl (.inl h)
   ·rcases List.mem_cons.1 c with rfl|c
    ·exact .inl (.inr h)
    ·exact .inr ⟨b,c,h⟩
def badB (g:List Nm) (b:Bo) (x:Nm):Prop:=(b.k=2/\badE g b.c (Z2z [b.l]) x)\/(b.k=3/\ ∃ e∈b.e,badE g e.c (Zj e.t) x)
def Z0x (l:List Bo):List Lt:=l.filterMap λb=>if b.k=1 then some b.l else none
theorem Z6c {g:List Nm} {x:Nm}: ∀ {l:List Bo} {p:List Nm × List Lt},(x∈(l.foldl (Z0E g) p).1 ↔ x∈p.1\/ ∃ b∈l,badB g b x)/\(l.foldl (Z0E g) p).2=p.2++Z0x l
 |[],p=>by simp[Z0x]
 |a::r,p=>by
  obtain⟨h1,h2⟩:=Z6c (g:=g) (x:=x) (l:=r) (p:=Z0E g p a);rw[List.foldl_cons,h1,h2];have e:(x∈(Z0E g p a).1 ↔ x∈p.1\/badB g a x)/\(Z0E g p a).2++Z0x r=p.2++Z0x (a::r):=by
   unfold Z0E badB Z0x;by_cases d:a.k=1
   ·rw[if_pos d];simp[d]
   ·rw[if_neg d];by_cases k2:a.k=2
    ·rw[if_pos k2];simp[k2,Z49]
    ·rw[if_neg k2];by_cases f:a.k=3
     ·rw[if_pos f];simp[f,Z6b]
     ·rw[if_neg f];simp[d,k2,f]
  rw[e.1];refine⟨?_,e.2⟩;constructor
  ·rintro ((h|h)|⟨b,c,h⟩)
   ·exact .inl h
   ·exact .inr ⟨a,List.mem_cons_self ..,h⟩
   ·exact .inr ⟨b,List.mem_cons_of_mem _ c,h⟩
  ·rintro (h|⟨b,c,h⟩)
   ·exact .inl (.inl h)
   ·rcases List.mem_cons.1 c with rfl|c
    ·exact .inl (.inr h)
    ·exact .inr ⟨b,c,h⟩
theorem Z6a {k:Nat} {g:List Nm} {x:Nm}: ∀ {l:List He} {u:List Nm},x∈l.foldl (Z2A k g) u ↔ x∈u\/(k=2/\ ∃ h∈l,badE g h.c (Zj h.a) x)
 |[],u=>by simp
 |a::r,u=>by
  rw[List.foldl_cons,Z6a (l:=r)];by_cases hk:k=2
  ·have e:Z2A k g u a=Z2q g u a.c (Zj a.a):=by unfold Z2A;rw[if_pos hk]
   rw[e,Z49];constructor
   ·rintro ((h|h)|⟨_,b,c,h⟩)
    ·exact .inl h
    ·exact .inr ⟨hk,a,List.mem_cons_self ..,h⟩
    ·exact .inr ⟨hk,b,List.mem_cons_of_mem _ c,h⟩
   ·rintro (h|⟨_,b,c,h⟩)
    ·exact .inl (.inl h)
    ·rcases List.mem_cons.1 c with rfl|c
     ·exact .inl (.inr h)
     ·exact .inr ⟨hk,b,c,h⟩
  ·simp[Z2A,hk]
theorem Z3t {r:Ru} {x:Nm}:x∈ZV r ↔ ((∃ b∈r.b,badB (Zq r) b x)\/(r.k=2/\ ∃ h∈r.h,badE (Zq r) h.c (Zj h.a) x))\/(x∈Zq r/\x ∉ ZF [] (Z0x r.b)):=by grind [Z8s,Z6a,Z6c,ZV]
end Go.Sx
/- RULES,PLAIN: sizes. -/
namespace Go.Sx
def szHe (x:He) (m:Int):Int:=(1+Tm.szL x.a (m-1) 0)+ZW x.c m 0
def Z2B:List He->Int->Int->Int
 |[],_,n=>n
 |x::r,m,n=>if n<=m then Z2B r m (n+szHe x (m-n)) else n
def szEl (x:El) (m:Int):Int:=1+Tm.szL x.t m 0+ZW x.c m 0
def Z2C:List El->Int->Int->Int
 |[],_,n=>n
 |x::r,m,n=>if n<=m then Z2C r m (n+szEl x (m-n)) else n
def szBo (x:Bo) (m:Int):Int:=1+ZW [x.l] m 0+ZW x.c m 0+x.b.sz m
def Z1N:List Bo->Int->Int->Int
 |[],_,n=>n
 |x::r,m,n=>if n<=m then Z1N r m (Z2C x.e m (n+szBo x (m-n))) else n
def szR0 (r:Ru) (m:Int):Int:=1+r.lo.sz m+r.up.sz m+r.w.sz m+r.lv.sz m+Tm.szL r.t m 0
def szRu (r:Ru) (m:Int):Int:=Z1N r.b m (Z2B r.h m (szR0 r m))
theorem Z00 (a b:List Tm):Tm.vsL (a++b)=Tm.vsL a++Tm.vsL b:=by induction a<;>grind [List.append_assoc,Tm.vsL]
theorem Z7w: ∀ (l:List Tm) (m n:Int),Tm.szL l m n<=m->n+l.length<=Tm.szL l m n
 |[],m,n,h=>by simp[Tm.szL]
 |a::r,m,n,h=>by
  simp only[Tm.szL] at h ⊢;split at h
  ·rename_i hc;rw[if_pos hc];have h1:=Z7w r m _ h;have h2:=Qg a (m-n);rw[List.length_cons];omega
  ·omega
def fewC (N:Int) (l:List Lt):Prop:=(l.length:Int)<=N/\(∀ x∈l,x.few N)/\((Zb l).length:Int)<=N/\((Tm.vsL (Zb l)).length:Int)<=N
theorem ZiP {x:Lt} {m:Int} (h:szLt x m<=m):((Zb [x]).length:Int)<=szLt x m/\((Tm.vsL (Zb [x])).length:Int)<=szLt x m:=by
 have h1:=Qh x.a (m-1) 0;have h2:=Qg x.l m;have b:=Qg x.r m;unfold szLt at h ⊢;have c:=Z3x x.a (m-1) 0 (by omega);have d:=Z0X x.l m (by omega);have f:=Z0X x.r m (by omega);have g:=Z7w x.a (m-1) 0 (by omega);have e:Zb [x]=x.a++[x.l,x.r]:=by simp[Zb]
 rw[e,Z00];simp only[List.length_append,List.length_cons,List.length_nil,Tm.vsL,List.append_nil];omega
theorem Z91: ∀ (l:List Lt) (m n:Int),0<=n->ZW l m n<=m->n+(Zb l).length<=ZW l m n/\n+(Tm.vsL (Zb l)).length<=ZW l m n
 |[],m,n,_,h=>by simp[ZW,Zb,Tm.vsL]
 |x::r,m,n,d,h=>by
  unfold ZW at h ⊢;split at h
  ·rename_i hc;rw[if_pos hc];have h1:=ZQ r m (n+szLt x (m-n));have h2:=Z5i x (m-n);have b:=ZiP (x:=x) (m:=m-n) (by omega);have c:=Z91 r m (n+szLt x (m-n)) (by omega) h;have e:Zb (x::r)=Zb [x]++Zb r:=by simp[Zb]
   rw[e,Z00,List.length_append,List.length_append];omega
  ·omega
theorem Z5N {l:List Lt} {m N:Int} (h:ZW l m 0<=m) (hm:m<=N):fewC N l:=by
 have h1:=Z6h l m 0 (Int.le_refl _) h;have h2:=Z91 l m 0 (Int.le_refl _) h;exact⟨by omega,λx hx=>Z5L (h1.1 x hx) hm,by omega,by omega⟩
def fewT (N:Int) (l:List Tm):Prop:=(l.length:Int)<=N/\((Tm.vsL l).length:Int)<=N
theorem Z8h {l:List Tm} {m N:Int} (h:Tm.szL l m 0<=m) (hm:m<=N):fewT N l:=by
 have h1:=Z7w l m 0 h;have h2:=Z3x l m 0 h;exact⟨by omega,by omega⟩
theorem ZbN (x:He) (m:Int):1<=szHe x m:=by
 have h1:=Qh x.a (m-1) 0;have h2:=ZQ x.c m 0;unfold szHe;omega
theorem ZbO (x:El) (m:Int):1<=szEl x m:=by
 have h1:=Qh x.t m 0;have h2:=ZQ x.c m 0;unfold szEl;omega
theorem Z7x (x:Bo) (m:Int):2<=szBo x m:=by
 have h1:=ZQ [x.l] m 0;have h2:=ZQ x.c m 0;have b:=Qg x.b m;unfold szBo;omega
theorem Z3f: ∀ (l:List He) (m n:Int),n<=Z2B l m n
 |[],m,n=>Int.le_refl _
 |x::r,m,n=>by
  unfold Z2B;split
  ·have h1:=Z3f r m (n+szHe x (m-n));have h2:=ZbN x (m-n);omega
  ·exact Int.le_refl _
theorem Z27: ∀ (l:List El) (m n:Int),n<=Z2C l m n
 |[],m,n=>Int.le_refl _
 |x::r,m,n=>by
  unfold Z2C;split
  ·have h1:=Z27 r m (n+szEl x (m-n));have h2:=ZbO x (m-n);omega
  ·exact Int.le_refl _
theorem Z28: ∀ (l:List Bo) (m n:Int),n<=Z1N l m n
 |[],m,n=>Int.le_refl _
 |x::r,m,n=>by
  unfold Z1N;split
  ·have h1:=Z28 r m (Z2C x.e m (n+szBo x (m-n)));have h2:=Z27 x.e m (n+szBo x (m-n));have b:=Z7x x (m-n);omega
  ·exact Int.le_refl _
theorem Z6i: ∀ (l:List He) (m n:Int),0<=n->Z2B l m n<=m->n+l.length<=Z2B l m n/\ ∀ x∈l,fewT m x.a/\fewC m x.c
 |[],m,n,_,h=>⟨by simp[Z2B],λx hx=>by cases hx⟩
 |x::r,m,n,i,h=>by
  unfold Z2B at h ⊢;split at h
  ·rename_i hc;rw[if_pos hc];have h1:=Z3f r m (n+szHe x (m-n));have h2:=ZbN x (m-n);obtain⟨g,c⟩:=Z6i r m (n+szHe x (m-n)) (by omega) h;have d:=Qh x.a (m-n-1) 0;have f:=ZQ x.c (m-n) 0;have e:szHe x (m-n)=(1+Tm.szL x.a (m-n-1) 0)+ZW x.c (m-n) 0:=rfl;refine⟨by rw[List.length_cons];omega,λy b=>?_⟩;rcases List.mem_cons.1 b with rfl|b
   ·exact⟨Z8h (m:=m-n-1) (by omega) (by omega),Z5N (m:=m-n) (by omega) (by omega)⟩
   ·exact c y b
  ·omega
theorem Z6j: ∀ (l:List El) (m n:Int),0<=n->Z2C l m n<=m->n+l.length<=Z2C l m n/\ ∀ x∈l,fewT m x.t/\fewC m x.c
 |[],m,n,_,h=>⟨by simp[Z2C],λx hx=>by cases hx⟩
 |x::r,m,n,i,h=>by
  unfold Z2C at h ⊢;split at h
  ·rename_i hc;rw[if_pos hc];have h1:=Z27 r m (n+szEl x (m-n));have h2:=ZbO x (m-n);obtain⟨g,c⟩:=Z6j r m (n+szEl x (m-n)) (by omega) h;have d:=Qh x.t (m-n) 0;have f:=ZQ x.c (m-n) 0;have e:szEl x (m-n)=1+Tm.szL x.t (m-n) 0+ZW x.c (m-n) 0:=rfl;refine⟨by rw[List.length_cons];omega,λy b=>?_⟩;rcases List.mem_cons.1 b with rfl|b
   ·exact⟨Z8h (m:=m-n) (by omega) (by omega),Z5N (m:=m-n) (by omega) (by omega)⟩
   ·exact c y b
  ·omega
def fewB (N:Int) (x:Bo):Prop:=fewC N [x.l]/\fewC N x.c/\(x.b.vs.length:Int)<=N/\(x.e.length:Int)<=N/\ ∀ y∈x.e,fewT N y.t/\fewC N y.c
theorem Z6l: ∀ (l:List Bo) (m n:Int),0<=n->Z1N l m n<=m->n+l.length<=Z1N l m n/\ ∀ x∈l,fewB m x
 |[],m,n,_,h=>⟨by simp[Z1N],λx hx=>by cases hx⟩
 |x::r,m,n,p,h=>by
  unfold Z1N at h ⊢;split at h
  ·rename_i hc;rw[if_pos hc];have h1:=Z28 r m (Z2C x.e m (n+szBo x (m-n)));have h2:=Z7x x (m-n);have h0:=Z27 x.e m (n+szBo x (m-n));obtain⟨k,c⟩:=Z6l r m _ (by omega) h;obtain⟨o,d⟩:=Z6j x.e m (n+szBo x (m-n)) (by omega) (by omega);have f:=ZQ [x.l] (m-n) 0;have g:=ZQ x.c (m-n) 0;have i:=Qg x.b (m-n);have e:szBo x (m-n)=1+ZW [x.l] (m-n) 0+ZW x.c (m-n) 0+x.b.sz (m-n):=rfl;have j:=Z0X x.b (m-n) (by omega);refine⟨by rw[List.length_cons];omega,λy b=>?_⟩;rcases List.mem_cons.1 b with rfl|b
   ·exact⟨Z5N (m:=m-n) (by omega) (by omega),Z5N (m:=m-n) (by omega) (by omega),by omega,by omega,d⟩
   ·exact c y b
  ·omega
structure fewR (N:Int) (r:Ru):Prop where
 t4:(r.lo.vs.length:Int)<=N/\(r.up.vs.length:Int)<=N/\(r.w.vs.length:Int)<=N/\(r.lv.vs.length:Int)<=N
 tt:fewT N r.t
 hl:(r.h.length:Int)<=N
 h: ∀ x∈r.h,fewT N x.a/\fewC N x.c
 bl:(r.b.length:Int)<=N
 b: ∀ x∈r.b,fewB N x
theorem Z90 {r:Ru} {m:Int} (h:szRu r m<=m):fewR m r:=by
 have k:=Z28 r.b m (Z2B r.h m (szR0 r m));have l:=Z3f r.h m (szR0 r m);have e:szR0 r m=1+r.lo.sz m+r.up.sz m+r.w.sz m+r.lv.sz m+Tm.szL r.t m 0:=rfl;unfold szRu at h;have c:=Qg r.lo m;have d:=Qg r.up m;have f:=Qg r.w m;have g:=Qg r.lv m;have i:=Qh r.t m 0;obtain⟨j,b⟩:=Z6l r.b m (Z2B r.h m (szR0 r m)) (by omega) h;obtain⟨c1,c2⟩:=Z6i r.h m (szR0 r m) (by omega) (by omega);have d1:=Z0X r.lo m (by omega);have d2:=Z0X r.up m (by omega);have d3:=Z0X r.w m (by omega);have d4:=Z0X r.lv m (by omega);exact⟨⟨by omega,by omega,by omega,by omega⟩,Z8h (m:=m) (by omega) (Int.le_refl _),by omega,c2,by omega,b⟩
end Go.Sx
/- RULES ARE READ;the sizes' Z0i. -/
namespace Go.Sx
open Go.RowKit Go.Deep Go.ChangeShapes Go.WideShapes
theorem Z25: ∀ (l:List Lt) (m n:Int),0<=n->0<=m->n<=4*m+100->ZW l m n<=4*m+100
 |[],m,n,_,_,h=>by simpa [ZW] using h
 |x::r,m,n,h0,hm,h=>by
  unfold ZW;split
  ·rename_i hc;have h1:=Z5i x (m-n);have b:=Z26 x.a (m-n-1) 0 (by omega);have c:=Z3w x.l (m-n) (by omega);have d:=Z3w x.r (m-n) (by omega);have e:szLt x (m-n)=1+(1+Tm.szL x.a (m-n-1) 0)+x.l.sz (m-n)+x.r.sz (m-n):=rfl;exact Z25 r m _ (by omega) hm (by omega)
  ·exact h
structure El.wf (B:Nat) (x:El):Prop where
 tl:x.t.length<=B
 t:Tm.wfL B x.t
 cl:x.c.length<=B
 c: ∀ y∈x.c,y.wf B
structure He.wf (B:Nat) (x:He):Prop where
 al:x.a.length<=B
 a:Tm.wfL B x.a
 cl:x.c.length<=B
 c: ∀ y∈x.c,y.wf B
structure Bo.wf (B:Nat) (x:Bo):Prop where
 l:x.l.wf B
 cl:x.c.length<=B
 c: ∀ y∈x.c,y.wf B
 el:x.e.length<=B
 e: ∀ y∈x.e,y.wf B
 b:x.b.wf B
structure Ru.wf (B:Nat) (x:Ru):Prop where
 lo:x.lo.wf B
 up:x.up.wf B
 w:x.w.wf B
 lv:x.lv.wf B
 tl:x.t.length<=B
 t:Tm.wfL B x.t
 hl:x.h.length<=B
 h: ∀ y∈x.h,y.wf B
 bl:x.b.length<=B
 b: ∀ y∈x.b,y.wf B
def elSh:List ShT:=[.tms,.slice Z7X]
def heSh:List ShT:=[.str,.tms,.slice Z7X]
def boSh:List ShT:=.int .u8::(Z7X++(.slice Z7X:: .bool:: .int .u8:: .slice elSh:: .int .u8::tmSh))
def ruSh:List ShT:=.int .u8:: .slice heSh::(tmSh++(tmSh++(.slice boSh::(tmSh++(tmSh++[.tms])))))
theorem Z5C {α:Type} {B:Nat} {sh:List ShT} {W:α->Prop} {c:α->List D} (h: ∀ {ds},ShT.fits B sh ds-> ∃ x,W x/\ds=c x): ∀ {es:List (List D)},(∀ e∈es,ShT.fits B sh e)-> ∃ l:List α,es=l.map c/\ ∀ x∈l,W x
 |[],_=>⟨[],rfl,λ_ h=>by cases h⟩
 |e::r,d=>by
  obtain⟨x,hx,rfl⟩:=h (d e (List.mem_cons_self ..));obtain⟨l,rfl,hl⟩:=Z5C h (es:=r) λy b=>d y (List.mem_cons_of_mem _ b);refine⟨x::l,rfl,λy b=>?_⟩;rcases List.mem_cons.1 b with rfl|b
  ·exact hx
  ·exact hl y b
theorem Zlx {B:Nat} {ds:List D} (h:ShT.fits B elSh ds): ∃ x:El,x.wf B/\ds=x.cs:=by
 simp only[elSh,ShT.fits,ShT.fit] at h;obtain⟨_,_,rfl,⟨t,rfl,d,b⟩,_,_,rfl,⟨es,rfl,hl,c⟩,rfl⟩:=h;obtain⟨l,rfl,e⟩:=Z5B c;rw[Z0I] at hl;exact⟨⟨t,l⟩,⟨d,b,hl,e⟩,rfl⟩
theorem Zl8 {B:Nat} {ds:List D} (h:ShT.fits B heSh ds): ∃ x:He,x.wf B/\ds=x.cs:=by
 simp only[heSh,ShT.fits,ShT.fit] at h;obtain⟨_,_,rfl,⟨p,rfl,_⟩,_,_,rfl,⟨t,rfl,d,b⟩,_,_,rfl,⟨es,rfl,hl,c⟩,rfl⟩:=h;obtain⟨l,rfl,e⟩:=Z5B c;rw[Z0I] at hl;exact⟨⟨p,t,l⟩,⟨d,b,hl,e⟩,rfl⟩
theorem Qj {B:Nat} {s:ShT} {r:List ShT} {ds:List D} (h:ShT.fits B (s::r) ds): ∃ d t,ds=d::t/\ShT.fit B s d/\ShT.fits B r t:=by
 rw[ShT.fits] at h;exact h
theorem Z8v {B:Nat} {ds:List D} (h0:ShT.fits B boSh ds): ∃ x:Bo,x.wf B/\ds=x.cs:=by
 obtain⟨z,t1,rfl,hk,j⟩:=Qj h0;obtain⟨d1,t2,rfl,h1,m⟩:=Z0a j;obtain⟨A,t3,rfl,hc,o⟩:=Qj m;obtain⟨C,t4,rfl,h,s⟩:=Qj o;obtain⟨E,t5,rfl,hf,t⟩:=Qj s;obtain⟨G,t6,rfl,i,u⟩:=Qj t;obtain⟨I,t7,rfl,d,v⟩:=Qj u;simp only[ShT.fit] at hk hc h hf i d;obtain⟨l,r,rfl⟩:=ZhL h1;obtain⟨b,y,rfl⟩:=Z7u v;obtain⟨k,rfl,hk⟩:=hk;obtain⟨es,rfl,hl,hc⟩:=hc;obtain⟨no,rfl⟩:=h;obtain⟨f,rfl,hf⟩:=hf;obtain⟨ls,rfl,g,i⟩:=i;obtain⟨op,rfl,d⟩:=d;obtain⟨c,rfl,p⟩:=Z5B hc;obtain⟨e,rfl,q⟩:=Z5C Zlx i;rw[Z0I] at hl;rw[List.length_map] at g;have j:=Z68 hk;have m:=Z68 hf;have o:=Z68 d;refine⟨⟨k.toNat,l,c,no,f.toNat,e,op.toNat,b⟩,⟨r,hl,p,g,q,y⟩,?_⟩;simp only[Bo.cs];rw[Int.toNat_of_nonneg j.1,Int.toNat_of_nonneg m.1,Int.toNat_of_nonneg o.1];rfl
theorem ZjQ {B:Nat} {ds:List D} (h0:ShT.fits B ruSh ds): ∃ x:Ru,x.wf B/\ds=x.cs:=by
 obtain⟨G,t1,rfl,hk,f⟩:=Qj h0;obtain⟨I,t2,rfl,hh,m⟩:=Qj f;obtain⟨d1,t3,rfl,h1,o⟩:=Z0a m;obtain⟨d2,t4,rfl,h2,p⟩:=Z0a o;obtain⟨J,t5,rfl,d,q⟩:=Qj p;obtain⟨d3,t6,rfl,u,r⟩:=Z0a q;obtain⟨d4,t7,rfl,v,s⟩:=Z0a r;obtain⟨K,t8,rfl,e,j⟩:=Qj s;rw[ShT.fits] at j;simp only[ShT.fit] at hk hh d e;subst j;obtain⟨k,rfl,hk⟩:=hk;obtain⟨y,rfl,c,hh⟩:=hh;obtain⟨l,rfl,b,d⟩:=d;obtain⟨t,rfl,e,i⟩:=e;obtain⟨lo,z,rfl⟩:=Z7u h1;obtain⟨up,A,rfl⟩:=Z7u h2;obtain⟨w,C,rfl⟩:=Z7u u;obtain⟨lv,E,rfl⟩:=Z7u v;obtain⟨hs,rfl,h⟩:=Z5C Zl8 hh;obtain⟨bs,rfl,g⟩:=Z5C Z8v d;rw[List.length_map] at c b;have f:=Z68 hk;refine⟨⟨k.toNat,hs,lo,up,bs,w,lv,t⟩,⟨z,A,C,E,e,i,c,h,b,g⟩,?_⟩;simp only[Ru.cs];rw[Int.toNat_of_nonneg f.1];rfl
variable {P:Program}
section
variable [Globs] [Codes]
end
end Go.Sx
/- RULES,PLAIN: all names of a rule;how many unsafe ones there are,how long they are. -/
namespace Go.Sx
theorem Z20 {s:Nm}: ∀ {l:List Tm},s∈Tm.vsL l ↔ ∃ c∈l,s∈c.vs
 |[]=>by simp[Tm.vsL]
 |a::r=>by
  rw[Tm.vsL,List.mem_append,Z20 (l:=r)];constructor
  ·rintro (h|⟨c,hc,h⟩)
   ·exact⟨a,List.mem_cons_self ..,h⟩
   ·exact⟨c,List.mem_cons_of_mem _ hc,h⟩
  ·rintro⟨c,hc,h⟩;rcases List.mem_cons.1 hc with rfl|hc
   ·exact .inl h
   ·exact .inr ⟨c,hc,h⟩
theorem QA {l:List Tm} {x:Nm} (h:x∈Zj l):x∈Tm.vsL l:=by
 obtain⟨t,b,hx⟩:=List.mem_flatMap.1 h;exact Z20.2 ⟨t,b,ZH.1 hx⟩
mutual
theorem ZtL {B:Nat}: ∀ (t:Tm),t.wf B-> ∀ x∈t.vs,x.length<=B
 |.mk k n s l,h,x,hx=>by
  simp only[Tm.wf] at h;obtain⟨_,_,_,hs,_,b⟩:=h;rw[Tm.vs,List.mem_append] at hx;rcases hx with hx|hx
  ·simp only[Tm.v1] at hx;split at hx
   ·rw[List.mem_singleton] at hx;exact hx ▸ hs
   ·cases hx
  ·exact Zbx l b x hx
theorem Zbx {B:Nat}: ∀ (l:List Tm),Tm.wfL B l-> ∀ x∈Tm.vsL l,x.length<=B
 |[],_,x,hx=>by cases hx
 |a::r,h,x,hx=>by
  simp only[Tm.wfL] at h;rw[Tm.vsL,List.mem_append] at hx;rcases hx with hx|hx
  ·exact ZtL a h.1 x hx
  ·exact Zbx r h.2 x hx
end
def elT (y:El):List Tm:=y.t++Zb y.c
def heT (y:He):List Tm:=y.a++Zb y.c
def boT (b:Bo):List Tm:=Zb [b.l]++(Zb b.c++(b.b::b.e.flatMap elT))
def allT (r:Ru):List Tm:=[r.lo,r.up,r.w,r.lv]++(r.t++(r.h.flatMap heT++r.b.flatMap boT))
theorem Z8z {g:List Nm} {c:List Lt} {names:List Nm} {x:Nm} {l:List Tm} (h:badE g c names x) (h1: ∀ y∈names,y∈Tm.vsL l) (h2: ∀ t∈Zb c,t∈l):x∈Tm.vsL l:=by
 rcases h.2 with h|h
 ·exact h1 x h
 ·obtain⟨t,b,hx⟩:=Z20.1 (QA h);exact Z20.2 ⟨t,h2 t b,hx⟩
theorem Z0C {l m:List Tm} (h: ∀ t∈l,t∈m) {x:Nm} (hx:x∈Tm.vsL l):x∈Tm.vsL m:=by
 obtain⟨t,b,hx⟩:=Z20.1 hx;exact Z20.2 ⟨t,h t b,hx⟩
theorem Z54 {r:Ru} {b:Bo} (c:b∈r.b): ∀ t∈boT b,t∈allT r:=by grind [Ru,Bo,boT,allT]
theorem Z9N {r:Ru} {b:He} (c:b∈r.h): ∀ t∈heT b,t∈allT r:=by grind [Ru,He,heT,allT]
theorem ZhV {b:Bo} {e:El} (c:e∈b.e): ∀ t∈elT e,t∈boT b:=by grind [Bo,El,elT,boT]
theorem Z3W {r:Ru} {x:Nm} (h:x∈Zq r):x∈Tm.vsL (allT r):=by
 rcases Z1W.1 h with h|h|⟨_,y,e,h⟩|⟨b,d,h⟩
 ·exact Z0C (λt c=>List.mem_append_left _ c) (QA h)
 ·exact Z0C (λt c=>List.mem_append_right _ (List.mem_append_left _ c)) (QA h)
 ·rcases h with h|h
  ·exact Z0C (λt c=>Z9N e t (List.mem_append_left _ c)) (QA h)
  ·exact Z0C (λt c=>Z9N e t (List.mem_append_right _ c)) (QA h)
 ·rcases h with⟨_,h⟩|⟨_,h⟩
  ·exact Z0C (λt c=>Z54 d t (List.mem_append_left _ c)) (QA h)
  ·exact Z0C (λt c=>Z54 d t (by rw[List.mem_singleton] at c;subst c;exact List.mem_append_right _ (List.mem_append_right _ (List.mem_cons_self ..)))) (QA h)
theorem ZbC {r:Ru} {x:Nm} (h:x∈ZV r):x∈Tm.vsL (allT r):=by
 rcases Z3t.1 h with (⟨b,f,h⟩|⟨_,y,d,h⟩)|⟨h,_⟩
 ·rcases h with⟨_,h⟩|⟨_,e,g,h⟩
  ·exact Z8z h (λy d=>Z0C (λt c=>Z54 f t (List.mem_append_left _ c)) (QA d)) λt c=>Z54 f t (List.mem_append_right _ (List.mem_append_left _ c))
  ·exact Z8z h (λy d=>Z0C (λt c=>Z54 f t (ZhV g t (List.mem_append_left _ c))) (QA d)) λt c=>Z54 f t (ZhV g t (List.mem_append_right _ c))
 ·exact Z8z h (λz i=>Z0C (λt c=>Z9N d t (List.mem_append_left _ c)) (QA i)) λt c=>Z9N d t (List.mem_append_right _ c)
 ·exact Z3W h
theorem Z1k {B:Nat} {l:List Lt} (h: ∀ x∈l,x.wf B): ∀ t∈Zb l,t.wf B:=λt b=>by
 obtain⟨x,hx,b⟩:=List.mem_flatMap.1 b;obtain⟨_,_,_,w,_,c,d⟩:=h x hx;rcases List.mem_append.1 b with b|b
 ·exact Qe.1 w t b
 ·grind
theorem ZlZ {B:Nat} {r:Ru} (h:r.wf B): ∀ t∈allT r,t.wf B:=λt b=>by
 rcases List.mem_append.1 b with b|b
 ·simp only[List.mem_cons,List.not_mem_nil,or_false] at b;rcases b with rfl|rfl|rfl|rfl
  ·exact h.lo
  ·exact h.up
  ·exact h.w
  ·exact h.lv
 ·rcases List.mem_append.1 b with b|b
  ·exact Qe.1 h.t t b
  ·rcases List.mem_append.1 b with b|b
   ·obtain⟨y,d,b⟩:=List.mem_flatMap.1 b;have c:=h.h y d;rcases List.mem_append.1 b with b|b
    ·exact Qe.1 c.a t b
    ·exact Z1k c.c t b
   ·obtain⟨y,d,b⟩:=List.mem_flatMap.1 b;have c:=h.b y d;rcases List.mem_append.1 b with b|b
    ·exact Z1k (λx hx=>by rw[List.mem_singleton] at hx;exact hx ▸ c.l) t b
    ·rcases List.mem_append.1 b with b|b
     ·exact Z1k c.c t b
     ·rcases List.mem_cons.1 b with rfl|b
      ·exact c.b
      ·obtain⟨e,f,b⟩:=List.mem_flatMap.1 b;have c:=c.e e f;rcases List.mem_append.1 b with b|b
       ·exact Qe.1 c.t t b
       ·exact Z1k c.c t b
end Go.Sx
/- RULES,PLAIN: another order of the body,of the heads,of the conditions. -/
namespace Go.Sx
def revE (e:El):El:={e with c:=e.c.reverse}
def revB (b:Bo):Bo:={b with c:=b.c.reverse,e:=b.e.reverse.map revE}
def revH (h:He):He:={h with c:=h.c.reverse}
def rotB (l:List Bo) (k:Nat):List Bo:=l.drop k++l.take k
def Ru.turn (r:Ru) (k:Nat):Ru:={r with b:=(rotB r.b k).map revB,h:=r.h.reverse.map revH}
theorem ZcZ {l:List Bo} {x:Lt}:x∈Z0x l ↔ ∃ b∈l,b.k=1/\b.l=x:=by grind [Z0x]
end Go.Sx
/- A row of our own that a function hands back is plain data. -/
namespace Go.Sx
open Go.RowKit
variable [Globs] [Codes]
variable {P:Program}
theorem FnOK.freezeG {f:FuncId} {args:List D} {sz:Nat} {e:TypeId} {es:List (List D)} (h:FnOK P f args (.own sz e es)):FnOK P f args (.slice es []):=by
 intro φ hh w vs h1 h2 l m p;refine (h φ hh w vs h1 h2 l m p).mono ?_;rintro s w' ⟨v,φ',rfl,q,rest⟩;refine⟨v,φ',rfl,?_,rest⟩;intro h';have b:ObR (w.heap.size<= ·) φ' noH w' v (.arr true sz e es):=q;have d:ObR (w.heap.size<= ·) φ' (λ_=>v) w' v (.arr true sz e es):=b;have hl:live v=true:=by
  obtain⟨_,_,xs,c,_⟩:=b;rcases c.2 with⟨rfl,_⟩|⟨g,cap,cur,rfl,_⟩
  ·rfl
  ·rfl
 have r0:RV φ' (λ_=>v) v (.vec 0):=RV.vec (φ:=φ') (h:=λ_=>v) 0 hl;have j:=Z4a (obs:=lk [(0,Ob.arr true sz e es)]) (h:=λ_=>v) (w:=w') (own:=(w.heap.size<= ·)) (λi o hi _=>by
  simp only[lk] at hi;split at hi
  ·cases hi;exact d
  ·cases hi) r0
 have k:dvt (lk [(0,Ob.arr true sz e es)]) (.vec 0)=.slice es []:=rfl;rw[k] at j;cases j with
 |pure r=>exact .pure r
end Go.Sx
/- A PANIC IN A ROUND OF A RANGE OVER A FUNCTION. Where the body panics,no waiting call lies on the round's frame: so it catches nothing. -/
namespace Go.Sx
open Go.RowKit
variable [Globs] [Codes]
def ZcO:List Item->Bool
 |.call .. :: _=>false
 |_=>true
theorem Z3M {P:Program} {fr:Frame} (h:ZcO fr.todo=true):fr.catches P=false:=by
 unfold Frame.catches;split
 ·rename_i h1 h2;rw[h2] at h;cases h
 ·rfl
def ArrivesP (I:Machine->Prop) (P:Program) (m:Machine) (b:Frame) (k:List Item) (cs:List Frame):Exit->Act->World->Prop
 |.panic chain,a,w=>∃ c,ZcO c=true/\StepsIn I P m (lone {b.atR a c with mode:=.panicking chain} cs w)
 |e,a,w=>ArrivesIn I P m b k cs e a w
theorem ArrivesP.of_steps {I:Machine->Prop} {P:Program} {m m₁:Machine} {b:Frame} {k:List Item} {cs:List Frame} {e:Exit} {a:Act} {w:World}
  (h:StepsIn I P m m₁) (h':ArrivesP I P m₁ b k cs e a w):ArrivesP I P m b k cs e a w:=by
 cases e with
 |panic chain=>obtain⟨c,d,hs⟩:=h';exact⟨c,d,h.trans hs⟩
 |normal=>exact ArrivesIn.of_steps (e:=.normal) h h'
 |exit id=>exact ArrivesIn.of_steps (e:=.exit id) h h'
 |goto l=>exact ArrivesIn.of_steps (e:=.goto l) h h'
 |ret=>exact ArrivesIn.of_steps (k:=k) (e:=.ret) h h'
 |outgrown=>exact ArrivesIn.of_steps (I:=I) (P:=P) (m:=m) (m₁:=m₁) (b:=b) (k:=k) (cs:=cs) (e:=.outgrown) (a:=a) (w:=w) h h'
theorem ArrivesP.pass {I:Machine->Prop} {P:Program} {m:Machine} {b:Frame} {x:Item} {k:List Item} {cs:List Frame} {e:Exit} {a:Act} {w:World}
  (hx:x.plain=true) (c:e≠ .normal) (h:ArrivesP I P m b (x::k) cs e a w):ArrivesP I P m b k cs e a w:=by
 cases e with
 |panic chain=>exact h
 |normal=>exact absurd rfl c
 |exit id=>exact ArrivesIn.pass (e:=.exit id) hx (λ_ _=>.inl (by simp)) h
 |goto l=>exact ArrivesIn.pass (e:=.goto l) hx (λ_ _=>.inl (by simp)) h
 |ret=>exact ArrivesIn.pass (k:=k) (e:=.ret) hx (λ_ _=>.inl (by simp)) h
 |outgrown=>exact h
def wpP (F:Fence) (n:Nat) (P:Program) (c:Code) (Q:Exit->Act->World->Prop) (a:Act) (w:World):Prop :=
 ∀ (b:Frame) (k:List Item) (cs:List Frame),b.roundOf=F.round->F.fn b.fn->F.room (cs.length+1+n) →
  ∃ e d w',Q e d w'/\ArrivesP (Machine.fenced P F) P (lone (b.atR a (.code c::k)) cs w) b k cs e d w'
section
variable {P:Program} {F:Fence} {n:Nat} {Q:Exit->Act->World->Prop} {a:Act} {w:World}
theorem ZnX {c:Code} {Q':Exit->Act->World->Prop} (h:c.wpIn F n P Q a w) (j: ∀ e a w,Q e a w->(∀ d,e≠ .panic d)/\Q' e a w):wpP F n P c Q' a w :=
 λb k cs f i hr=>by
  obtain⟨e,g,w',q,r⟩:=h b k cs f i hr;obtain⟨hp,m⟩:=j e g w' q;refine⟨e,g,w',m,?_⟩;cases e with
  |panic d=>exact absurd rfl (hp d)
  |normal=>exact r
  |exit id=>exact r
  |goto l=>exact r
  |ret=>exact r
  |outgrown=>exact r
theorem Z1j {c:Code} {Q':Exit->Act->World->Prop} (h:wpP F n P c Q a w) (i: ∀ e a w,Q e a w->Q' e a w):wpP F n P c Q' a w :=
 λb k cs d g hr=>let ⟨e,f,w',q,r⟩:=h b k cs d g hr;⟨e,f,w',i _ _ _ q,r⟩
theorem Zbu {x y:Code} (h:wpP F n P x (Exit.then (wpP F n P y Q) Q) a w):wpP F n P (Code.seq x y) Q a w:=by
 intro b k cs p r hr;have h0:(lone (b.atR a (.code (.seq x y)::k)) cs w).fenced P F:=fenced_calm r hr rfl;obtain⟨e,d,f,j,c⟩:=h b (.code y::k) cs p r hr;cases e with
 |normal =>
  obtain⟨o,m,q,i,g⟩:=j b k cs p r hr;exact⟨o,m,q,i,.of_steps (.head h0 stepR_seq c) g⟩
 |exit id=>exact⟨_,d,f,j,.of_steps (.one h0 stepR_seq) (.pass (x:=.code y) rfl (by simp) c)⟩
 |goto l=>exact⟨_,d,f,j,.of_steps (.one h0 stepR_seq) (.pass (x:=.code y) rfl (by simp) c)⟩
 |ret=>exact⟨_,d,f,j,.of_steps (.one h0 stepR_seq) (.pass (x:=.code y) rfl (by simp) c)⟩
 |panic s=>exact⟨_,d,f,j,.of_steps (.one h0 stepR_seq) (.pass (x:=.code y) rfl (by simp) c)⟩
 |outgrown=>exact⟨_,d,f,j,.of_steps (.one h0 stepR_seq) (.pass (x:=.code y) rfl (by simp) c)⟩
theorem Zfe {c:Operand} {x y:Code} {t:Bool} (hc:a.eval c=.bool t) (h:wpP F n P (if t then x else y) Q a w):wpP F n P (Code.cond c x y) Q a w :=
 λb k cs d f hr=>let ⟨e,g,w',q,r⟩:=h b k cs d f hr;⟨e,g,w',q,.of_steps (.one (fenced_calm f hr rfl) (stepR_cond hc)) r⟩
theorem Zbv {id:Nat} {c:Code} (h:wpP F n P c (Exit.inBlock id Q) a w):wpP F n P (Code.block id c) Q a w:=by
 intro b k cs q p hr;have h0:(lone (b.atR a (.code (.block id c)::k)) cs w).fenced P F:=fenced_calm p hr rfl;obtain⟨e,f,g,m,d⟩:=h b (.inBlock id::k) cs q p hr;cases e with
 |normal=>exact⟨.normal,f,g,m,.head h0 stepR_block (StepsIn.trans d (.one (fenced_calm p hr rfl) stepR_inBlock))⟩
 |exit i =>
  by_cases hid:i=id
  ·simp only[Exit.inBlock,hid,if_true] at m;exact⟨.normal,f,g,m,.head h0 stepR_block (d.1 k (by simp[exitTo,hid]))⟩
  ·simp only[Exit.inBlock,hid,if_false] at m;have this:(id == i)=false:=by simp;exactλh=>hid h.symm
   have hx:exitTo i (.inBlock id::k)=exitTo i k:=by simp[exitTo,this]
   exact⟨.exit i,f,g,m,λr hk=>.head h0 stepR_block (d.1 r (by rw[hx];exact hk)),
    λo hk=>let ⟨j,h1,h2⟩:=d.2 o (by rw[hx];exact hk);⟨j,h1,.head h0 stepR_block h2⟩⟩
 |goto l =>
  have hx:gotoIn l (.inBlock id::k)=gotoIn l k:=by simp[gotoIn]
  exact⟨_,f,g,m,λr hk=>.head h0 stepR_block (d.1 r (by rw[hx];exact hk)),
   λo hk=>let ⟨j,h1,h2⟩:=d.2 o (by rw[hx];exact hk);⟨j,h1,.head h0 stepR_block h2⟩⟩
 |ret=>exact⟨_,f,g,m,.of_steps (.one h0 stepR_block) d⟩
 |panic s=>exact⟨_,f,g,m,.of_steps (.one h0 stepR_block) d⟩
 |outgrown=>exact⟨_,f,g,m,.of_steps (.one h0 stepR_block) d⟩
def Zvw (P:Program) (F:Fence) (Q:Exit->Act->World->Prop) (next:Act->World->Prop) (M:Machine) (ops:Array Oper) (i:Nat) (rest:List Nat) (a:Act) (b:Frame) (k:List Item) (cs:List Frame):Prop :=
 (∃ c w',next c w'/\StepsIn (Machine.fenced P F) P M (lone (b.atR c (.inRegion ops rest::k)) cs w')) ∨
 (∃ d w',Q (.panic d) a w'/\StepsIn (Machine.fenced P F) P M (lone {b.atR a (.inRegion ops (i::rest)::k) with mode:=.panicking d} cs w')) ∨
 (LetsOut Q/\Outgrown P M)
theorem Zq3 {ops:Array Oper} {i:Nat} {rest:List Nat} {o:Oper} {next:Act->World->Prop} (x:ops[i]? = some o) (E:Region.wanted o (yielded ops a.tmps)=true) (h:o.wpIn F n P a w next Q)
  {b:Frame} {k:List Item} {cs:List Frame} (A:b.roundOf=F.round) (D:F.fn b.fn) (hr:F.room (cs.length+1+n)):Zvw P F Q next (lone (b.atR a (.inRegion ops (i::rest)::k)) cs w) ops i rest a b k cs:=by
 have t:=fenced_oper (P:=P) (rest:=rest) (k:=k) D hr x h.1;have g:=h.2;have z:=stepGR_op (P:=P) (b:=b) (k:=k) (cs:=cs) (w:=w) (rest:=rest) x E;rw[A] at z;have put: ∀ v,(b.atR a (.inRegion ops (i::rest)::k)).finish v=b.atR (a.put o.dst v) (.inRegion ops rest::k):=λv=>by rw[Frame.finish_atR,x];rfl
 -- at B
 have s: ∀ {fr:Frame} {w':World},(stepG.apply P true (b.atR a (.inRegion ops (i::rest)::k)) cs none (o.semAt F.round a.eval) w).bare=.go {frame:=fr,callers:=cs,status:=.running,dying:=none} w' →
   StepsIn (Machine.fenced P F) P (lone (b.atR a (.inRegion ops (i::rest)::k)) cs w) (lone fr cs w'):=λe=>.one t (step_lone_go (by rw[z];exact e))
 -- by a frame of G own
 have j: ∀ {fr:Frame} {w':World},(stepG.apply P true (b.atR a (.inRegion ops (i::rest)::k)) cs none (o.semAt F.round a.eval) w).bare=.go {frame:=fr,callers:=b.atR a (.inRegion ops (i::rest)::k)::cs,status:=.running,dying:=none} w' →
   step P (lone (b.atR a (.inRegion ops (i::rest)::k)) cs w)=.next (lone fr (b.atR a (.inRegion ops (i::rest)::k)::cs) w'):=λe=>step_lone_go (by rw[z];exact e)
 unfold Oper.uponIn at g;split at g
 case _ v w' e=>exact .inl ⟨_,_,g,s (by rw[<- put];simp[stepG.apply,e])⟩
 case _ w' e=>exact .inl ⟨_,_,g,s (by rw[<- put];simp[stepG.apply,e])⟩
 case _ d w' e =>
  refine .inl ⟨_,_,g,s ?_⟩;have hf:=Frame.finish_atR b {a with defers:=d::a.defers} ops i rest k undef;rw[x] at hf;simp only[stepG.apply,Sem.runT_eq,e,GStep.bare_after];exact congrArg (λfr=>GStep.go {frame:=fr,callers:=cs,status:=.running,dying:=none} w') hf
 case _ f args w' e =>
  have s1:=j (fr:=Frame.enter P f args .normal) (w':=w') (by simp[stepG.apply,e,Frame.atR]);obtain⟨m,C,fr,q,hs,u,r⟩:=g.2.2 (b.atR a (.inRegion ops (i::rest)::k)::cs) (Fence.room_enter hr g.1);have p:=Fence.room_enter (c:=cs.length) hr g.1;cases m with
  |outgrown=>exact .inr (.inr ⟨q,Outgrown.of_steps (.one s1) hs⟩)
  |returned v=>exact .inl ⟨_,_,q,.head t s1 (StepsIn.trans hs (.one (fenced_leaving (u ▸ g.2.1) p r) (by rw[<- put];exact step_leave_returned r)))⟩
  |panicked y=>exact .inr (.inl ⟨y,_,q,.head t s1 (StepsIn.trans hs (.one (fenced_leaving (u ▸ g.2.1) p r) (by rw[<- Frame.raise_atR];exact step_leave_panicked r)))⟩)
 case _ row args w' e =>
  have s1:=j (fr:=Frame.ofRow P row args .normal) (w':=w') (by simp[stepG.apply,e,Frame.atR]);obtain⟨v,C,q,hs⟩:=g.2 (b.atR a (.inRegion ops (i::rest)::k)) cs (Fence.room_enter hr g.1);exact .inl ⟨_,_,q,.head t s1 (by rw[<- put];exact hs)⟩
 case _ l f tmps asg body w' e =>
  have s1:=j (fr:=Frame.round l f tmps asg body .normal) (w':=w') (by simp[stepG.apply,e,Frame.atR]);obtain⟨m,C,q,hs⟩:=g.2.2 (b.atR a (.inRegion ops (i::rest)::k)) cs (Fence.room_enter hr g.1);cases m with
  |outgrown=>exact .inr (.inr ⟨q,Outgrown.of_steps (.one s1) hs⟩)
  |returned v=>exact .inl ⟨_,_,q,.head t s1 (by rw[<- put];exact hs)⟩
  |panicked y=>exact .inr (.inl ⟨y,_,q,.head t s1 (by rw[<- Frame.raise_atR];exact hs)⟩)
 case _ v w' e=>exact .inr (.inl ⟨_,_,g,s (by rw[<- Frame.raise_atR];simp[stepG.apply,e])⟩)
 case _=>exact g.elim
theorem Z5u {ops:Array Oper} {b:Frame} {k:List Item} {cs:List Frame} (j:b.roundOf=F.round) (m:F.fn b.fn) (hr:F.room (cs.length+1+n)): ∀ (l:List Nat) (a:Act) (w:World),wpOpsIn F n P ops Q l a w →
  ∃ e d w',Q e d w'/\ArrivesP (Machine.fenced P F) P (lone (b.atR a (.inRegion ops l::k)) cs w) b k cs e d w'
 |[],a,w,h=>⟨.normal,a,w,h,.one (fenced_calm m hr rfl) stepR_region_end⟩
 |i::rest,a,w,h=>by
  simp only[wpOpsIn] at h;split at h
  ·rename_i f;obtain⟨e,d,w',g,c⟩:=Z5u j m hr rest a w h;have hs:=stepR_op_skip (P:=P) (b:=b) (a:=a) (k:=k) (cs:=cs) (w:=w) (ops:=ops) (i:=i) (rest:=rest) (by simp[f]);simp only[f,Option.bind_none,Act.put] at hs;exact⟨e,d,w',g,.of_steps (.one (fenced_noOper m hr f) hs) c⟩
  ·rename_i o f;split at h
   ·rename_i p;rcases Zq3 (rest:=rest) f p h j m hr with⟨d,w',s,hs⟩|⟨r,w',g,hs⟩|⟨⟨d,w',g⟩,f⟩
    ·obtain⟨e,q,t,g,c⟩:=Z5u j m hr rest d w' s;exact⟨e,q,t,g,.of_steps hs c⟩
    ·exact⟨.panic r,a,w',g,_,rfl,hs⟩
    ·exact⟨.outgrown,d,w',g,.inr f⟩
   ·rename_i p;obtain⟨e,d,w',g,c⟩:=Z5u j m hr rest _ w h.2;have hs:=stepR_op_skip (P:=P) (b:=b) (a:=a) (k:=k) (cs:=cs) (w:=w) (ops:=ops) (i:=i) (rest:=rest) (by simp[f];simpa using p);simp only[f,Option.bind_some] at hs;exact⟨e,d,w',g,.of_steps (.one (fenced_oper m hr f h.1) hs) c⟩
theorem Zaq {id:Nat} {ops:Array Oper} (h:wpListIn F n P ops Q ops.toList a w):wpP F n P (Code.region id ops false) Q a w:=λb k cs c d hr=>by
 have h':wpOpsIn F n P ops Q (List.range ops.size) a w:=by
  rw[List.range_eq_range',<- Array.length_toList,wpOpsIn_eq_wpListIn ops.toList 0 (by simp)];exact h
 obtain⟨e,f,w',q,r⟩:=Z5u c d hr (List.range ops.size) a w h';exact⟨e,f,w',q,.of_steps (.one (fenced_calm d hr rfl) stepR_region) r⟩
end
section
variable {P:Program} {F:Fence} {n:Nat}
def ZpT (P:Program) (l:Nat) (R:Ending->World->Prop):Exit->Act->World->Prop
 |.panic d,a,w=>∃ b c,a.defers=b.map mkd/\takes P b w c/\R (.panicked d) c
 |e,a,w=>roundPost P l R e a w
theorem Z36 {fr c:Frame} {cs:List Frame} {w:World} {b:List PanicEntry} (hm:fr.mode=.panicking b) (d:fr.defers=[]) (hc:fr.catches P=false) :
  step P (lone fr (c::cs) w)=.next (lone (c.raise b) cs w) :=
 step_lone_go (by simp[stepG,unwind,hm,d,hc])
theorem Z6g: ∀ {b c:List Nat} {w d e:World},takes P b w d->takes P c d e->takes P (b++c) w e
 |[],_,_,_,_,h1,h2=>by cases h1;exact h2
 |_::_,_,_,_,_,⟨w',h,h1⟩,h2=>⟨w',h,Z6g h1 h2⟩
theorem Zcr {l:Nat} {f:FuncId} {tmps:Array Value} {asg body:Code} {w:World} {R:Ending->World->Prop} (L:F.fn f)
  (h:asg.wpIn (F.inRound l) n P (Exit.then (λp s=>∃ r,(Instr.beginRound l).run P s=.ok () r/\wpP (F.inRound l) n P body (ZpT P l R) p r) (λ_ _ _=>False)) {tmps:=tmps,defers:=[]} w) :
  RoundIn F n P l f tmps asg body w R:=by
 refine⟨L,λc cs hr=>?_⟩;let b:Frame:={(default:Frame) with fn:=f,kind:=.normal,roundOf:=some l};have E:Frame.round l f tmps asg body .normal=b.atR {tmps:=tmps,defers:=[]} [.code asg,.beginRound,.code body]:=by
  simp[Frame.round,Frame.atR,b]
 have o:(F.inRound l).room ((c::cs).length+1+n):=hr;have m:(F.inRound l).fn b.fn:=L;obtain⟨e,p,s,M,x⟩:=h b [.beginRound,.code body] (c::cs) rfl m o;rw[<- E] at x;cases e<;>try exact M.elim
 obtain⟨r,G,z⟩:=M;have s1:StepsIn (Machine.fenced P (F.inRound l)) P (lone (b.atR p [.beginRound,.code body]) (c::cs) s) (lone (b.atR p [.code body]) (c::cs) r) :=
  .one (fenced_calm (fr:=b.atR p [.beginRound,.code body]) m o rfl) (stepR_beginRound rfl G)
 obtain⟨A,k,C,g,d⟩:=z b [] (c::cs) rfl m o;have B:=StepsIn.trans x s1;cases A with
 |normal =>
  obtain⟨v,j,i,u⟩:=g;exact⟨.returned v,j,u,B.trans (StepsIn.trans d (.one (fenced_calm (fr:=b.atR k []) m o rfl) (stepR_round_end rfl rfl i)))⟩
 |ret =>
  obtain⟨v,j,i,u⟩:=g;obtain⟨q,hs⟩:=d.2 rfl;exact⟨.returned v,j,u,B.trans (hs.trans (.one (fenced_calm (fr:=b.atR k (.code .ret::q)) m o rfl) (stepR_round_ret rfl rfl i)))⟩
 |exit id =>
  obtain⟨v,j,i,u⟩:=g;obtain⟨q,hk,hs⟩:=d.2 rfl rfl;exact⟨.returned v,j,u,B.trans (hs.trans (.one (fenced_calm (fr:=b.atR k (.code (.exit id)::q)) m o rfl) (stepR_round_exit rfl rfl hk i)))⟩
 |goto t =>
  obtain⟨v,j,i,u⟩:=g;obtain⟨q,hk,hs⟩:=d.2 rfl rfl;exact⟨.returned v,j,u,B.trans (hs.trans (.one (fenced_calm (fr:=b.atR k (.code (.goto t)::q)) m o rfl) (stepR_round_goto rfl rfl hk i)))⟩
 |panic D =>
  obtain⟨O,N,I,K,u⟩:=g;obtain⟨y,J,hs⟩:=d;have S:=Z0F (P:=P) (F:=F.inRound l) (n:=n) O C N {b.atR k y with mode:=.panicking D} (c::cs) (by simp) I m o K;refine⟨.panicked D,N,u,B.trans (hs.trans (S.trans (.one ?_ (Z36 rfl rfl (Z3M J)))))⟩;exact fenced_calm (fr:={ {b.atR k y with mode:=.panicking D} with defers:=[]}) m o (by simp[Frame.about])
 |outgrown=>exact g.elim
def isDp:SC->SC->Bool
 |.drw ..,.spec (.pan _)=>true
 |_,_=>false
def jok:SC->Bool
 |.loop ..|.rangeF .. =>false
 |.seq a b=>!isDp a b && (jok a && jok b)
 |.cond _ a b=>jok a && jok b
 |.block _ a=>jok a
 |.spec (.ord ..)=>false
 |_=>true
def npQ (Q:Exit->St->Prop):Exit->St->Prop
 |.panic _,_=>False
 |e,s=>Q e s
theorem ZfX {cx:Cx} {ds:List Deferred} {Q:Exit->St->Prop} {e:Exit} {a:Act} {w:World} (h:PostM cx ds (npQ Q) e a w):(∀ b,e≠ .panic b)/\PostM cx ds Q e a w:=by cases e<;>grind [Cx,St,PostM,npQ]
theorem ZbQ [CodesOf P] (Z3:DrawSound P) (R:Fence.Open F) {hi:Hints} {N bs:Nat} (c:Code): ∀ (sc:SC),Zt P N hi c=some sc->jok sc=true-> ∀ (cx:Cx) (ds:List Deferred),cx.N=N->cx.bs=bs->GlobC cx.φ0 cx.w0 cx.Z->InRound F cx →
  ∀ (Q:Exit->St->Prop) (s:St) (φ:Mem) (h:Nat->Value) (tmps:Array Value) (w:World),
  Mod cx s φ h tmps w->sw P bs sc Q s->wpP F n P c (PostM cx ds Q) ⟨tmps,ds⟩ w:=by
 -- T G panic
 have plain: ∀ {c:Code} {sc:SC},Zt P N hi c=some sc-> ∀ (cx:Cx) (ds:List Deferred),cx.N=N->cx.bs=bs->GlobC cx.φ0 cx.w0 cx.Z->InRound F cx →
   ∀ (Q:Exit->St->Prop) (s:St) (φ:Mem) (h:Nat->Value) (tmps:Array Value) (w:World),Mod cx s φ h tmps w->sw P bs sc (npQ Q) s->wpP F n P c (PostM cx ds Q) ⟨tmps,ds⟩ w :=
  λhc cx ds o f d j Q s φ h tmps w hm hs=>ZnX (Z0e Z3 R _ _ hc cx ds o f d j (npQ Q) s φ h tmps w hm hs) λ_ _ _=>ZfX
 induction c with
 |skip =>
  intro sc hc m cx ds o f d j Q s φ h tmps w hm hs;have l:=hc;cases hc;exact plain l cx ds o f d j Q s φ h tmps w hm hs
 |ret =>
  intro sc hc m cx ds o f d j Q s φ h tmps w hm hs;have l:=hc;cases hc;exact plain l cx ds o f d j Q s φ h tmps w hm hs
 |exit id =>
  intro sc hc m cx ds o f d j Q s φ h tmps w hm hs;have l:=hc;cases hc;exact plain l cx ds o f d j Q s φ h tmps w hm hs
 |region id ops C =>
  intro sc hc m cx ds o f d j Q s φ h tmps w hm hs;have l:=hc;simp only[Zt] at hc;split at hc
  ·rename_i k hk;cases C with
   |true =>
    simp only[if_true] at hc;obtain⟨z,rfl,_,_,⟨p,_,rfl⟩|rfl⟩:=Z1b hc
    ·exact absurd m Bool.false_ne_true
    ·exact absurd m Bool.false_ne_true
   |false =>
    simp only[Bool.false_eq_true,if_false] at hc;cases hc;cases k with
    |pan z =>
     subst o;subst f;obtain⟨bt,fz,E,J⟩:=Z2R hk;exact Zaq (Z2Y (Nat.le_max_left _ _) d R ops.toList z E (ZO J) s φ h tmps w hm hs)
    |ord _ _=>exact absurd m Bool.false_ne_true
    |_=>exact plain l cx ds o f d j Q s φ h tmps w hm hs
  split at hc
  ·rename_i z hl;split at hc
   ·rename_i V;cases C with
    |true =>
     simp only[if_true] at hc;split at hc
     ·cases hc;exact plain l cx ds o f d j Q s φ h tmps w hm hs
     ·cases hc
    |false =>
     simp only[Bool.false_eq_true,if_false] at hc;cases hc;exact plain l cx ds o f d j Q s φ h tmps w hm hs
   ·cases hc
  ·cases hc
 |seq a b A B =>
  intro sc hc m cx ds o f d j Q s φ h tmps w hm hs;simp only[Zt] at hc;split at hc
  ·rename_i O D ha I;split at hc
   ·cases hc;simp only[jok,Bool.and_eq_true] at m;have m:=m.2;refine Zbu (Z1j (A O ha m.1 cx ds o f d j _ s φ h tmps w hm hs) ?_);rintro e ⟨tm,df⟩ w' ⟨v,u,q,s',φ',h',y,r⟩;simp only at q;subst q;cases e<;>first|exact⟨v,u,rfl,s',φ',h',y,r⟩|exact Z1j (B D I m.2 (cx.more v) (v.map mkd++ds) o f d (j.more v) Q s' φ' h' tm w' r y) (λ_ _ _ h=>h.after u)
   ·rename_i ts _;cases hc;simp only[jok,Bool.and_eq_true] at m;have m:=m.2;refine Zbu (Z1j (A O ha m.1 cx ds o f d j _ s φ h tmps w hm hs) ?_);rintro e ⟨tm,df⟩ w' ⟨v,u,q,s',φ',h',y,r⟩;simp only at q;subst q;cases e<;>try exact⟨v,u,rfl,s',φ',h',y,r⟩
    obtain⟨φ2,hk,K⟩:=r.canonM ts;have L:sw P bs D Q (s'.canon bs ts):=y;subst f;exact Z1j (B D I m.2.2.2 (cx.more v) (v.map mkd++ds) o rfl d (j.more v) Q _ φ2 hk tm w' K L) (λ_ _ _ h=>h.after u)
  ·cases hc
 |cond x a b A B =>
  intro sc hc m cx ds o f d j Q s φ h tmps w hm hs;simp only[Zt] at hc;split at hc
  ·rename_i W O D hx ha I;cases hc;simp only[jok,Bool.and_eq_true] at m;simp only[sw] at hs;have hv:=hm.get d (ds:=ds) hx;split at hs
   ·rename_i t M;rw[M] at hv;refine Zfe hv.bool_inv ?_;cases t
    ·grind
    ·grind
   ·exact hs.elim
  ·cases hc
 |block id c S =>
  intro sc hc m cx ds o f d j Q s φ h tmps w hm hs;simp only[Zt] at hc;cases l:Zt P N hi c with
  |none=>rw[l] at hc;cases hc
  |some D =>
   rw[l] at hc;cases hc;refine Zbv (Z1j (S D l m cx ds o f d j _ s φ h tmps w hm hs) ?_);rintro e ⟨tm,df⟩ w' ⟨v,u,q,s',φ',h',y,r⟩;cases e<;>try exact⟨v,u,q,s',φ',h',y,r⟩
   rename_i i;simp only[QB] at y;simp only[Exit.inBlock];split at y
   ·rename_i hi;rw[if_pos hi];exact⟨v,u,q,s',φ',h',y,r⟩
   ·rename_i hi;rw[if_neg hi];exact⟨v,u,q,s',φ',h',y,r⟩
 |loop c S =>
  intro sc hc m;simp only[Zt] at hc;cases l:Zt P N hi c with
  |none=>rw[l] at hc;cases hc
  |some D=>rw[l] at hc;cases hc;cases m
 |rangeFunc g ps ca U A B =>
  intro sc hc m;simp only[Zt] at hc;split at hc
  ·cases hc;cases m
  ·cases hc
 |scope=>intro sc hc;cases hc
 |label=>intro sc hc;cases hc
 |goto=>intro sc hc;cases hc
 |refuse=>intro sc hc;cases hc
end
def YPan (P:Program) (k:Nat) (R:D->Obs->Prop) (d N:Nat) (ps:Array Tmp) (a b:SC) (keys:List Nat) (ds:List D) (c:List PanicEntry) (s:St):Prop :=
 ∃ v,c=[{v,recovered:=false}]/\R (.pan v) ((d,.gen (.loop .busy none ps a b N keys) ds)::(s.canon k []).ob)
section
variable {P:Program} {F:Fence} {n:Nat}
theorem Zc4 (cx:Cx) (b:List Nat) (l:Nat) (o:Obj):Cx.setk (cx.more b) l o=(cx.setk l o).more b:=by unfold Cx.setk Cx.more;grind
theorem CallL.yldJ [CodesOf P] (Z3:DrawSound P) {N:Nat} {ps:Array Tmp} {a b:SC} {keys:List Nat} {ds:List D} {f:Nat} {args:List D} {ob:Obs} {R:D->Obs->Prop} (k:Nat) (hk:Obs.top ob<=k)
  (m:lk ob f=some (.gen (.loop .ready none ps a b N keys) ds)) (hps:ps.size=args.length) (hpN: ∀ t∈ps.toList,t<N) (hj:jok b=true)
  (hsw:sw P k a (λe s=>match e with
   |.normal=>sw P k b (λe s'=>lk s'.ob f=none/\match e with
    |.normal=>YRet P k R f N ps a b keys ds none s'
    |.ret=>YRet P k R f N ps a b keys ds (some .ret) s'
    |.exit i=>YRet P k R f N ps a b keys ds (some (.exit i)) s'
    |.panic c=>YPan P k R f N ps a b keys ds c s'
    |_=>False) s
   |_=>False) ⟨putP (ps.toList.zip args) (keys.zip ds),Z8 f ob⟩) :
  CallL P (.yld f) args ob R:=by
 intro F hF n φ h w v vs hp hv hvs;obtain⟨l,L,rfl⟩: ∃ l,h f=.pointer (some ⟨l,0,none⟩)/\v=.func (.yield l) #[] #[]:=by
  cases hv with
  |pure r=>cases r
  |yld _ l hh=>exact⟨l,hh,rfl⟩
 have O:=hp.obj f _ m;rw[L] at O;obtain⟨b0,vals,o,hb0,hown,p,hgis,hvl,Y,hnone⟩:=O;cases hb0;obtain⟨_,r,rfl,hst,hpe,A,hca,hcb,C,rfl⟩:=hgis;obtain⟨hia,ha⟩:=(CodesOf.ci (P:=P) _ _ _).1 hca;obtain⟨hib,U⟩:=(CodesOf.ci (P:=P) _ _ _).1 hcb;have B:f<k:=(Obs.top_get hk m).1;have hvsz:vs.size=r.params.size:=by rw[A,hps];have:=hvs.length;simpa using this
 have hrv0: ∀ t d,lk (keys.zip ds) t=some d->RV φ h (r.tmps.getD t Go.undef) d:=λt d hl=>by
  obtain⟨j,h1,h2⟩:=Zbq hl;have h3:=Y j d h2;have:(keys.map λt=>r.tmps.getD t Go.undef).getD j Go.undef=r.tmps.getD t Go.undef:=by simp[List.getD,List.getElem?_map,h1]
  rw[this] at h3;exact h3
 have hrun:(Z3b (.func (.yield l) #[] #[]) vs).run P w=.ok (.round l r.fn ((r.params.zip vs).foldl (λtmps (t,a)=>tmps.setIfInBounds t a) r.tmps) r.assign r.body) w:=by
  simp only[Z3b,Deferred.ofValue,invoke,Sem.run_bind,Sem.run_pure,Result.andThen_ok];rw[Array.empty_append];exact run_yield p hvsz
 rw[hrun];show RoundIn F n P l r.fn _ r.assign r.body w _;refine Zcr (hF.fn _) ?_;have hfold:(r.params.zip vs).foldl (λtmps (t,a)=>tmps.setIfInBounds t a) r.tmps=(ps.toList.zip vs.toList).foldl (λtm x=>tm.setIfInBounds x.1 x.2) r.tmps:=by
  rw[A,<- Array.foldl_toList,Array.toList_zip]
 rw[hfold];have htmsz:((ps.toList.zip vs.toList).foldl (λtm x=>tm.setIfInBounds x.1 x.2) r.tmps).size=N:=by rw[Z2W,C]
 have hm':=hp.enter (N:=N) (k:=k) (kp:=λb=>if b=l then some (.loop r) else none) (E:=putP (ps.toList.zip args) (keys.zip ds)) (ob1:=Z8 f ob) htmsz
  (Z7N ps.toList vs.toList args (keys.zip ds) r.tmps hvs (λt ht=>by rw[C];exact hpN t ht) hrv0)
  (λi o z=>by
   rw[Zy] at z;split at z
   ·cases z
   ·exact z)
  (λq o hq=>by
   split at hq
   ·rename_i e;cases hq;subst e;refine⟨p,hnone,λi hi hbi=>?_⟩;rw[Zy] at hi;split at hi
    ·cases hi
    ·rename_i hne;exact hne (hp.sep i f q hi (by rw[m];rfl) hbi (by rw[L];rfl))
   ·cases hq)
 have G:ZOf ob h l:=⟨f,by rw[m];rfl,by rw[L];rfl⟩;refine wpIn_mono (Z0e (n:=n) Z3 (hF.inRound l) r.assign a ha _ [] rfl rfl hp.glob (λl' hl'=>⟨r,by
  have:some l=some l':=hl';cases this;simp⟩) _ _ φ h _ w hm' hsw) ?_
 rintro e a1 w1 ⟨S,X,V,s1,φ1,h1,hq1,hm1⟩;cases e<;>try exact hq1.elim
 have hk1: ∀ {cx1:Cx},cx1.kp l=some (.loop r)-> ∀ ms,(cx1.more ms).kp l=some (.loop r):=λhk ms=>by simp[Cx.more,hk]
 have W:=hk1 (cx1:={N,w0:=w,φ0:=φ,Z:=ZOf ob h,bs:=k,h0:=h,kp:=λb=>if b=l then some (.loop r) else none}) (by simp) S;have J:=(hm1.kept l _ W).1;refine⟨_,run_beginRound J hst,?_⟩;have hm1b:=hm1.setKp (o1:=.loop {r with state:=.busy}) W (.inr G);obtain⟨tm1,df1⟩:=a1;refine Z1j (ZbQ (n:=n) Z3 (hF.inRound l) r.body b U hj _ df1 rfl rfl hp.glob (λl' hl'=>⟨{r with state:=.busy},by
  have:some l=some l':=hl';cases this;simp[Cx.setk]⟩) _ _ φ1 h1 tm1 _ hm1b hq1) ?_
 rintro e a2 w2 ⟨ms2,hnd2,hdf2,s2,φ2,h2,⟨hrn,hq2⟩,hm2⟩
 -- the record at the end,whatever its state
 have tail: ∀ (kp:Nat->Option Obj) (tm':Array Value) (w':World) (T:Loop),kp l=some (.loop T)->T.params=r.params->T.tmps=r.tmps->T.assign=r.assign->T.body=r.body →
   Mod {N,w0:=w,φ0:=φ,Z:=ZOf ob h,bs:=k,h0:=h,kp:=kp} s2 φ2 h2 tm' w' →
   ∃ hh,After ob φ h w ((f,.gen (.loop T.state T.pending ps a b N keys) ds)::(s2.canon k []).ob) φ2 hh w':=by
  intro kp tm' w' T hkp q1 q2 q3 q4 M;obtain⟨hh,_,hm4⟩:=M.canS (tm:=[]) (λ_ _ h=>by simp[lk] at h) (nw:=newN k s2.ob []);have g:Mod _ (s2.canon k []) φ2 hh _ _:=hm4;have y:hh f=.pointer (some ⟨l,0,none⟩):=by rw[g.hfix f B];exact L
  have hrn':=Z79 hrn B;have hkl:=g.kept l (.loop T) hkp;refine⟨hh,⟨⟨g.one,(g.glob hp.glob).sub (λb ⟨i,hi,U⟩=>by
   simp only[lk] at hi;split at hi
   ·rename_i e;subst e;rw[y] at U;simp only[blk,Option.some.injEq] at U;exact U ▸ .inr G
   ·exact g.zof ⟨i,hi,U⟩),g.mem,λi o z=>?_,λi j q hi hj hqi hqj=>?_⟩,g.ext,λb o u q1 q2=>(g.new b o u q1 q2),λb q1 q2=>g.frame b q1 q2,λi hi=>?_,g.os,g.tape,g.output,g.grow⟩⟩
  ·simp only[lk] at z;split at z
   ·rename_i e;subst e;cases z;rw[y];refine⟨l,keys.map λt=>r.tmps.getD t Go.undef,_,rfl,.inr G,hkl.1,⟨⟨l,rfl⟩,_,rfl,rfl,rfl,by rw[q1];exact A,by rw[q3];exact hca,by rw[q4];exact hcb,by rw[q2];exact C,by rw[q2]⟩,hvl,λj d hd=>?_,λoff=>hkl.2.1 off⟩;have hdt:D.top d<=k:=Z3d (Obs.top_get hk m).2 (List.mem_of_getElem? hd);exact ((Y j d hd).mono g.ext).under hdt λi hi=>g.hfix i hi
   ·have O:=g.ob i o z;exact O.keep (λb U=>U) (λ_ _=>rfl) (λ_ _ _ h=>h) (λ_ _ _=>rfl) (λ_ _ _ r=>r)
  ·have key: ∀ i',(lk (s2.canon k []).ob i').isSome->blk (hh i')=some q->blk (hh f)=some q->False:=λi' h1 h2 h3=>by
    rw[y] at h3;cases h3;exact hkl.2.2 i' h1 h2
   simp only[lk] at hi hj;by_cases e1:i=f<;>by_cases e2:j=f
   ·rw[e1,e2]
   ·rw[if_neg e2] at hj;exact (key j hj hqj (by rw[<- e1];exact hqi)).elim
   ·rw[if_neg e1] at hi;exact (key i hi hqi (by rw[<- e2];exact hqj)).elim
   ·rw[if_neg e1] at hi;rw[if_neg e2] at hj;exact g.sep i j q hi hj hqi hqj
  ·obtain⟨o,z⟩:=Option.isSome_iff_exists.1 hi;exact g.hfix i (Obs.top_get hk z).1
 have hk2:((Cx.setk (Cx.more {N,w0:=w,φ0:=φ,Z:=ZOf ob h,bs:=k,h0:=h,kp:=λb=>if b=l then some (.loop r) else none} S) l (.loop {r with state:=.busy})).more ms2).kp l=some (.loop {r with state:=.busy}):=by
  simp[Cx.more,Cx.setk]
 have K:=(hm2.kept l _ hk2).1;have fin: ∀ pend:Option Code,YRet P k R f N ps a b keys ds pend s2 →
   ∃ v w',(Instr.endRound l pend).run P w2=.ok v w'/\Post ob φ h w R (.returned v) w':=by
  intro pend hy;obtain⟨hh,I⟩:=tail _ _ _ { {r with state:=.busy} with state:=if pend.isNone then .ready else .done,pending:=pend} (by simp[Cx.setk]) rfl rfl rfl rfl (hm2.setKp (o1:=.loop { {r with state:=.busy} with state:=if pend.isNone then .ready else .done,pending:=pend}) hk2 (.inr G));exact⟨_,_,run_endRound pend K,.ret hy (.pure (.bool _)) I⟩
 cases e<;>first|exact hq2.elim|exact fin _ hq2|skip
 obtain⟨v,rfl,hR⟩:=hq2
 -- the marks taken
 obtain⟨w3,ht3,M⟩:=Z24 (P:=P) ms2 w2 hnd2 hm2;rw[Zc4] at M;obtain⟨w4,ht4,hm4⟩:=Z24 (P:=P) S w3 ⟨X.1,λq hq=>by
  obtain⟨g1,g2⟩:=X.2 q hq;refine⟨?_,g2⟩;simp only[Cx.setk] at g1 ⊢;split at g1
  ·cases g1
  ·rename_i hne;simp[hne]⟩ M
 have hbusy:({r with state:=.busy}:Loop).pending=none:=hpe;obtain⟨hh,I⟩:=tail _ _ _ {r with state:=.busy} (by simp[Cx.setk]) rfl rfl rfl rfl hm4;rw[hbusy] at I;exact⟨ms2++S,w4,by rw[hdf2,List.map_append];simp only at V;rw[V,List.append_nil],Z6g ht3 ht4,.pan v,_,φ2,hh,.inr ⟨v,rfl,rfl⟩,hR,I⟩
end
def finJ (k c N:Nat) (ps:Array Tmp) (a b:SC) (keys:List Nat) (ds:List D):Exit->St->Tr:=λe s=>match e with
 |.panic [⟨v,false,false⟩]=>if (lk s.ob c).isNone=true then .ret (.pan v) (Z29 ((c,.gen (.loop .busy none ps a b N keys) ds)::(s.canon k []).ob)) else .bad
 |e=>finY k c N ps a b keys ds e s
def yldTJ (P:Program) (tb:Ctr) (k c N:Nat) (ps:Array Tmp) (a b:SC) (keys:List Nat) (ds:List D) (n:Nat) (s:St):Tr :=
 goT P tb k (λe s=>match e with
  |.normal=>goT P tb k (finJ k c N ps a b keys ds) n [.sc b] s
  |_=>.bad) n [.sc a] s
section
variable {P:Program}
theorem CallL.yldTJ [CodesOf P] (Z3:DrawSound P) {tb:Ctr} (j:tb.OK P) {n k d N:Nat} {ps:Array Tmp} {a b:SC} {keys:List Nat} {ds args:List D} {ob:Obs} {R:D->Obs->Prop} {T:Tr}
  (g:lk ob d=some (.gen (.loop .ready none ps a b N keys) ds)) (e:Sx.yldTJ P tb k d N ps a b keys ds n ⟨putP (ps.toList.zip args) (keys.zip ds),Z8 d ob⟩=T)
  (h:T.ok R (λ_ _=>False)) (q:jok b=true:=by rfl) (hk:Nat.ble (Obs.top ob) k=true:=by rfl) (p:ps.size=args.length:=by rfl) (m:(ps.toList.all λt=>decide (t<N))=true:=by rfl):CallL P (.yld d) args ob R:=by
 have hk:=Nat.le_of_ble_eq_true hk;refine CallL.reordG (CallL.yldJ Z3 k hk g p (λt r=>by simpa using List.all_eq_true.1 m t r) q ?_);have h':(Sx.yldTJ P tb k d N ps a b keys ds n ⟨putP (ps.toList.zip args) (keys.zip ds),Z8 d ob⟩).ok R (λ_ _=>False):=e ▸ h;unfold Sx.yldTJ at h';refine Z7f (Z2p j (λe s hf=>?_) (λ_ _ h=>h.elim) h');cases e<;>try exact hf.elim
 refine Z7f (Z2p j (λe s hf=>?_) (λ_ _ h=>h.elim) hf);have other: ∀ e:Exit,(finY k d N ps a b keys ds e s).ok R (λ_ _=>False)-> ∃ pend,Z3J e=some pend/\lk s.ob d=none/\R (.bool pend.isNone) (Z29 ((d,.gen (.loop (if pend.isNone then .ready else .done) pend ps a b N keys) ds)::(s.canon k []).ob)):=by
  intro e hf;unfold finY at hf;split at hf
  ·rename_i pend o;split at hf
   ·rename_i l;exact⟨pend,o,by simpa using l,hf⟩
   ·exact hf.elim
  ·exact hf.elim
 cases e with
 |normal =>
  obtain⟨pend,h1,h2,f⟩:=other .normal hf;simp only[Z3J,Option.some.injEq] at h1;subst h1;exact⟨h2,f⟩
 |ret =>
  obtain⟨pend,h1,h2,f⟩:=other .ret hf;simp only[Z3J,Option.some.injEq] at h1;subst h1;exact⟨h2,f⟩
 |exit i =>
  obtain⟨pend,h1,h2,f⟩:=other (.exit i) hf;simp only[Z3J,Option.some.injEq] at h1;subst h1;exact⟨h2,f⟩
 |goto i =>
  obtain⟨pend,h1,_⟩:=other (.goto i) hf;simp[Z3J] at h1
 |outgrown =>
  obtain⟨pend,h1,_⟩:=other .outgrown hf;simp[Z3J] at h1
 |panic c =>
  unfold finJ at hf;split at hf
  ·rename_i v heq;cases heq;split at hf
   ·rename_i l;exact⟨by simpa using l,v,rfl,hf⟩
   ·exact hf.elim
  ·obtain⟨pend,h1,_⟩:=other (.panic c) hf;simp[Z3J] at h1
end
end Go.Sx
/- PANICS: what a call leaves that panics,forgotten. -/
namespace Go.Sx
open Go.RowKit
variable [Globs] [Codes]
variable {P:Program}
theorem CallL.pdrop {d:D} {args:List D} {ob:Obs} {R:D->Obs->Prop} {v:Value} (h:CallL P d args ob R) (k: ∀ r o,R r o->r=.pan v):CallL P d args ob λr o=>r=.pan v/\o=[]:=by
 intro F g n φ hh w u vs hp hv c;refine (h F g n φ hh w u vs hp hv c).mono ?_;rintro e w' ⟨r,o,φ',h',l,hr,ha⟩;have f:=k r o hr;subst f;refine⟨.pan v,[],φ',h',?_,⟨rfl,rfl⟩,⟨⟨ha.loc.one,ha.loc.glob.sub λb ⟨i,hi,_⟩=>by simp[lk] at hi,ha.loc.mem,λi o m=>by simp[lk] at m,λi j b hi=>by simp[lk] at hi⟩,ha.ext,ha.new,ha.frame,ha.hfix,ha.os,ha.tape,ha.output,ha.grow⟩⟩;rcases l with⟨x,h1,h2⟩|⟨x,h1,h2⟩
 ·exact h2.notPan.elim
 ·exact .inr ⟨x,h1,h2⟩
theorem Zi4 {φ:Mem} {h:Nat->Value}: ∀ {vs:List Value} {ds:List D},RVL φ h vs ds-> ∀ (j:Nat) (d:D),ds[j]? = some d->RV φ h (vs.getD j Go.undef) d
 |[],_::_,hr,_,_,_=>hr.elim
 |_,[],_,j,d,b=>by simp at b
 |_::_,_::_,hr,0,d,b=>by cases b;exact hr.1
 |_::vs,_::ds,hr,j+1,d,b=>by
  have:=Zi4 hr.2 j d (by simpa using b);simpa using this
theorem FnOK.callS {f:FuncId} (x:ZC P f=true) {args:List D} {es ext:List (List D)} (h:FnOK P f args (.slice es ext)):CallL P (.func (.func f) [] []) args [] λr o=>r=.slice es ext/\o=[]:=by
 intro F E n φ hh w u vs hp hv l;obtain⟨va,vc,rfl,y,z⟩: ∃ va vc,u=.func (.func f) va vc/\va.size=0/\vc.size=0:=by
  cases hv with
  |pure hr=>cases hr
  |func _ vf vc _ _ hf hc _ _=>exact⟨vf,vc,rfl,hf,hc⟩
 rw[Zi x];have A:va=#[]:=by simpa using y
 have B:vc=#[]:=by simpa using z
 subst A;subst B;simp only[Array.empty_append,Array.append_empty,DynOut];have hsz:vs.size=args.length:=by
  have:=l.length;simpa using this
 have J:GlobC φ w (λ_=>False):=hp.glob.sub λb h=>h.elim;refine E.calls ((h φ hh w vs hp.one J hp.mem hsz λj d I=>?_).mono ?_) n
 ·have:=Zi4 l j d I;simpa [Array.getD_eq_getD_getElem?,List.getD] using this
 ·rintro e w' ⟨v,φ',rfl,G,c,h1,h2,C⟩;refine .ret ⟨rfl,rfl⟩ (G hh) (φ':=φ') (h':=hh) ⟨⟨hp.one,?_,h2,λi o L=>by simp[lk] at L,λi j b hi=>by simp[lk] at hi⟩,h1,λb o u M K=>.inl (C b o u M K),λb s _=>c.block b s,λ_ _=>rfl,c.os,c.tape,c.output,c.size⟩;refine⟨λg cs t=>(hp.glob.ok g cs t).mono h1,λp arr hx=>?_,λp hx=>?_⟩
  ·obtain⟨⟨k,fr,m⟩,_⟩:=hp.glob.x p arr hx;exact⟨⟨k,fr,by rw[c.block _ (Array.getElem?_eq_some_iff.1 m).1,m]⟩,λ⟨i,hi,_⟩=>by simp[lk] at hi⟩
  ·obtain⟨⟨arr,k,fr,q,m,ha⟩,_⟩:=hp.glob.i p hx;exact⟨⟨arr,k,fr,q,by rw[c.block _ (Array.getElem?_eq_some_iff.1 m).1,m],ha⟩,λ⟨i,hi,_⟩=>by simp[lk] at hi⟩
end Go.Sx
/- A FUNCTION THAT DEFERS A CALL,BY TREES. -/
namespace Go.Sx
open Go.RowKit
variable [Globs] [Codes]
section
variable {P:Program}
def goLn (tb:Ctr) (bs:Nat):SC->St->(Exit->St->Tr)->Tr
 |.skip,s,K=>K .normal s
 |.ret,s,K=>K .ret s
 |.exit i,s,K=>K (.exit i) s
 |.reg ops,s,K=>opsT tb (s.nx bs) ops s λs'=>K .normal s'
 |.drw pre ops,s,K=>caT tb (s.nx bs) ops s λes s'=>if dchk (s.nx bs) pre ops es s=true then K .normal s' else .bad
 |.seq a b,s,K=>goLn tb bs a s λe s'=>match e with
  |.normal=>goLn tb bs b s' K
  |e=>K e s'
 |.cond x a b,s,K=>match s.get x with
  |.bool t=>brT t (goLn tb bs a s K) (goLn tb bs b s K)
  |_=>.bad
 |_,_,_=>.bad
theorem Zlf {tb:Ctr} (g:tb.OK P) {bs:Nat} {R:D->Obs->Prop} {J:List Fr->St->Prop}: ∀ (sc:SC) (s:St) (K:Exit->St->Tr) (Q:Exit->St->Prop),(∀ e s,(K e s).ok R J->Q e s)->(goLn tb bs sc s K).ok R J->sw P bs sc Q s:=by
 intro sc;induction sc with
 |skip=>exactλs K Q c h=>c _ _ h
 |ret=>exactλs K Q c h=>c _ _ h
 |exit i=>exactλs K Q c h=>c _ _ h
 |reg ops =>
  grind [Z2J,Z7a,goLn,sw,hx]
 |drw pre ops =>
  intro s K Q c h;obtain⟨es,s1,h1,h2⟩:=Z7a g h;split at h2
  ·grind [Z2J,Z7a,goLn,sw,hx]
  ·exact h2.elim
 |seq a b d f =>
  intro s K Q c h;refine d s _ _ (λe s' h'=>?_) h;cases e<;>first|exact f s' K Q c h'|exact c _ _ h'
 |cond x a b d f =>
  intro s K Q c h;simp only[goLn] at h;simp only[sw];split at h
  ·rename_i t hx;rw[hx];cases t
   ·exact f s K Q c h
   ·exact d s K Q c h
  ·exact h.elim
 |_=>exactλs K Q c h=>h.elim
def goD (tb:Ctr) (bs:Nat) (rs:List SR):SC->St->Tr
 |.seq a b,s=>match a with
  |.spec (.dfr ops x)=>opsT tb (s.nx bs) ops s λs1=>.jmp [.sc (.seq (.spec (.dfr [] x)) b)] s1
  |.spec (.frg ts)=>goD tb bs rs b (s.canon bs ts)
  |a=>goLn tb bs a s λe s=>match e with
   |.normal=>goD tb bs rs b s
   |e=>finF false bs rs e s
 |_,_=>.bad
def JD (P:Program) (bs:Nat) (rs:List SR) (R:D->Obs->Prop):List Fr->St->Prop:=λK s=>match K with
 |[.sc (.seq (.spec (.dfr _ x)) b)]=>KDef P bs rs R (s.get x) b s
 |_=>False
theorem Zqz {tb:Ctr} (f:tb.OK P) {bs:Nat} {rs:List SR} {R:D->Obs->Prop}: ∀ (sc:SC) (s:St),(goD tb bs rs sc s).ok R (JD P bs rs (RE false R)) →
  swD P bs (EndQ rs (RetL bs (RE false R))) (KDef P bs rs (RE false R)) sc s:=by
 intro sc;induction sc with
 |seq a b j g =>
  intro s h;have d:(goLn tb bs a s λe s=>match e with
   |.normal=>goD tb bs rs b s
   |e=>finF false bs rs e s).ok R (JD P bs rs (RE false R))->sw P bs a (thenS (swD P bs (EndQ rs (RetL bs (RE false R))) (KDef P bs rs (RE false R)) b) (EndQ rs (RetL bs (RE false R)))) s:=λh=>by
   refine Zlf f a s _ _ (λe s' h'=>?_) h;cases e with
   |normal=>exact g s' h'
   |ret=>exact Z0M .ret s' h'
   |exit i=>exact (Z0M (.exit i) s' h').elim
   |goto i=>exact (Z0M (.goto i) s' h').elim
   |panic c=>exact Z0M (.panic c) s' h'
   |outgrown=>exact (Z0M .outgrown s' h').elim
  cases a with
  |spec k =>
   cases k with
   |dfr ops x =>
    obtain⟨s1,h1,h2⟩:=Z2J f h;exact h1 _ h2
   |frg ts=>exact g _ h
   |_=>exact d h
  |_=>exact d h
 |_=>exactλs h=>h.elim
theorem KDef.at {k k2:Nat} {rs:List SR} {R:D->Obs->Prop} {cl:D} {e:SC} {s1:St} (g:FuncId) (fa d:List D) (b:cl=.func (.func g) fa d) (c:ZC P g=true) (h1:s1.top<=k2) (h2:k<=k2) (f:D.top cl<=k2) (h:At P k2 [.sc e] s1 (DefQ P k k2 rs cl R)):KDef P k rs R cl e s1 :=
 ⟨g,fa,d,k2,b,c,h1,h2,f,Z7f h⟩
def defT (P:Program) (d:FrameMode->Obs->Option (FrameMode × Obs)) (k k2:Nat) (rs:List SR) (cl:D) (u:FrameMode) (b:St):Tr :=
 let nm:=Z1K b [cl]
 if Z0w nm=true then (match d u (ZT b.ob (idx · nm) 0 nm) with
  |some (c,ob')=>.owe (CallD P u (cl.ren (idx · nm)) (ZT b.ob (idx · nm) 0 nm) λu0 ob0=>u0=c/\ob0=ob') (match settle c with
   |.returning=>endT false k rs (b.back (b.base k2) nm ob')
   |_=>.bad)
  |none=>.bad) else .bad
theorem ZlA {e:FrameMode->Obs->Option (FrameMode × Obs)} {k k2:Nat} {rs:List SR} {cl:D} {u:FrameMode} {c:St} {R:D->Obs->Prop} {J:List Fr->St->Prop} (h:(defT P e k k2 rs cl u c).ok R J):DQ P k k2 rs cl (RE false R) u c:=by
 unfold defT at h;simp only at h;split at h
 ·rename_i b;split at h
  ·rename_i f ob' _;obtain⟨d,h⟩:=h;split at h
   ·rename_i hs;obtain⟨ds,h1,h2⟩:=ZdJ h;refine⟨_,_,c.base k2,Zo b,λi hi=>ZA i hi,Nat.le_trans (Nat.le_add_right _ _) (Nat.le_max_left ..),Nat.le_max_right ..,d,?_⟩;rintro u0 ob0 ⟨rfl,rfl⟩;exact⟨hs,ds,h1,h2⟩
   ·exact h.elim
  ·exact h.elim
 ·exact h.elim
def Z6W (P:Program) (b:FrameMode->Obs->Option (FrameMode × Obs)) (k k2:Nat) (rs:List SR) (cl:D):Exit->St->Tr:=λe s=>match e with
 |.normal=>defT P b k k2 rs cl .returning s
 |.ret=>defT P b k k2 rs cl .returning s
 |.panic c=>defT P b k k2 rs cl (.panicking c) s
 |_=>.bad
theorem Zgt {b:FrameMode->Obs->Option (FrameMode × Obs)} {k k2:Nat} {rs:List SR} {cl:D} {R:D->Obs->Prop} {J:List Fr->St->Prop} (e:Exit) (s:St) (h:(Z6W P b k k2 rs cl e s).ok R J):DefQ P k k2 rs cl (RE false R) e s:=by
 cases e<;>first|exact ZlA h|exact h.elim
theorem At.treeD {tb:Ctr} (b:tb.OK P) {c:FrameMode->Obs->Option (FrameMode × Obs)} {n k k2:Nat} {rs:List SR} {cl:D} {K:List Fr} {s:St} {R:D->Obs->Prop} {T:Tr} (e:goT P tb k2 (Z6W P c k k2 rs cl) n K s=T)
  (h:T.ok R (λK s=>At P k2 K s (DefQ P k k2 rs cl (RE false R)))):At P k2 K s (DefQ P k k2 rs cl (RE false R)) :=
 Z2p b Zgt (λ_ _ h=>h) (e ▸ h)
theorem CallL.treeD [CodesOf P] (Z3:DrawSound P) {f:FuncId} {N:Nat} {sc:SC} {rs:List SR} (hf:FnC P f N sc rs/\ZC P f=true) {tb:Ctr} (d:tb.OK P) {bs:Nat} {first args caps:List D} {ob:Obs} {R:D->Obs->Prop} {T:Tr}
  (e:goD tb bs rs sc ⟨ZM 0 (first++args++caps),ob⟩=T) (h:T.ok R (JD P bs rs (RE false R))) (b:Nat.ble (first++args++caps).length N=true:=by rfl) (c:Nat.ble (Obs.top ob) bs=true:=by rfl):CallL P (.func (.func f) first caps) args ob R :=
 CallL.reordG (CallL.fnD Z3 hf.1 hf.2 bs (Nat.le_of_ble_eq_true c) (Nat.le_of_ble_eq_true b) (Zqz d sc _ (e ▸ h)))
def Zve (k:Nat):Exit->St->Tr:=λe s=>match e with
 |.normal=>.ret (.tuple []) (s.fin k (.tuple [])).ob
 |.ret=>.ret (.tuple []) (s.fin k (.tuple [])).ob
 |_=>.bad
def goRc (P:Program) (tb:Ctr) (k n:Nat) (ops:List SOp) (b:SC) (s0:St):Tr:=opsT tb (St.nx s0 k) ops s0 λs1=>goT P tb k (Zve k) n [.sc b] s1
theorem CallD.tree [CodesOf P] (Z3:DrawSound P) {g:FuncId} {N t:Nat} {ops:List SOp} {f:SC} (hf:FnC P g N (.seq (.spec (.rcv t ops)) f) []) {tb:Ctr} (d:tb.OK P) {first caps:List D} {ob:Obs} {n k:Nat} {u:FrameMode} {R:FrameMode->Obs->Prop} {T:Tr}
  (e:goRc P tb k n ops f ⟨(t,.raw (recM u).1)::Z8 t (ZM 0 (first++caps)),ob⟩=T)
  (h:T.ok (λ_ ob'=>R (recM u).2 ob') (λ_ _=>False)) (c:(recM u).1.oneCell'=true:=by rfl) (b:Nat.ble (first++caps).length N=true:=by rfl) (hk:Nat.ble (Obs.top ob) k=true:=by rfl):CallD P u (.func (.func g) first caps) ob R:=by
 have h':(goRc P tb k n ops f ⟨(t,.raw (recM u).1)::Z8 t (ZM 0 (first++caps)),ob⟩).ok (λ_ ob'=>R (recM u).2 ob') (λ_ _=>False):=e ▸ h;unfold goRc at h';obtain⟨s1,h1,h2⟩:=Z2J d h';refine CallD.fn Z3 hf k (Nat.le_of_ble_eq_true hk) (Nat.le_of_ble_eq_true b) c (h1 _ (Z7f (Z2p d (λe s hf=>?_) (λ_ _ h=>h.elim) h2)));cases e with
 |normal=>exact⟨.inl rfl,hf⟩
 |ret=>exact⟨.inr rfl,hf⟩
 |_=>exact hf.elim
end
end Go.Sx
