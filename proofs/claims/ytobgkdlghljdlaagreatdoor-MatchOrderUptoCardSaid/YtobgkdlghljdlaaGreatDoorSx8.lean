/- Own work: a layer over the kit: plain data,a walk over it,its soundness. -/
import Derived.Lib.Bytealg
import Derived.Lib.AtoiAll
import Derived.Lib.ItoaNum
import Derived.Sort.OwnSorted
import Derived.Test.YtobgkdlghljdlaaGreatDoorSx7
import Derived.Test.YtobgkdlghljdlaaGreatDoorSx4
set_option linter.unusedSectionVars false
set_option linter.unusedVariables false
set_option linter.unusedSimpArgs false
set_option linter.deprecated false
/- TERMS COMPARED,in plain words. -/
namespace Go.Sx
def ncmp (a b:Int):Int:=if a<b then -1 else if b<a then 1 else 0
def rkI (k:Int):Int:=if k=1 then 0 else if k=2 then 1 else if k=4 then 2 else if k=3 then 3 else if k=5 then 4 else if k=6 then 5 else 6+k
def idxI (k:Int):Int:=if k=1 then 0 else if k=2 then 1 else if k=4 then 2 else if k=3 then 3 else if k=5 then 4 else if k=6 then 5 else -1
def fst0:List Int->Int
 | []=>0
 | x::r=>if x≠0 then x else fst0 r
mutual
def Tm.cmp:Tm->Tm->Int
 | .mk k n s l,b=>match b with
  | .mk k' n' s' l'=>fst0 [ncmp (rkI k) (rkI k'),if k=1 then ncmp n n' else 0,ncmp l.length l'.length,Lib.compareBytes s s',Tm.cmpL l l',ncmp n n']
def Tm.cmpL:List Tm->List Tm->Int
 | [],q=>match q with
  | []=>0
  | _::_=> -1
 | a::r,q=>match q with
  | []=>1
  | b::q=>if a.cmp b≠0 then a.cmp b else Tm.cmpL r q
end
mutual
def Tm.sz:Tm->Int->Int
 | .mk _ _ _ l,m=>1+Tm.szL l (m-1) 0
def Tm.szL:List Tm->Int->Int->Int
 | [],m,n=>n
 | a::r,m,n=>if n<=m then Tm.szL r m (n+a.sz (m-n)) else n
end
mutual
def Tm.eqb:Tm->Tm->Bool
 | .mk k n s l,b=>match b with
  | .mk k' n' s' l'=>decide (k=k') && decide (n=n') && decide (s=s') && Tm.eqbL l l'
def Tm.eqbL:List Tm->List Tm->Bool
 | [],q=>match q with
  | []=>true
  | _::_=>false
 | a::r,q=>match q with
  | []=>false
  | b::q=>a.eqb b && Tm.eqbL r q
end
theorem Z0H {a b:Int}:ncmp a b=0 ↔ a=b:=by
 unfold ncmp; split
 ·simp; omega
 ·split
  ·simp; omega
  ·simp; omega
theorem Z3T: ∀ {a b:List UInt8},Lib.compareBytes a b=0 ↔ a=b
 | [],[]=>by simp[Lib.compareBytes]
 | [],_::_=>by simp[Lib.compareBytes]
 | _::_,[]=>by simp[Lib.compareBytes]
 | a::r,b::q=>by
  unfold Lib.compareBytes
  split
  ·rename_i h; simp; intro e; subst e; exact absurd h (UInt8.lt_irrefl _)
  ·split
   ·rename_i h; simp; intro e; subst e; exact absurd h (UInt8.lt_irrefl _)
   ·rename_i h1 h2
    have:a=b:=by
     rw[<- UInt8.toNat_inj]
     rw[UInt8.lt_iff_toNat_lt] at h1 h2
     omega
    rw[Z3T (a:=r) (b:=q)]
    simp[this]
theorem Z4F: ∀ (a b:List UInt8),Lib.compareBytes a b=if Op.bytesLess a b=true then -1 else if (!(Op.bytesLess a b || decide (a=b)))=true then 1 else 0
 | [],[]=>rfl
 | [],_::_=>rfl
 | _::_,[]=>by simp[Lib.compareBytes,Op.bytesLess]
 | a::r,b::q=>by
  unfold Lib.compareBytes Op.bytesLess
  by_cases h1:a<b
  ·simp[h1]
  ·by_cases h2:b<a
   ·have:a≠b:=fun e=>by subst e; exact h1 h2
    simp[h1,h2,this]
   ·have hab:a=b:=by
     rw[<- UInt8.toNat_inj]
     rw[UInt8.lt_iff_toNat_lt] at h1 h2
     omega
    subst hab
    rw[Z4F r q]
    simp[h1]
end Go.Sx
namespace Go.Sx
mutual
def Tm.few (N:Nat):Tm->Prop
 | .mk _ _ _ l=>l.length<=N/\Tm.fewL N l
def Tm.fewL (N:Nat):List Tm->Prop
 | []=>True
 | a::r=>a.few N/\Tm.fewL N r
end
theorem ZL {N:Nat}: ∀ {l:List Tm},Tm.fewL N l ↔ ∀ t∈l,t.few N
 | []=>by simp[Tm.fewL]
 | a::r=>by simp[Tm.fewL,ZL (l:=r)]
mutual
theorem Z4S: ∀ (t:Tm) (m:Int),1<=t.sz m
 | .mk k n s l,m=>by
  have:=Z1R l (m-1) 0
  simp only[Tm.sz]; omega
theorem Z1R: ∀ (l:List Tm) (m n:Int),n<=Tm.szL l m n
 | [],m,n=>by simp only[Tm.szL]; omega
 | a::r,m,n=>by
  simp only[Tm.szL]
  split
  ·have:=Z1R r m (n+a.sz (m-n))
   have:=Z4S a (m-n)
   omega
  ·omega
end
mutual
theorem ZdR: ∀ (t:Tm) (m:Int),0<=m->t.sz m<=m+1
 | .mk k n s l,m,hm=>by
  have:=Z87 l (m-1) 0 (by omega)
  simp only[Tm.sz]; omega
theorem Z87: ∀ (l:List Tm) (m n:Int),n<=m+1->Tm.szL l m n<=m+1
 | [],m,n,h=>by simp only[Tm.szL]; omega
 | a::r,m,n,h=>by
  simp only[Tm.szL]
  split
  ·have:=ZdR a (m-n) (by omega)
   exact Z87 r m _ (by omega)
  ·omega
end
mutual
theorem Zcu {N:Nat}: ∀ (t:Tm) (m:Int),m<=N->t.sz m<=m->t.few N
 | .mk k n s l,m,hm,h=>by
  simp only[Tm.sz] at h
  have:=Z4T (N:=N) l (m-1) 0 (by omega) (by omega)
  exact⟨by omega,this.1⟩
theorem Z4T {N:Nat}: ∀ (l:List Tm) (m n:Int),m-n<=N->Tm.szL l m n<=m->Tm.fewL N l/\n+l.length<=Tm.szL l m n
 | [],m,n,hm,h=>by simp[Tm.szL,Tm.fewL]
 | a::r,m,n,hm,h=>by
  simp only[Tm.szL] at h ⊢
  split at h
  ·rename_i hnm
   rw[if_pos hnm]
   have h1:=Z4S a (m-n)
   have h2:=Z4T (N:=N) r m (n+a.sz (m-n)) (by omega) h
   have h3:=Zcu (N:=N) a (m-n) hm (by omega)
   exact⟨⟨h3,h2.1⟩,by rw[List.length_cons]; omega⟩
  ·omega
end
theorem Z4p: ∀ {l:List Int},fst0 l=0 ↔ ∀ x∈l,x=0
 | []=>by simp[fst0]
 | x::r=>by
  unfold fst0
  split
  ·rename_i h; simp[h]
  ·rename_i h
   have hx:x=0:=Classical.not_not.1 h
   rw[Z4p (l:=r)]
   simp[hx]
theorem Zfb {k k':Nat} (h:rkI k=rkI k'):k=k':=by
 unfold rkI at h
 (repeat' split at h) <;> omega
mutual
theorem Z9K: ∀ {a b:Tm},a.cmp b=0 ↔ a=b
 | .mk k n s l,.mk k' n' s' l'=>by
  simp only[Tm.cmp,Z4p,Tm.mk.injEq,List.mem_cons,List.not_mem_nil,or_false,forall_eq_or_imp,forall_eq]
  constructor
  ·rintro⟨h1,_,h3,h4,h5,h6⟩
   have h3':l.length=l'.length:=by have:=Z0H.1 h3; omega
   exact⟨Zfb (Z0H.1 h1),Z0H.1 h6,Z3T.1 h4,(Z5E h3').1 h5⟩
  ·rintro⟨rfl,rfl,rfl,rfl⟩
   refine⟨Z0H.2 rfl, ?_,Z0H.2 rfl,Z3T.2 rfl,(Z5E rfl).2 rfl,Z0H.2 rfl⟩
   split
   ·exact Z0H.2 rfl
   ·rfl
theorem Z5E: ∀ {a b:List Tm},a.length=b.length->(Tm.cmpL a b=0 ↔ a=b)
 | [],[],_=>by simp[Tm.cmpL]
 | [],_::_,h=>by cases h
 | _::_,[],h=>by cases h
 | a::r,b::q,h=>by
  simp only[Tm.cmpL,List.cons.injEq]
  by_cases hc:a.cmp b=0
  ·rw[if_neg (by simpa using hc)]
   have:=Z9K.1 hc
   rw[Z5E (by simpa using h)]
   simp[this]
  ·rw[if_pos hc]
   have:a≠b:=fun e=>hc (Z9K.2 e)
   simp[hc,this]
end
mutual
theorem Z4w: ∀ {a b:Tm},a.eqb b=true ↔ a=b
 | .mk k n s l,.mk k' n' s' l'=>by
  simp only[Tm.eqb,Bool.and_eq_true,decide_eq_true_eq,Z5y,Tm.mk.injEq]
  constructor
  ·rintro⟨⟨⟨h1,h2⟩,h3⟩,h4⟩; exact⟨h1,h2,h3,h4⟩
  ·rintro⟨h1,h2,h3,h4⟩; exact⟨⟨⟨h1,h2⟩,h3⟩,h4⟩
theorem Z5y: ∀ {a b:List Tm},Tm.eqbL a b=true ↔ a=b
 | [],[]=>by simp[Tm.eqbL]
 | [],_::_=>by simp[Tm.eqbL]
 | _::_,[]=>by simp[Tm.eqbL]
 | a::r,b::q=>by
  simp only[Tm.eqbL,Bool.and_eq_true,List.cons.injEq,Z4w (a:=a) (b:=b),Z5y (a:=r) (b:=q)]
end
theorem Zge (a b:Tm):a.eqb b=decide (a.cmp b=0):=by
 rw[Bool.eq_iff_iff,Z4w,decide_eq_true_eq,Z9K]
end Go.Sx
/- ZoP laws on bytes and lists. -/
namespace Go.Sx
theorem Z9P (s:List UInt8) (i:Nat):0<=((s.getD i 0).toNat:Int)/\((s.getD i 0).toNat:Int)<256:=by
 have:=(s.getD i 0).toNat_lt
 omega
end Go.Sx
/- The lexer,plainly. -/
namespace Go.Sx.Lx
open Go.Sx
def isLow (b:UInt8):Bool:=decide (97<=b.toNat) && decide (b.toNat<=122)
def isUp (b:UInt8):Bool:=decide (65<=b.toNat) && decide (b.toNat<=90)
def isDig (b:UInt8):Bool:=decide (48<=b.toNat) && decide (b.toNat<=57)
def Zbx (b:UInt8):Bool:=isLow b || isUp b
def isUnd (b:UInt8):Bool:=b == 95
def isName (b:UInt8):Bool:=Zbx b || isDig b || isUnd b
def ZfL (b:UInt8):Bool:=b == 32 || b == 9 || b == 10 || b == 13
def skp:Bool->List UInt8->Nat
 | _,[]=>0
 | false,b::r=>if ZfL b then 1+skp false r else if b == 37 then 1+skp true r else 0
 | true,b::r=>if b == 10 then 1+skp false r else 1+skp true r
end Go.Sx.Lx
namespace Go.Sx.Lx
def wordB (first:UInt8->Bool) (s:List UInt8):Bool:=match s.dropWhile isUnd with
 | []=>false
 | b::r=>first b && (b::r).all isName && decide (s.length<=32)
def notS:List UInt8:=[110,111,116]
def symbolB (s:List UInt8):Bool:=wordB isLow s && decide (s≠notS)
def variableB (s:List UInt8):Bool:=wordB isUp s || (match s with
 | 95::r=>r.all isDig && decide (s.length<=32)
 | _=>false)
end Go.Sx.Lx
namespace Go.Sx
end Go.Sx
namespace Go.Sx.Lx
def Znt:List (List UInt8):=[[58,45],[58,126],[58],[46,46],[46],[44],[59],[124],[40],[41],[123],[125],[91],[93],[61],[33,61],[60,61],[62,61],[60],[62],[43],[45],[42],[47],[92],[64]]
def Zcz (s:List UInt8):List UInt8:=(Znt.find? (·.isPrefixOf s)).getD []
end Go.Sx.Lx
namespace Go.Sx.Lx
def Zi3 (s:List UInt8):Int × Int:=if s=notS then (4,0) else if symbolB s=true then (1,0) else if variableB s=true then (2,0) else (0,31)
def dirs:List (List UInt8):=[[35,99,111,110,115,116],[35,115,104,111,119],[35,109,105,110,105,109,105,122,101],[35,99,111,117,110,116],[35,115,117,109]]
def numE (s:List UInt8):Int:=match Lib.atoiAll s with
 | .ok n=>if 2147483647<n then 32 else if Lib.itoa n=s then 0 else 32
 | _=>32
def tok (s:List UInt8):Int × List UInt8 × Int:=match s with
 | []=>(0,[],0)
 | b::r =>
  if Zbx b || isUnd b then ((Zi3 (s.takeWhile isName)).1,s.takeWhile isName,(Zi3 (s.takeWhile isName)).2)
  else if isDig b then (3,s.takeWhile isDig,numE (s.takeWhile isDig))
  else if b == 35 then (5,35::r.takeWhile Zbx,if 35::r.takeWhile Zbx∈dirs then 0 else 31)
  else (6,Zcz s,if Zcz s=[] then 30 else 0)
end Go.Sx.Lx
namespace Go.Sx.Lx
abbrev Tk:=Int × List UInt8 × Int
def Zi9:Nat->Nat->List UInt8->List Tk × Option (Nat × Int) × Nat
 | 0,o,_=>([],none,o)
 | _+1,o,[]=>([],none,o)
 | f+1,o,b::r =>
  if (tok (b::r)).2.2=0 then
   let n:=(tok (b::r)).2.1.length
   let k:=skp false ((b::r).drop n)
   let q:=Zi9 f (o+n+k) ((b::r).drop (n+k))
   (((tok (b::r)).1,(tok (b::r)).2.1,(o:Int))::q.1,q.2)
  else ([],some (o,(tok (b::r)).2.2),o+(tok (b::r)).2.1.length)
end Go.Sx.Lx
namespace Go.Sx.Lx
end Go.Sx.Lx
namespace Go.Sx.Lx
def ZnF (n m:Int):Int:=if n.tmod m<0 then n.tmod m+m else n.tmod m
end Go.Sx.Lx
/- All subterms of a term. -/
namespace Go.Sx
mutual
def Tm.all (h:Tm->Bool):Tm->Bool
 | .mk k n s l=>h (.mk k n s l) && Tm.allL h l
def Tm.allL (h:Tm->Bool):List Tm->Bool
 | []=>true
 | a::r=>a.all h && Tm.allL h r
end
mutual
def Tm.depth:Tm->Nat
 | .mk _ _ _ l=>Tm.depthL l+1
def Tm.depthL:List Tm->Nat
 | []=>0
 | a::r=>Nat.max a.depth (Tm.depthL r)
end
end Go.Sx
namespace Go.Sx
def Q2 (k n:Int) (s:List UInt8) (len:Nat):Bool :=
 if k=1 then decide (-2147483647<=n) && decide (n<=2147483647) && decide (s=[]) && decide (len=0)
 else if k=2 then decide (n=0) && Lx.symbolB s && decide (len=0)
 else if k=3 then decide (n=0) && Lx.variableB s && decide (len=0)
 else if k=4 then decide (n=0) && Lx.symbolB s && decide (1<=len) && decide (len<=8)
 else if k=5 then decide (n=0) && (decide (s=[43]) || decide (s=[45]) || decide (s=[42]) || decide (s=[47]) || decide (s=[92])) && (decide (len=2) || decide (s=[45]) && decide (len=1))
 else if k=6 then decide (n=0) && decide (s=[]) && decide (len=2)
 else false
def Tm.shape:Tm->Bool
 | .mk k n s l=>Q2 k n s l.length
def Tm.valid (t:Tm):Bool:=decide (t.depth<=12) && t.all Tm.shape
end Go.Sx
/- Terms: plain,ground,their depth. -/
namespace Go.Sx
theorem Za4 (h:Tm->Bool): ∀ l:List Tm,Tm.allL h l=l.all fun x=>x.all h
 | []=>rfl
 | a::r=>by simp only[Tm.allL,List.all_cons]; rw[Za4 h r]
def Tm.plain:Tm->Bool
 | .mk k _ _ _=>decide (k=1) || decide (k=2) || decide (k=4)
def Tm.gr:Tm->Bool
 | .mk k _ _ _=> !decide (k=3)
theorem Z4x {M:Nat}: ∀ {l:List Tm},(∀ x∈l,x.depth<=M)->Tm.depthL l<=M
 | [],_=>by simp[Tm.depthL]
 | a::r,h=>by
  simp only[Tm.depthL]
  exact Nat.max_le.2 ⟨h a (List.mem_cons_self ..),Z4x fun x hx=>h x (List.mem_cons_of_mem _ hx)⟩
theorem Z0I {l:List Tm} {x:Tm} (h:x∈l):x.depth<=Tm.depthL l:=by
 induction l with
 | nil=>cases h
 | cons a r ih =>
  simp only[Tm.depthL]
  rcases List.mem_cons.1 h with rfl | h
  ·exact Nat.le_max_left ..
  ·exact Nat.le_trans (ih h) (Nat.le_max_right ..)
mutual
theorem Z5Y: ∀ (t:Tm) (m:Int),t.sz m<=m->(t.depth:Int)<=m
 | .mk k n s l,m,h=>by
  simp only[Tm.sz] at h
  have:=Z1S l (m-1) 0 (by omega)
  simp only[Tm.depth]
  omega
theorem Z1S: ∀ (l:List Tm) (m n:Int),Tm.szL l m n<=m->(Tm.depthL l:Int)<=m-n
 | [],m,n,h=>by
  simp only[Tm.szL] at h
  simp only[Tm.depthL]
  omega
 | a::r,m,n,h=>by
  simp only[Tm.szL] at h
  simp only[Tm.depthL]
  split at h
  ·have h0:=Z4S a (m-n)
   have h1:=Z1R r m (n+a.sz (m-n))
   have h2:=Z1S r m (n+a.sz (m-n)) h
   have h3:=Z5Y a (m-n) (by omega)
   have:Nat.max a.depth (Tm.depthL r)=a.depth\/Nat.max a.depth (Tm.depthL r)=Tm.depthL r:=by
    rcases Nat.le_total a.depth (Tm.depthL r) with h | h
    ·exact .inr (Nat.max_eq_right h)
    ·exact .inl (Nat.max_eq_left h)
   omega
  ·omega
end
theorem Zt {h:Tm->Bool} {k:Nat} {n:Int} {s:List UInt8} {l:List Tm}:(Tm.mk k n s l).all h=true ↔ h (.mk k n s l)=true/\ ∀ x∈l,x.all h=true:=by
 rw[Tm.all,Za4,Bool.and_eq_true,List.all_eq_true]
def Tm.value (t:Tm):Bool:=t.all Tm.plain && t.valid
end Go.Sx
/- ARITHMETIC,PLAIN. -/
namespace Go.Sx
def Zj (n:Int):Bool:=decide (-2147483647<=n) && decide (n<=2147483647)
theorem Zo {n:Int}:Zj n=true ↔ -2147483647<=n/\n<=2147483647:=by simp[Zj]
def Z2s (op:List UInt8) (a b:Int):Option Int :=
 if op=[43] then some (a+b) else if op=[45] then some (a-b) else if op=[42] then some (a*b)
 else if op=[47] then (if b=0 then none else some (a.tdiv b)) else if op=[92] then (if b=0 then none else some (a.tmod b)) else none
def fitO (o:Option Int):Option Int:=match o with
 | some n=>if Zj n=true then some n else none
 | none=>none
def QP (op:List UInt8) (l:List Int):Option Int:=if l.all Zj=true then (match l with
 | [a]=>if op=[45] then some (-a) else none
 | [a,b]=>fitO (Z2s op a b)
 | _=>none) else none
def resT (o:Option Int):D:= .tuple [.int .i64 (o.getD 0),.bool o.isSome]
theorem Zfx {a b:Int} (ha:Zj a=true) (hb:Zj b=true): -4611686014132420609<=a*b/\a*b<=4611686014132420609:=by
 rw[Zo] at ha hb
 have h1:(a*b).natAbs<=2147483647*2147483647:=by
  rw[Int.natAbs_mul]
  exact Nat.mul_le_mul (by omega) (by omega)
 omega
theorem ZaU {a b:Int} (ha:Zj a=true):Zj (a.tdiv b)=true:=by
 rw[Zo] at ha ⊢
 have h1:(a.tdiv b).natAbs<=a.natAbs:=by
  rw[Int.natAbs_tdiv]
  exact Nat.div_le_self _ _
 omega
end Go.Sx
/- ALL ROWS OF LISTS,PLAIN. -/
namespace Go.Sx
def insI (n:Int) (acc:List Int):List Int:=if n∈acc then acc else acc++[n]
def intD (l:List Int):List D:=l.map (.int .i64)
theorem Z3x (n:Int): ∀ acc:List Int,mput (.int .i64 n) (.int .i64 n) (intD acc) (intD acc)=some (intD (insI n acc),intD (insI n acc))
 | []=>rfl
 | a::r=>by
  have ih:=Z3x n r
  simp only[intD,List.map_cons,mput,keqD,if_true]
  by_cases h:n=a
  ·subst h
   simp[insI]
  ·have hd:decide (n=a)=false:=by simp[h]
   rw[hd]
   simp only[intD] at ih
   rw[ih]
   by_cases h2:n∈r
   ·simp[insI,h2]
   ·simp[insI,h2,h]
theorem Zbz (n:Int) (acc:List Int):acc.length<=(insI n acc).length:=by
 unfold insI
 split
 ·exact Nat.le_refl _
 ·simp
def opB (s:List UInt8) (row acc:List Int):List Int:=match QP s row with
 | some n=>insI n acc
 | none=>acc
theorem Z8P (s:List UInt8) (row acc:List Int):acc.length<=(opB s row acc).length:=by
 unfold opB
 split
 ·exact Zbz _ _
 ·exact Nat.le_refl _
def Zb {α β:Type} (f:List α->β->β):List (List α)->Nat->List α × β->List α × β
 | [],_,p=>(p.1,f p.1 p.2)
 | l::ls,k,p=>l.foldl (fun p x=>Zb f ls (k+1) (p.1.set k x,p.2)) p
theorem Qc {α β:Type} {f:List α->β->β}: ∀ (ls:List (List α)) (k:Nat) (p:List α × β),(Zb f ls k p).1.length=p.1.length
 | [],_,_=>rfl
 | l::ls,k,p=>by
  simp only[Zb]
  have ih:=Qc (f:=f) ls (k+1)
  generalize Zb f ls (k+1)=g at ih
  revert p
  intro p
  induction l generalizing p with
  | nil=>rfl
  | cons x l ihl=>simp only[List.foldl_cons]; rw[ihl,ih]; simp
theorem Z2Y {α β:Type} {f:List α->β->β} {z:β->Nat} (hz: ∀ r b,z b<=z (f r b)): ∀ (ls:List (List α)) (k:Nat) (p:List α × β),z p.2<=z (Zb f ls k p).2
 | [],_,p=>hz _ _
 | l::ls,k,p=>by
  simp only[Zb]
  have ih:=Z2Y hz ls (k+1)
  generalize Zb f ls (k+1)=g at ih
  revert p
  intro p
  induction l generalizing p with
  | nil=>exact Nat.le_refl _
  | cons x l ihl=>simp only[List.foldl_cons]; exact Nat.le_trans (ih (p.1.set k x,p.2)) (ihl _)
theorem Qo {α β:Type} {f:List α->β->β} {z:β->Nat} (hz: ∀ r b,z b<=z (f r b)) (ls:List (List α)) (k:Nat): ∀ (l:List α) (p:List α × β),z p.2<=z (l.foldl (fun p x=>Zb f ls (k+1) (p.1.set k x,p.2)) p).2
 | [],p=>Nat.le_refl _
 | x::l,p=>by
  simp only[List.foldl_cons]
  exact Nat.le_trans (Z2Y hz ls (k+1) (p.1.set k x,p.2)) (Qo hz ls k l _)
def Zx {α:Type}:List (List α)->List (List α)
 | []=>[[]]
 | l::ls=>l.flatMap fun x=>(Zx ls).map (x:: ·)
theorem Z0x {α β:Type} (f:List α->β->β): ∀ (ls:List (List α)) (k:Nat) (row:List α) (b:β),k+ls.length=row.length->(Zb f ls k (row,b)).2=(Zx ls).foldl (fun b r=>f (row.take k++r) b) b/\(Zb f ls k (row,b)).1.take k=row.take k
 | [],k,row,b,h=>by
  simp only[List.length_nil,Nat.add_zero] at h
  subst h
  simp[Zb,Zx]
 | l::ls,k,row,b,h=>by
  simp only[List.length_cons] at h
  have ih:=Z0x f ls (k+1)
  have hl:=Qc (f:=f) ls (k+1)
  simp only[Zb,Zx]
  generalize Zb f ls (k+1)=g at ih hl ⊢
  generalize hm:Zx ls=m at ih ⊢
  clear hm
  suffices H: ∀ (l:List α) (row:List α) (b:β),k+(ls.length+1)=row.length->(l.foldl (fun p x=>g (p.1.set k x,p.2)) (row,b)).2=(l.flatMap fun x=>m.map (x:: ·)).foldl (fun b r=>f (row.take k++r) b) b/\(l.foldl (fun p x=>g (p.1.set k x,p.2)) (row,b)).1.take k=row.take k from H l row b h
  intro l
  induction l with
  | nil=>intro row b _; exact⟨rfl,rfl⟩
  | cons x l ihl =>
   intro row b h
   obtain⟨h1,h2⟩:=ih (row.set k x) b (by simp; omega)
   have hl2:=hl (row.set k x,b)
   simp only[List.foldl_cons,List.flatMap_cons,List.foldl_append]
   have htk:(g (row.set k x,b)).1.take k=row.take k:=by
    have:=congrArg (List.take k) h2
    rw[List.take_take,List.take_take,Nat.min_eq_left (by omega)] at this
    rw[this]
    exact List.take_set_of_le (Nat.le_refl k)
   obtain⟨h3,h4⟩:=ihl (g (row.set k x,b)).1 (g (row.set k x,b)).2 (by rw[hl2]; simpa using h)
   rw[htk] at h3 h4
   refine⟨?_,h4⟩
   rw[h3,h1,List.foldl_map]
   have ht:(row.set k x).take (k+1)=row.take k++[x]:=by
    rw[List.take_add_one]
    rw[List.take_set_of_le (Nat.le_refl k),List.getElem?_set_self (by omega)]
    rfl
   rw[ht]
   simp only[List.append_assoc,List.singleton_append]
def numT (n:Int):Tm:= .mk 1 n [] []
def numC (l:List Int):List (List D):=l.map fun n=>[.int .u8 1,.int .i64 n,.str [],.slice [] []]
theorem Z7w (l:List Int):numC l=Tm.cellsL (l.map numT):=by
 rw[Zp]
 simp[numC,numT,Tm.cells,Tm.cellsL]
def Tm.int? : Tm->Option Int
 | .mk k n _ _=>if k=1 then some n else none
def Zd (l:List Tm):List Int:=l.filterMap Tm.int?
theorem Z2T (k:Nat) (n:Int) (s:List UInt8) (a r:List Tm):Zd (.mk k n s a::r)=if k=1 then n::Zd r else Zd r:=by
 by_cases h:k=1
 ·simp only[Zd,List.filterMap_cons,Tm.int?,if_pos h]
 ·simp only[Zd,List.filterMap_cons,Tm.int?,if_neg h]
theorem Zg0 {n:Nat} {ix:List Nat} (hnd:ix.Nodup) (hlt: ∀ i∈ix,i<n) (hl:n<=ix.length) (i:Nat) (hi:i<n):i∈ix:=by
 by_cases h:i∈ix
 ·exact h
 ·have:=List.Nodup.length_le_of_subset (List.nodup_cons.2 ⟨h,hnd⟩) (l₂:=List.range n) (fun j hj=>by
   rcases List.mem_cons.1 hj with rfl | hj
   ·exact List.mem_range.2 hi
   ·exact List.mem_range.2 (hlt j hj))
  simp at this
  omega
theorem Z8L {acc:List Int} {ix:List Nat} (hnd:ix.Nodup) (hlt: ∀ i∈ix,i<acc.length) (hall: ∀ i,i<acc.length->i∈ix):(ix.map fun i=>acc.getD i 0).Perm acc:=by
 have h:ix.Perm (List.range acc.length):=(List.perm_ext_iff_of_nodup hnd List.nodup_range).2 fun i=>⟨fun hi=>List.mem_range.2 (hlt i hi),fun hi=>hall i (List.mem_range.1 hi)⟩
 refine (h.map _).trans ?_
 have e:(List.range acc.length).map (fun i=>acc.getD i 0)=acc:=by
  refine List.ext_getElem? fun j=> ?_
  rw[List.getElem?_map]
  by_cases hj:j<acc.length
  ·simp[hj]
  ·rw[List.getElem?_eq_none (by simpa using hj),List.getElem?_eq_none (by omega)]; rfl
 rw[e]
end Go.Sx
/- Texts in order. -/
namespace Go.Sx
theorem blt: ∀ (x y:List UInt8),Op.bytesLess x y=decide (x<y)
 | [],[]=>by simp[Op.bytesLess]
 | _::_,[]=>by simp[Op.bytesLess]
 | [],_::_=>by simp[Op.bytesLess]
 | a::x,b::y=>by
  rw[Op.bytesLess,blt x y]
  simp only[List.cons_lt_cons_iff]
  by_cases h1:a<b <;> by_cases h2:a=b <;> by_cases h3:x<y <;> simp[h1,h2,h3]
theorem Zkd {a b:List UInt8} (h:a<=b) (hn:a≠b):a<b:=by
 rcases Classical.em (a<b) with h2 | h2
 ·exact h2
 ·exact absurd (List.le_antisymm h (List.not_lt.1 h2)) hn
end Go.Sx
namespace Go.Sx
/- THE ORDER IS TRANSITIVE. -/
end Go.Sx
/- BINDINGS,PLAIN. -/
namespace Go.Sx
structure Bd where
 n:List UInt8
 v:Tm
def Bd.c (x:Bd):List D:= .str x.n::x.v.cells
def bdL (l:List Bd):List (List D):=l.map Bd.c
theorem Q6 (l:List Bd):(bdL l).length=l.length:=by simp[bdL]
theorem QG {l:List Bd} {i:Nat} (h:i<l.length):(bdL l)[i]? = some l[i].c:=by simp[bdL,h]
theorem Z9X (x:Bd):x.c.length=5:=by simp[Bd.c,QC]
def okB:Option (List UInt8)->List Bd->Bool
 | _,[]=>true
 | p,x::r=>Lx.variableB x.n && x.v.value && (match p with
  | none=>true
  | some q=>decide (q<x.n)) && okB (some x.n) r
def Z08 (b:List Bd):Bool:=okB none b
def srtB (b:List Bd):Prop:=b.Pairwise fun x y=>x.n<y.n
theorem Z5c: ∀ (b:List Bd) (p:Option (List UInt8)),okB p b=true->srtB b/\(∀ x∈b,Lx.variableB x.n=true/\x.v.value=true)/\ ∀ q,p=some q-> ∀ x∈b,q<x.n
 | [],p,_=>⟨List.Pairwise.nil,fun x h=>(by cases h),fun q _ x h=>(by cases h)⟩
 | x::r,p,h=>by
  simp only[okB,Bool.and_eq_true] at h
  obtain⟨⟨⟨h1,h2⟩,h3⟩,h4⟩:=h
  obtain⟨i1,i2,i3⟩:=Z5c r _ h4
  refine⟨List.pairwise_cons.2 ⟨fun y hy=>i3 _ rfl y hy,i1⟩,fun y hy=> ?_,fun q hq y hy=> ?_⟩
  ·rcases List.mem_cons.1 hy with rfl | hy
   ·exact⟨h1,h2⟩
   ·exact i2 y hy
  ·subst hq
   have hx:q<x.n:=of_decide_eq_true h3
   rcases List.mem_cons.1 hy with rfl | hy
   ·exact hx
   ·exact List.lt_trans hx (i3 _ rfl y hy)
theorem ZcL: ∀ (b:List Bd) (p:Option (List UInt8)),srtB b->(∀ x∈b,Lx.variableB x.n=true/\x.v.value=true)->(∀ q,p=some q-> ∀ x∈b,q<x.n)->okB p b=true
 | [],p,_,_,_=>rfl
 | x::r,p,h1,h2,h3=>by
  have h1:=List.pairwise_cons.1 h1
  have hx:=h2 x (List.mem_cons_self ..)
  have ih:=ZcL r (some x.n) h1.2 (fun y hy=>h2 y (List.mem_cons_of_mem _ hy)) (fun q hq y hy=>by cases hq; exact h1.1 y hy)
  simp only[okB,hx.1,hx.2,ih,Bool.and_true,Bool.true_and]
  cases p with
  | none=>rfl
  | some q=>exact decide_eq_true (h3 q rfl x (List.mem_cons_self ..))
theorem Z1d {b:List Bd}:Z08 b=true ↔ srtB b/\ ∀ x∈b,Lx.variableB x.n=true/\x.v.value=true :=
 ⟨fun h=>⟨(Z5c b none h).1,(Z5c b none h).2.1⟩,fun h=>ZcL b none h.1 h.2 fun q hq=>by cases hq⟩
def posB (b:List Bd) (s:List UInt8):Nat:=(b.takeWhile fun x=>decide (x.n<s)).length
theorem Z0V (x:Bd) (r:List Bd) (s:List UInt8):posB (x::r) s=if x.n<s then posB r s+1 else 0:=by
 unfold posB
 by_cases h:x.n<s
 ·rw[if_pos h,List.takeWhile_cons_of_pos (by simpa using h)]; rfl
 ·rw[if_neg h,List.takeWhile_cons_of_neg (by simpa using h)]; rfl
theorem Z5a (b:List Bd) (s:List UInt8):posB b s<=b.length:=by
 induction b with
 | nil=>exact Nat.le_refl _
 | cons x r ih =>
  rw[Z0V,List.length_cons]
  split <;> omega
theorem Z6c: ∀ {b:List Bd} {s:List UInt8},srtB b-> ∀ (i:Nat) (h:i<b.length),b[i].n<s ↔ i<posB b s
 | [],s,_,i,h=>by simp at h
 | x::r,s,hs,i,h=>by
  have hs:=List.pairwise_cons.1 hs
  rw[Z0V]
  by_cases hx:x.n<s
  ·rw[if_pos hx]
   cases i with
   | zero=>simpa using hx
   | succ i =>
    have:=Z6c (s:=s) hs.2 i (by simpa using h)
    simp only[List.getElem_cons_succ]
    rw[this]; omega
  ·rw[if_neg hx]
   refine⟨fun hi=> ?_,fun hi=>by omega⟩
   cases i with
   | zero=>exact absurd (by simpa using hi) hx
   | succ i =>
    simp only[List.getElem_cons_succ] at hi
    exact absurd (List.lt_trans (hs.1 _ (List.getElem_mem _)) hi) hx
def getB (b:List Bd) (s:List UInt8):Option Tm:=(b.find? fun x=>decide (x.n=s)).map Bd.v
theorem ZR (x:Bd) (r:List Bd) (s:List UInt8):getB (x::r) s=if x.n=s then some x.v else getB r s:=by
 unfold getB
 rw[List.find?_cons]
 by_cases h:x.n=s <;> simp[h]
theorem Z2Q (a:List UInt8): ¬ a<a:=List.lt_irrefl a
theorem Z13: ∀ {b:List Bd} {s:List UInt8},srtB b->getB b s=match b[posB b s]? with
  | some x=>if x.n=s then some x.v else none
  | none=>none
 | [],s,_=>rfl
 | x::r,s,hs=>by
  have hs:=List.pairwise_cons.1 hs
  rw[ZR,Z0V]
  by_cases hx:x.n<s
  ·have hne: ¬ x.n=s:=fun e=>Z2Q s (e ▸ hx)
   rw[if_neg hne,if_pos hx,Z13 hs.2,List.getElem?_cons_succ]
  ·rw[if_neg hx,List.getElem?_cons_zero]
   simp only
   by_cases he:x.n=s
   ·rw[if_pos he,if_pos he]
   ·rw[if_neg he,if_neg he]
    unfold getB
    have:r.find? (fun x=>decide (x.n=s))=none:=by
     rw[List.find?_eq_none]
     intro y hy e
     have e:y.n=s:=of_decide_eq_true e
     have:=hs.1 y hy
     rw[e] at this
     exact hx this
    rw[this]; rfl
def Z0Z (b:List Bd) (s:List UInt8) (v:Tm):List Bd:=b.take (posB b s)++⟨s,v⟩::b.drop (posB b s)
theorem Z4o (x:Bd) (r:List Bd) (s:List UInt8) (v:Tm):Z0Z (x::r) s v=if x.n<s then x::Z0Z r s v else ⟨s,v⟩::x::r:=by
 unfold Z0Z
 rw[Z0V]
 split <;> rfl
theorem ZbA (b:List Bd) (s:List UInt8) (v:Tm):(Z0Z b s v).length=b.length+1:=by
 have:=Z5a b s
 simp[Z0Z]; omega
theorem Z0Y {b:List Bd} {s:List UInt8} {v:Tm} {x:Bd}:x∈Z0Z b s v ↔ x=⟨s,v⟩\/x∈b:=by
 induction b with
 | nil=>simp[Z0Z,posB]
 | cons y r ih =>
  rw[Z4o]
  split
  ·rw[List.mem_cons,ih,List.mem_cons]
   constructor
   ·rintro (h | h | h)
    ·exact .inr (.inl h)
    ·exact .inl h
    ·exact .inr (.inr h)
   ·rintro (h | h | h)
    ·exact .inr (.inl h)
    ·exact .inl h
    ·exact .inr (.inr h)
  ·rw[List.mem_cons]
theorem Z3F: ∀ {b:List Bd} {s:List UInt8} {v:Tm},srtB b->getB b s=none->srtB (Z0Z b s v)
 | [],s,v,_,_=>List.pairwise_singleton ..
 | x::r,s,v,hs,hn=>by
  have hs':=List.pairwise_cons.1 hs
  rw[ZR] at hn
  have hne: ¬ x.n=s:=fun e=>by rw[if_pos e] at hn; cases hn
  rw[if_neg hne] at hn
  rw[Z4o]
  by_cases hx:x.n<s
  ·rw[if_pos hx]
   refine List.pairwise_cons.2 ⟨fun y hy=> ?_,Z3F hs'.2 hn⟩
   rcases Z0Y.1 hy with rfl | hy
   ·exact hx
   ·exact hs'.1 y hy
  ·rw[if_neg hx]
   have hlt:s<x.n:=Zkd (List.not_lt.1 hx) fun e=>hne e.symm
   refine List.pairwise_cons.2 ⟨fun y hy=> ?_,hs⟩
   rcases List.mem_cons.1 hy with rfl | hy
   ·exact hlt
   ·exact List.lt_trans hlt (hs'.1 y hy)
theorem Z1L: ∀ {b:List Bd},srtB b-> ∀ {x:Bd},x∈b->getB b x.n=some x.v
 | [],_,x,h=>by cases h
 | y::r,hs,x,h=>by
  have hs:=List.pairwise_cons.1 hs
  rw[ZR]
  rcases List.mem_cons.1 h with rfl | h
  ·rw[if_pos rfl]
  ·have hlt:=hs.1 x h
   rw[if_neg (fun e:y.n=x.n=>Z2Q x.n (by rw[e] at hlt; exact hlt))]
   exact Z1L hs.2 h
theorem Qb {b:List Bd} {s:List UInt8} {v:Tm} (h:getB b s=some v):⟨s,v⟩∈b:=by
 unfold getB at h
 cases hf:b.find? (fun x=>decide (x.n=s)) with
 | none=>rw[hf] at h; cases h
 | some x =>
  rw[hf] at h
  cases h
  have h1:=List.mem_of_find?_eq_some hf
  have h2:=List.find?_some hf
  have h2:x.n=s:=of_decide_eq_true h2
  rw[<- h2]; exact h1
def apK (b:List Bd) (k:Nat) (n:Int) (s:List UInt8) (l:List Tm):Tm:=if k=3 then (match getB b s with
 | some v=>v
 | none=> .mk k n s l) else .mk k n s l
mutual
def Tm.ap (b:List Bd):Tm->Tm
 | .mk k n s l=>apK b k n s (Tm.apL b l)
def Tm.apL (b:List Bd):List Tm->List Tm
 | []=>[]
 | a::r=>a.ap b::Tm.apL b r
end
theorem Z3X (b:List Bd): ∀ l:List Tm,Tm.apL b l=l.map (Tm.ap b)
 | []=>rfl
 | a::r=>by rw[Tm.apL,Z3X b r]; rfl
mutual
theorem Zm9 {B:Nat} {b:List Bd} (hb: ∀ x∈b,x.v.wf B): ∀ t:Tm,t.wf B->(t.ap b).wf B
 | .mk k n s l,h=>by
  simp only[Tm.wf] at h
  obtain⟨h1,h2,h3,h4,h5,h6⟩:=h
  have hl:(Tm.mk k n s (Tm.apL b l)).wf B:=by
   simp only[Tm.wf]
   exact⟨h1,h2,h3,h4,by rw[Z3X,List.length_map]; exact h5,Zd9 hb l h6⟩
  rw[Tm.ap]
  unfold apK
  split
  ·split
   ·rename_i v hv
    exact hb _ (Qb hv)
   ·exact hl
  ·exact hl
theorem Zd9 {B:Nat} {b:List Bd} (hb: ∀ x∈b,x.v.wf B): ∀ l:List Tm,Tm.wfL B l->Tm.wfL B (Tm.apL b l)
 | [],_=>trivial
 | a::r,h=>by
  simp only[Tm.wfL] at h
  simp only[Tm.apL,Tm.wfL]
  exact⟨Zm9 hb a h.1,Zd9 hb r h.2⟩
end
def smB:List Bd->Int->Int
 | [],n=>n
 | x::r,n=>if n<=150 then smB r (n+x.v.sz 150) else n
theorem Zcy: ∀ (b:List Bd) (n:Int),n<=smB b n
 | [],n=>Int.le_refl _
 | x::r,n=>by
  rw[smB]
  split
  ·have:=Zcy r (n+x.v.sz 150)
   have:=Z4S x.v 150
   omega
  ·exact Int.le_refl _
theorem Zcx: ∀ (b:List Bd) (n:Int),0<=n->smB b n<=150->n<=150/\ ∀ x∈b,x.v.sz 150<=150
 | [],n,_,h=>⟨h,fun x hx=>by cases hx⟩
 | x::r,n,h0,h=>by
  rw[smB] at h
  split at h
  ·rename_i hn
   have h1:=Z4S x.v 150
   have h2:=Zcy r (n+x.v.sz 150)
   have h3:=Zcx r (n+x.v.sz 150) (by omega) h
   refine⟨hn,fun y hy=> ?_⟩
   rcases List.mem_cons.1 hy with rfl | hy
   ·omega
   ·exact h3.2 y hy
  ·omega
def opD:Option Tm->D
 | some v=> .tuple [.agg v.cells,.bool true]
 | none=> .tuple [.agg [.int .u8 0,.int .i64 0,.str [],.slice [] []],.bool false]
end Go.Sx
/- BINDINGS ARE READ. -/
namespace Go.Sx
open Go.RowKit Go.Deep Go.ChangeShapes Go.WideShapes
def Bd.wf (B:Nat) (x:Bd):Prop:=x.n.length<=B/\x.v.wf B
def ZfM (P:Program) (U T:TypeId):Bool:=match P.underlying U with
 | some (.struct fs)=>match fs.toList with
  | [f0,f1]=>f0.offset == 0 && f1.offset == 1 && P.cellsOf f0.type == 1 && P.cellsOf f1.type == 4 && P.cellsOf U == 5 && decide (0<P.bytesOf U) && f1.type == T &&
   (match P.underlying f0.type with
    | some .string=>true
    | _=>false)
  | _=>false
 | _=>false
structure IsBd (P:Program) (U T:TypeId) (fs:Array Field) (f0 f1:Field):Prop where
 u:P.underlying U=some (.struct fs)
 l:fs.toList=[f0,f1]
 o0:f0.offset=0
 o1:f1.offset=1
 c0:P.cellsOf f0.type=1
 c1:P.cellsOf f1.type=4
 c:P.cellsOf U=5
 b:0<P.bytesOf U
 t:f1.type=T
 u0:P.underlying f0.type=some .string
theorem Z5n {P:Program} {U T:TypeId} (h:ZfM P U T=true): ∃ fs f0 f1,IsBd P U T fs f0 f1:=by
 unfold ZfM at h
 split at h
 ·rename_i fs hu
  split at h
  ·rename_i f0 f1 hl
   simp only[Bool.and_eq_true,beq_iff_eq,decide_eq_true_eq] at h
   obtain⟨⟨⟨⟨⟨⟨⟨h1,h2⟩,h3⟩,h4⟩,h5⟩,h6⟩,h7⟩,h8⟩:=h
   split at h8
   ·rename_i g0
    exact⟨fs,f0,f1,hu,hl,h1,h2,h3,h4,h5,h6,h7,g0⟩
   ·cases h8
  ·cases h
 ·cases h
variable {H:Type} {enc:TypeId × Value->H} {P:Program} {w:World}
theorem Zff {B:Nat} {U T:TypeId} {fs:Array Field} {f0 f1:Field} (hU:IsBd P U T fs f0 f1) (hT:Z5m P T=true) (fuel:Nat) (cs:List Value) (x:DataW H × List MemPlace) (ht:DataW.trod enc P w 0 (fun _=>true) true fuel U cs=some x)
  (hw:wOK B (x.1.weights P U)): ∃ t:Bd,t.wf B/\CRp (memW w) cs t.c:=by
 obtain⟨ts,t0,t1,t2,t3,hT⟩:=Z2b hT
 obtain⟨xs,n',_,rfl,hcl,hxl,hx⟩:=DataW.trod_struct hU.u ht
 have hsz:fs.size=2:=by rw[<- Array.length_toList,hU.l]; rfl
 have g: ∀ (i:Nat) (f:Field),fs.toList[i]? = some f->fs[i]? = some f:=fun i f h=>by simpa using h
 rw[hU.l] at g
 rw[hsz] at hxl
 obtain⟨x0,x1,rfl⟩: ∃ a b,xs=[a,b]:=by
  match xs,hxl with
  | [a,b],_=>exact⟨a,b,rfl⟩
 have h0:=hx 0 f0 (g 0 f0 rfl)
 have h1:=hx 1 f1 (g 1 f1 rfl)
 rw[hU.o0,hU.c0] at h0
 rw[hU.o1,hU.c1] at h1
 rw[hU.c] at hcl
 obtain⟨v0,r,rfl⟩: ∃ a b,cs=a::b:=by
  cases cs with
  | nil=>simp at hcl
  | cons a b=>exact⟨a,b,rfl⟩
 have hrl:r.length=4:=by simpa using hcl
 simp only[List.drop_zero,List.drop_succ_cons,List.take_succ_cons,List.take_zero,List.getElem?_cons_zero,List.getElem?_cons_succ] at h0 h1
 rw[List.take_of_length_le (by omega)] at h1
 have hws:wOK B (DataW.weightsEach P [f0.type,f1.type] [x0.1,x1.1]):=by
  simp only[DataW.weights,hU.u,hU.l,List.map_cons,List.map_nil] at hw
  exact hw
 simp only[DataW.weightsEach] at hws
 obtain⟨s2,e2,rfl,_⟩:=DataW.trod_string hU.u0 h0
 cases e2
 have hs2:s2.data.toList.length<=B:=hws _ (by simp[DataW.weights])
 rw[hU.t] at h1
 obtain⟨t,h2,h3⟩:=Z8G hT _ _ _ _ (Nat.le_refl _) h1 (fun y hy=>hws y (by rw[hU.t]; simp[hy]))
 refine⟨⟨s2.data.toList,t⟩,⟨hs2,h2⟩, ?_,fun j v d hv hd=> ?_⟩
 ·simp only[Bd.c,List.length_cons,h3.1]
 ·cases j with
  | zero =>
   simp only[List.getElem?_cons_zero,Option.some.injEq,Bd.c] at hv hd
   subst hv; subst hd
   have:=Rep.str (φ:=memW w) s2.data.toList
   simpa using this
  | succ j =>
   simp only[List.getElem?_cons_succ,Bd.c] at hv hd
   exact h3.2 j v d hv hd
theorem Zd7 {B:Nat}: ∀ {es:List (List D)},(∀ q∈es, ∃ t:Bd,t.wf B/\q=t.c)-> ∃ l:List Bd,es=bdL l/\ ∀ x∈l,x.wf B
 | [],_=>⟨[],rfl,fun x h=>by cases h⟩
 | e::r,h=>by
  obtain⟨t,h1,rfl⟩:=h e (List.mem_cons_self ..)
  obtain⟨l,rfl,h2⟩:=Zd7 (es:=r) fun x hx=>h x (List.mem_cons_of_mem _ hx)
  exact⟨t::l,rfl,fun x hx=>by
   rcases List.mem_cons.1 hx with rfl | hx
   ·exact h1
   ·exact h2 x hx⟩
section
variable [Globs] [Codes]
theorem Z8F {B:Nat} {S U T:TypeId} (hS:P.underlying S=some (.slice U)) (hU:ZfM P U T=true) (hT:Z5m P T=true):Reads P B S (fun a=> ∃ l:List Bd,(∀ x∈l,x.wf B)/\l.length<=B/\a= .slice (bdL l) []):=by
 obtain⟨fs,f0,f1,hU⟩:=Z5n hU
 intro H enc w r base fuel v x hx hw hok
 obtain⟨es,hl,hq,hc⟩:=Z1g (B:=B) (Q:=fun ds=> ∃ t:Bd,t.wf B/\ds=t.c) hS hU.b (by rw[hU.c]; decide) (fun ds ⟨t,_,h⟩=>by rw[h,Z9X,hU.c]) hx hw fun n cs' y _ hy hwy=>by
  obtain⟨t,h4,h5⟩:=Zff hU hT n cs' y hy hwy
  exact⟨t.c,⟨t,h4,rfl⟩,h5⟩
 obtain⟨l,rfl,hwl⟩:=Zd7 hq
 rw[Q6] at hl
 have hone:v.cells= #[v]:=by
  unfold Value.okWide at hok
  rw[hS] at hok
  simp only[Cell.okWide,hS] at hok
  cases v <;> simp_all [Cell.ok,Value.cells]
 rw[hone] at hc
 exact⟨_,.pure (hc.2 0 v _ rfl rfl),l,hwl,hl,rfl⟩
end
end Go.Sx
/- AN OWN ROW THAT A CALL HANDS BACK IS NO MORE WRITTEN TO. -/
namespace Go.Sx
open Go.RowKit
variable [Globs] [Codes]
variable {P:Program}
def memF (φ:Mem) (g n:Nat) (xs:List Value):Mem:=fun b o=>if b=g then (if o<n then xs[o]? else none) else φ b o
theorem CallL.frz {d:D} {args:List D} {ob:Obs} {sz:Nat} {e:TypeId} {es:List (List D)} {i0:Nat} (hc:CallL P d args ob fun r o=>r= .vec i0/\o=[(i0,.arr false sz e es)]):CallL P d args ob fun r o=>r= .vec i0/\o=[(i0,.arr true sz e es)]:=by
 intro F hF n φ h w v vs hp hv hvs
 refine (hc F hF n φ h w v vs hp hv hvs).mono ?_
 intro e' w' hpost
 obtain⟨u,r0,ob0,φ',h',rfl,⟨rfl,rfl⟩,hrv,ha⟩:=hpost.dest fun r o hr=>by rw[hr.1]; rfl
 have hob:=ha.loc.obj i0 (.arr false sz e es) (by simp[lk])
 obtain⟨h0,hsz,xs,hown,hrep,hb⟩:=hob
 rcases hown.2 with ⟨hnil,hlen⟩ | ⟨g,cap,cur,hv',hge,hblk,hn,hcap,hcs,htk⟩
 ·-- nothing there
  have hbn:blk (h' i0)=none:=by rw[hnil]; rfl
  refine .ret ⟨rfl,rfl⟩ (φ':=φ') (h':=h') hrv ⟨⟨ha.loc.one,ha.loc.glob.sub fun b ⟨i,hi,hbi⟩=> ?_,ha.loc.mem,fun i o ho=> ?_,fun i j b hi hj hbi hbj=> ?_⟩,ha.ext,ha.new,ha.frame,ha.hfix,ha.os,ha.tape,ha.output,ha.grow⟩
  ·simp only[lk] at hi
   split at hi
   ·rename_i e; subst e; rw[hbn] at hbi; cases hbi
   ·cases hi
  ·simp only[lk] at ho
   split at ho
   ·rename_i e; subst e; cases ho
    exact⟨h0,hsz,xs,hown,hrep,fun b hb'=>by rw[hbn] at hb'; cases hb'⟩
   ·cases ho
  ·simp only[lk] at hi hj
   split at hi
   ·split at hj
    ·omega
    ·cases hj
   ·cases hi
 ·have hbg:blk (h' i0)=some g:=by rw[hv']; rfl
  obtain⟨hog,hφ0⟩:=hb g hbg
  have hφ0: ∀ o,φ' g o=none:=fun o=>by rw[hφ0 o]; simp
  obtain⟨φ2,hφd⟩: ∃ m,m=memF φ' g (es.length*sz) xs:=⟨_,rfl⟩
  have hφn: ∀ b o,b≠g->φ2 b o=φ' b o:=fun b o hb=>by rw[hφd]; exact if_neg hb
  have hφm: ∀ b o v,φ' b o=some v->φ2 b o=some v:=fun b o v hv=>by
   have hbg:b≠g:=fun e=>by rw[e,hφ0 o] at hv; cases hv
   rw[hφn b o hbg]; exact hv
  have hφg: ∀ o,φ2 g o=if o<es.length*sz then xs[o]? else none:=fun o=>by rw[hφd]; exact if_pos rfl
  have hZe: ∀ b,ZOf [(i0,Ob.arr true sz e es)] h' b->ZOf [(i0,Ob.arr false sz e es)] h' b:=by
   rintro b ⟨i,hi,hbi⟩
   simp only[lk] at hi
   split at hi
   ·rename_i e; subst e; exact⟨i,by simp[lk],hbi⟩
   ·cases hi
  have hcell: ∀ o,o<es.length*sz->w'.cell? ⟨g,o,none⟩=xs[o]? := fun o ho=>by
   have h1:(cur.toList.take (es.length*sz))[o]? = xs[o]? := by rw[htk]
   rw[List.getElem?_take_of_lt ho,Array.getElem?_toList] at h1
   simp only[World.cell?,hblk]
   rw[<- h1]
   simp
  refine .ret ⟨rfl,rfl⟩ (φ':=φ2) (h':=h') (hrv.mono hφm) ⟨⟨ha.loc.one,⟨fun g' cs hgc=>(ha.loc.glob.ok g' cs hgc).mono hφm,fun g' arr hx=> ?_,fun g' hx=> ?_⟩,fun b o u hu=> ?_,fun i o ho=> ?_,fun i j b hi hj _ _=> ?_⟩,fun b o v hv=>hφm _ _ _ (ha.ext b o v hv),fun b o u h1 h2=> ?_,ha.frame,fun i hi=>ha.hfix i hi,ha.os,ha.tape,ha.output,ha.grow⟩
  ·obtain⟨hw,hz⟩:=ha.loc.glob.x g' arr hx
   exact⟨hw,fun hz'=>hz (hZe _ hz')⟩
  ·obtain⟨hw,hz⟩:=ha.loc.glob.i g' hx
   exact⟨hw,fun hz'=>hz (hZe _ hz')⟩
  ·by_cases hbg:b=g
   ·subst hbg
    rw[hφg] at hu
    split at hu
    ·rename_i ho; rw[hcell o ho]; exact hu
    ·cases hu
   ·rw[hφn b o hbg] at hu
    exact ha.loc.mem b o u hu
  ·simp only[lk] at ho
   split at ho
   ·rename_i e; subst e; cases ho
    refine⟨h0,hsz,xs,hown,fun i x j d hi hj=>(hrep i x j d hi hj).mono hφm,fun b hb'=> ?_⟩
    rw[hbg] at hb'
    cases hb'
    exact⟨hog,fun o=>by rw[hφg o]; simp⟩
   ·cases ho
  ·simp only[lk] at hi hj
   split at hi
   ·split at hj
    ·omega
    ·cases hj
   ·cases hi
  ·by_cases hbg:b=g
   ·exact hbg ▸ hog
   ·rw[hφn b o hbg] at h1
    exact ha.new b o u h1 h2
end Go.Sx
/- A ROW THAT IS HANDED BACK,AS PLAIN DATA. -/
namespace Go.Sx
open Go.RowKit
variable [Globs] [Codes]
variable {P:Program}
theorem CallL.vecR {d:D} {args:List D} {ob ob0:Obs} {sz k:Nat} {e:TypeId} {es:List (List D)} (hk:lk ob0 k=none) (hc:CallL P d args ob fun r o=>r= .vec k/\o=ob0++[(k,.arr true sz e es)]):CallL P d args ob fun r o=>r= .slice es []/\o=ob0:=by
 intro F hF n φ h w v vs hp hv hvs
 refine (hc F hF n φ h w v vs hp hv hvs).mono ?_
 intro e' w' hpost
 obtain⟨u,r0,ob1,φ',h',rfl,⟨rfl,rfl⟩,hrv,ha⟩:=hpost.dest fun r o hr=>by rw[hr.1]; rfl
 have hlk: ∀ i o,lk ob0 i=some o->lk (ob0++[(k,Ob.arr true sz e es)]) i=some o:=fun i o ho=>by rw[Qn,ho]; rfl
 have hsome: ∀ i,(lk ob0 i).isSome->(lk (ob0++[(k,Ob.arr true sz e es)]) i).isSome:=fun i hi=>by
  obtain⟨o,ho⟩:=Option.isSome_iff_exists.1 hi
  rw[hlk i o ho]; rfl
 have hz: ∀ b,ZOf ob0 h' b->ZOf (ob0++[(k,Ob.arr true sz e es)]) h' b:=fun b ⟨i,hi,hb⟩=>⟨i,hsome i hi,hb⟩
 have h2:=Z16 (obs:=lk (ob0++[(k,Ob.arr true sz e es)])) (fun i o hi _=>ha.loc.obj i o hi) hrv
 have e1:dvt (lk (ob0++[(k,Ob.arr true sz e es)])) (.vec k)= .slice es []:=by
  have hl:lk (ob0++[(k,Ob.arr true sz e es)]) k=some (.arr true sz e es):=by rw[Qn,hk]; simp[lk]
  simp only[dvt,dv,hl]
 rw[e1] at h2
 exact .ret ⟨rfl,rfl⟩ h2 ⟨⟨ha.loc.one,ha.loc.glob.sub hz,ha.loc.mem,fun i o ho=>ha.loc.obj i o (hlk i o ho),fun i j b hi hj=>ha.loc.sep i j b (hsome i hi) (hsome j hj)⟩,ha.ext,ha.new,ha.frame,ha.hfix,ha.os,ha.tape,ha.output,ha.grow⟩
end Go.Sx
/- OBJECTS WHOSE CELLS NAME ROWS THAT ARE NO MORE WRITTEN TO: told as what the rows hold,the rows forgotten. -/
namespace Go.Sx
open Go.RowKit
variable [Globs] [Codes]
variable {P:Program}
def Z2B (K:Nat->Bool):Obs->Obs
 | []=>[]
 | (i,o)::r=>if K i=true then (i,o)::Z2B K r else Z2B K r
theorem Z3B (K:Nat->Bool) (i:Nat): ∀ ob:Obs,lk (Z2B K ob) i=if K i=true then lk ob i else none
 | []=>by simp[Z2B,lk]
 | (j,o)::r=>by
  have ih:=Z3B K i r
  by_cases hj:K j=true
  ·simp only[Z2B,hj,if_true,lk]
   by_cases e:i=j
   ·subst e; simp[hj]
   ·simp only[e,if_false]; exact ih
  ·simp only[Z2B,hj,lk]
   by_cases e:i=j
   ·subst e; simp only[hj] at ih ⊢; simpa using ih
   ·simp only[e,if_false]; simpa using ih
def dvA (obs:Nat->Option Ob) (i j:Nat) (ob:Obs):Obs:=match ob with
 | []=>[]
 | (k,o)::r=>(k,if k=i then (match o with
  | .cells cs=> .cells (cs.modify j (dvt obs))
  | o=>o) else o)::dvA obs i j r
theorem Z93 (obs:Nat->Option Ob) (i j k:Nat): ∀ ob:Obs,lk (dvA obs i j ob) k=(lk ob k).map fun o=>if k=i then (match o with
  | .cells cs=> .cells (cs.modify j (dvt obs))
  | o=>o) else o
 | []=>rfl
 | (m,o)::r=>by
  simp only[dvA,lk]
  by_cases e:k=m
  ·subst e; simp
  ·simp only[e,if_false]; exact Z93 obs i j k r
theorem CallL.dvA {d:D} {args:List D} {ob:Obs} {R:D->Obs->Prop} (i j:Nat) (hc:CallL P d args ob R):CallL P d args ob fun r o=> ∃ o0,o=Go.Sx.dvA (lk o0) i j o0/\R r o0:=by
 intro F hF n φ h w v vs hp hv hvs
 refine (hc F hF n φ h w v vs hp hv hvs).mono ?_
 rintro e w' ⟨r,o,φ',h',he,hR,ha⟩
 have hs: ∀ k,(lk (Go.Sx.dvA (lk o) i j o) k).isSome->(lk o k).isSome:=fun k hk=>by
  rw[Z93] at hk; simpa using hk
 refine⟨r,_,φ',h',he,⟨o,rfl,hR⟩,⟨ha.loc.one,ha.loc.glob.sub fun b ⟨i,hi,hb⟩=>⟨i,hs i hi,hb⟩,ha.loc.mem,fun k x hx=> ?_,fun i j b hi hj=>ha.loc.sep i j b (hs i hi) (hs j hj)⟩,ha.ext,ha.new,ha.frame,ha.hfix,ha.os,ha.tape,ha.output,ha.grow⟩
 rw[Z93] at hx
 obtain⟨y,hy,rfl⟩:=Option.map_eq_some_iff.1 hx
 have hob:=ha.loc.obj k y hy
 by_cases e:k=i
 ·rw[if_pos e]
  cases y with
  | cells cs =>
   obtain⟨b,vals,ty,h1,h2,h3,h4,h5,h6⟩:=hob
   refine⟨b,vals,ty,h1,h2,h3,by simpa using h4,fun m d hd=> ?_,h6⟩
   rw[List.getElem?_modify] at hd
   cases hq:cs[m]? with
   | none=>rw[hq] at hd; cases hd
   | some d' =>
    rw[hq] at hd
    simp only[Option.map_eq_map,Option.map_some,Option.some.injEq] at hd
    subst hd
    split
    ·exact Z16 (obs:=lk o) (fun i ob hi _=>ha.loc.obj i ob hi) (h5 m d' hq)
    ·exact h5 m d' hq
  | _=>exact hob
 ·rw[if_neg e]; exact hob
theorem CallL.keep {d:D} {args:List D} {ob:Obs} {R:D->Obs->Prop} (K:Nat->Bool) (hc:CallL P d args ob R):CallL P d args ob fun r o=> ∃ o0,o=Z2B K o0/\R r o0:=by
 intro F hF n φ h w v vs hp hv hvs
 refine (hc F hF n φ h w v vs hp hv hvs).mono ?_
 rintro e w' ⟨r,o,φ',h',he,hR,ha⟩
 have hs: ∀ i,(lk (Z2B K o) i).isSome->(lk o i).isSome:=fun i hi=>by
  rw[Z3B] at hi
  split at hi
  ·exact hi
  ·cases hi
 refine⟨r,_,φ',h',he,⟨o,rfl,hR⟩,⟨ha.loc.one,ha.loc.glob.sub fun b ⟨i,hi,hb⟩=>⟨i,hs i hi,hb⟩,ha.loc.mem,fun i x hx=> ?_,fun i j b hi hj=>ha.loc.sep i j b (hs i hi) (hs j hj)⟩,ha.ext,ha.new,ha.frame,ha.hfix,ha.os,ha.tape,ha.output,ha.grow⟩
 rw[Z3B] at hx
 split at hx
 ·exact ha.loc.obj i x hx
 ·cases hx
end Go.Sx
/- A NIL ROW IN AN OBJECT's CELL: told as a row of our own that holds nothing. -/
namespace Go.Sx
open Go.RowKit
variable [Globs] [Codes]
variable {P:Program}
theorem Z3z {φ:Mem} {h:Nat->Value} {x:Value} {v:Value} {d:D} (r:RV φ h v d) (hm:D.men 1 d=false):RV φ (updH h 1 x) v d:=r.upd 1 x hm
theorem Z6S {φ:Mem} {h:Nat->Value} {x:Value}: ∀ {vs:List Value} {ds:List D},RVL φ h vs ds->D.menL 1 ds=false->RVL φ (updH h 1 x) vs ds
 | [],[],_,_=>trivial
 | _::_,_::_,hr,hm=>by
  simp only[D.menL,Bool.or_eq_false_iff] at hm
  exact⟨Z3z hr.1 hm.1,Z6S hr.2 hm.2⟩
 | [],_::_,hr,_=>hr.elim
 | _::_,[],hr,_=>hr.elim
theorem CallL.nilO {d:D} {args:List D} {R:D->Obs->Prop} {c0:D} {sz:Nat} {e:TypeId} (hsz:0<sz) (hd:D.men 1 d=false) (ha:D.menL 1 args=false) (h0:D.men 1 c0=false)
  (hc:CallL P d args [(0,.cells [c0,.vec 1]),(1,.arr true sz e [])] R):CallL P d args [(0,.cells [c0,.nils])] R:=by
 intro F hF n φ h w v vs hp hv hvs
 obtain⟨h1,hh1⟩: ∃ x,x=updH h 1 (.slice none 0 0):=⟨_,rfl⟩
 have e0:h1 0=h 0:=by rw[hh1]; exact Z7 _ _ (by omega)
 have e1:h1 1= .slice none 0 0:=by rw[hh1]; exact Zf _ _ _
 have hz: ∀ b,ZOf [(0,Ob.cells [c0,.vec 1]),(1,.arr true sz e [])] h1 b ↔ ZOf [(0,Ob.cells [c0,.nils])] h b:=fun b=>by
  constructor
  ·rintro⟨i,hi,hb⟩
   by_cases q:i=0
   ·subst q; rw[e0] at hb; exact⟨0,by simp[lk],hb⟩
   ·by_cases q1:i=1
    ·subst q1; rw[e1] at hb; cases hb
    ·simp[lk,q,q1] at hi
  ·rintro⟨i,hi,hb⟩
   by_cases q:i=0
   ·subst q; exact⟨0,by simp[lk],by rw[e0]; exact hb⟩
   ·simp[lk,q] at hi
 have hone:HOne h1:=fun i=>by
  rw[hh1]
  by_cases q:i=1
  ·subst q; rw[Zf]; rfl
  ·rw[Z7 _ _ q]; exact hp.one i
 have hl:Loc (fun _=>True) [(0,Ob.cells [c0,.vec 1]),(1,.arr true sz e [])] φ h1 w:=by
  refine⟨hone,hp.glob.sub fun b hb=>(hz b).1 hb,hp.mem,fun i o ho=> ?_,fun i j b hi hj hbi hbj=> ?_⟩
  ·by_cases q:i=0
   ·subst q
    simp only[lk,if_true,Option.some.injEq] at ho
    subst ho
    obtain⟨b,vals,ty,q1,q2,q3,q4,q5,q6⟩:=hp.obj 0 (.cells [c0,.nils]) (by simp[lk])
    refine⟨b,vals,ty,by rw[e0]; exact q1,q2,q3,by simpa using q4,fun j d hd=> ?_,q6⟩
    match j,hd with
    | 0,hd =>
     simp only[List.getElem?_cons_zero,Option.some.injEq] at hd
     subst hd
     rw[hh1]
     exact Z3z (q5 0 _ rfl) h0
    | 1,hd =>
     simp only[List.getElem?_cons_succ,List.getElem?_cons_zero,Option.some.injEq] at hd
     subst hd
     have:=(q5 1 _ rfl).nils_inv
     rw[this,<- e1]
     exact .vec 1 (by rw[e1]; rfl)
    | j+2,hd=>simp at hd
   ·by_cases q1:i=1
    ·subst q1
     simp only[lk] at ho
     have ho:o= .arr true sz e []:=by simpa using ho.symm
     subst ho
     rw[e1]
     exact⟨hsz,by simp,[],World.ownsRow_nil w 0 e sz,by simp,fun b hb=>by cases hb⟩
    ·simp[lk,q,q1] at ho
  ·have hx: ∀ i b,blk (h1 i)=some b->(lk [(0,Ob.cells [c0,.vec 1]),(1,.arr true sz e [])] i).isSome->i=0:=fun i b hb hi=>by
    by_cases q:i=0
    ·exact q
    ·by_cases q1:i=1
     ·subst q1; rw[e1] at hb; cases hb
     ·simp[lk,q,q1] at hi
   rw[hx i b hbi hi,hx j b hbj hj]
 have hv1:RV φ h1 v d:=by rw[hh1]; exact Z3z hv hd
 have hvs1:RVL φ h1 vs.toList args:=by rw[hh1]; exact Z6S hvs ha
 refine (hc F hF n φ h1 w v vs hl hv1 hvs1).mono ?_
 rintro en w' ⟨r,o,φ',h',he,hR,haf⟩
 have hzz:(fun b=>w.heap.size<=b\/ZOf [(0,Ob.cells [c0,.vec 1]),(1,.arr true sz e [])] h1 b)=fun b=>w.heap.size<=b\/ZOf [(0,Ob.cells [c0,.nils])] h b:=funext fun b=>propext (or_congr Iff.rfl (hz b))
 have hloc:=haf.loc
 rw[hzz] at hloc
 refine⟨r,o,φ',h',he,hR,⟨hloc,haf.ext,fun b o v q1 q2=>(haf.new b o v q1 q2).imp_right (hz b).1,fun b q1 q2=>haf.frame b q1 fun q=>q2 ((hz b).1 q),fun i hi=> ?_,haf.os,haf.tape,haf.output,haf.grow⟩⟩
 by_cases q:i=0
 ·subst q; rw[haf.hfix 0 (by simp[lk]),e0]
 ·simp[lk,q] at hi
end Go.Sx
/- A ROW IN AN OBJECT's CELL UNDER A FRESH NAME. -/
namespace Go.Sx
open Go.RowKit
variable [Globs] [Codes]
variable {P:Program}
theorem CallL.re2 {d:D} {args:List D} {ob:Obs} {r0 c0:D} {sz:Nat} {e:TypeId} {os:List (List D)} (hob:lk ob 2=none) (h0:D.men 2 c0=false) (hr0:D.men 2 r0=false)
  (hc:CallL P d args ob fun r o=>r=r0/\o=[(0,.cells [c0,.vec 1]),(1,.arr true sz e os)]):CallL P d args ob fun r o=>r=r0/\o=[(0,.cells [c0,.vec 2]),(2,.arr true sz e os)]:=by
 intro F hF n φ h w v vs hp hv hvs
 refine (hc F hF n φ h w v vs hp hv hvs).mono ?_
 rintro en w' ⟨r,o,φ',h',he,⟨rfl,rfl⟩,ha⟩
 obtain⟨h2,hh2⟩: ∃ x,x=updH h' 2 (h' 1):=⟨_,rfl⟩
 have e0:h2 0=h' 0:=by rw[hh2]; exact Z7 _ _ (by omega)
 have e2:h2 2=h' 1:=by rw[hh2]; exact Zf _ _ _
 have o0:=ha.loc.obj 0 (.cells [c0,.vec 1]) (by simp[lk])
 have o1:=ha.loc.obj 1 (.arr true sz e os) (by simp[lk])
 have hx: ∀ i,(lk [(0,Ob.cells [c0,.vec 2]),(2,.arr true sz e os)] i).isSome->i=0\/i=2:=fun i hi=>by
  by_cases q:i=0
  ·exact .inl q
  ·by_cases q1:i=2
   ·exact .inr q1
   ·simp[lk,q,q1] at hi
 have s0:(lk [(0,Ob.cells [c0,.vec 1]),(1,.arr true sz e os)] 0).isSome:=by simp[lk]
 have s1:(lk [(0,Ob.cells [c0,.vec 1]),(1,.arr true sz e os)] 1).isSome:=by simp[lk]
 have hz: ∀ b,ZOf [(0,Ob.cells [c0,.vec 2]),(2,.arr true sz e os)] h2 b->ZOf [(0,Ob.cells [c0,.vec 1]),(1,.arr true sz e os)] h' b:=by
  rintro b ⟨i,hi,hb⟩
  rcases hx i hi with rfl | rfl
  ·exact⟨0,s0,by rw[<- e0]; exact hb⟩
  ·exact⟨1,s1,by rw[<- e2]; exact hb⟩
 have hone:HOne h2:=fun i=>by
  rw[hh2]
  by_cases q:i=2
  ·subst q; rw[Zf]; exact ha.loc.one 1
  ·rw[Z7 _ _ q]; exact ha.loc.one i
 refine⟨r,_,φ',h2, ?_,⟨rfl,rfl⟩,⟨⟨hone,ha.loc.glob.sub hz,ha.loc.mem,fun i x hi=> ?_,fun i j b hi hj hbi hbj=> ?_⟩,ha.ext,ha.new,ha.frame,fun i hi=> ?_,ha.os,ha.tape,ha.output,ha.grow⟩⟩
 ·rcases he with ⟨u,q1,q2⟩ | q
  ·exact .inl ⟨u,q1,by rw[hh2]; exact q2.upd 2 _ hr0⟩
  ·exact .inr q
 ·rcases hx i (by rw[hi]; rfl) with rfl | rfl
  ·have hi:x= .cells [c0,.vec 2]:=by simpa [lk] using hi.symm
   subst hi
   obtain⟨b,vals,ty,q1,q2,q3,q4,q5,q6⟩:=o0
   refine⟨b,vals,ty,by rw[e0]; exact q1,q2,q3,by simpa using q4,fun j d hd=> ?_,q6⟩
   match j,hd with
   | 0,hd =>
    simp only[List.getElem?_cons_zero,Option.some.injEq] at hd
    subst hd
    rw[hh2]
    exact (q5 0 _ rfl).upd 2 _ h0
   | 1,hd =>
    simp only[List.getElem?_cons_succ,List.getElem?_cons_zero,Option.some.injEq] at hd
    subst hd
    have q7:=q5 1 _ rfl
    have q8:=q7.vec_live
    rw[q7.vec_inv,<- e2]
    exact .vec 2 (by rw[e2]; exact q8)
   | j+2,hd=>simp at hd
  ·have hi:x= .arr true sz e os:=by simpa [lk] using hi.symm
   subst hi
   rw[e2]
   exact o1
 ·rcases hx i hi with rfl | rfl <;> rcases hx j hj with rfl | rfl
  ·rfl
  ·rw[e0] at hbi; rw[e2] at hbj
   have:=ha.loc.sep 0 1 b s0 s1 hbi hbj
   cases this
  ·rw[e2] at hbi; rw[e0] at hbj
   have:=ha.loc.sep 1 0 b s1 s0 hbi hbj
   cases this
  ·rfl
 ·have hn:i≠2:=fun q=>by subst q; rw[hob] at hi; cases hi
  rw[hh2,Z7 _ _ hn]
  exact ha.hfix i hi
end Go.Sx
/- EVALUATION OF TERMS WITHOUT INTERVALS,PLAIN. -/
namespace Go.Sx
def Z8V:List Tm->Option (List Int)
 | []=>some []
 | a::r=>match a.int?,Z8V r with
  | some n,some l=>some (n::l)
  | _,_=>none
def ZoH (a:Option Tm) (r:Option (List Tm)):Option (List Tm):=match a,r with
 | some x,some l=>some (x::l)
 | _,_=>none
def evK (k:Nat) (s:List UInt8) (o:Option (List Tm)):Option Tm:=match o with
 | none=>none
 | some vs=>if k=5 then (match Z8V vs with
  | some l=>(QP s l).map numT
  | none=>none) else some (.mk 4 0 s vs)
mutual
def Tm.ev:Tm->Option Tm
 | .mk k n s l=>if l.isEmpty=true then some (.mk k n s []) else evK k s (Tm.evL l)
def Tm.evL:List Tm->Option (List Tm)
 | []=>some []
 | a::r=>ZoH a.ev (Tm.evL r)
end
def Tm.ns:Tm->Bool
 | .mk k _ _ _=> !decide (k=6)
def Tm.eval (t:Tm):Option Tm:=if (t.valid && (t.all Tm.gr && t.all Tm.ns))=true then t.ev else none
def Tm.ex (t:Tm):List Tm:=t.ev.toList
theorem Z7P {s:List UInt8} {l:List Int} {n:Int} (h:QP s l=some n):Zj n=true:=by
 unfold QP at h
 split at h
 ·rename_i hf
  split at h
  ·split at h
   ·cases h
    rename_i a _
    have:=Zo.1 (show Zj a=true by simpa using hf)
    rw[Zo]; omega
   ·cases h
  ·unfold fitO at h
   split at h
   ·split at h
    ·rename_i hn; cases h; exact hn
    ·cases h
   ·cases h
  ·cases h
 ·cases h
theorem Z7c {k:Nat} {n:Int} {s:List UInt8} {l:List Tm} (h:Tm.shape (.mk k n s l)=true) (hl:l≠[]) (h6:k≠6):k=4/\n=0/\Lx.symbolB s=true/\l.length<=8\/k=5:=by
 have h1:l.length≠0:=fun e=>hl (List.length_eq_zero_iff.1 e)
 simp only[Tm.shape,Q2] at h
 (repeat' split at h) <;> simp_all <;> omega
theorem Z7v {n:Int} (h:Zj n=true):(numT n).all Tm.plain=true/\(numT n).all Tm.shape=true/\(numT n).depth=1:=by
 rw[Zo] at h
 refine⟨rfl, ?_,rfl⟩
 simp[numT,Tm.all,Tm.allL,Tm.shape,Q2,h.1,h.2]
theorem Z1Q {t:Tm}:t.valid=true ↔ t.depth<=12/\t.all Tm.shape=true:=by simp[Tm.valid]
def Tm.sp (t:Tm):Bool:= !t.all Tm.ns
theorem ZH (a b:List Tm):Tm.cellsL (a++b)=Tm.cellsL a++Tm.cellsL b:=by simp[Zp]
theorem Z0y (row:List Tm) (i kx:Nat) (nx:Int) (sx:List UInt8) (ax:List Tm):(Tm.cellsL row).set i [.int .u8 (kx:Int),.int .i64 nx,.str sx,.slice (Tm.cellsL ax) []]=Tm.cellsL (row.set i (.mk kx nx sx ax)):=by
 rw[Zp row,Zp (row.set i _),List.map_set]; rfl
def outF (s:List UInt8) (row acc:List Tm):List Tm:=acc++[.mk 4 0 s row]
theorem Z1H (s:List UInt8) (row acc:List Tm):acc.length<=(outF s row acc).length:=by simp[outF]
theorem Z2X (s:List UInt8): ∀ (l:List (List Tm)) (acc:List Tm),l.foldl (fun b r=>outF s ([]++r) b) acc=acc++l.map (fun r=> .mk 4 0 s r)
 | [],acc=>by simp
 | a::r,acc=>by rw[List.foldl_cons,Z2X s r]; simp[outF]
theorem Z9g (s:List UInt8) (L:List (List Tm)) (row:List Tm) (h:row.length=L.length):(Zb (outF s) L 0 (row,[])).2=(Zx L).map (fun r=> .mk 4 0 s r):=by
 rw[(Z0x (outF s) L 0 row [] (by omega)).1,List.take_zero,Z2X,List.nil_append]
theorem QK {α:Type}: ∀ L:List (List α),(Zx L).length=(L.map List.length).prod
 | []=>rfl
 | l::ls=>by
  rw[Zx,List.map_cons,List.prod_cons,<- QK ls]
  induction l with
  | nil=>simp
  | cons a r ih=>simp only[List.flatMap_cons,List.length_append,List.length_map,List.length_cons,ih,Nat.succ_mul,Nat.add_comm]
end Go.Sx
/- EXPANSIONS AT EVERY TERM,PLAIN. -/
namespace Go.Sx
def Z1z (x:Int):List Int->List Int
 | []=>[x]
 | y::r=>if x<y then x::y::r else if x=y then y::r else y::Z1z x r
def Z0P (l:List Int):List Int:=l.foldr Z1z []
theorem Z2d {x z:Int}: ∀ {l:List Int},z∈Z1z x l ↔ z=x\/z∈l
 | []=>by simp[Z1z]
 | y::r=>by
  unfold Z1z
  split
  ·simp
  ·split
   ·rename_i h; subst h; simp
   ·rw[List.mem_cons,Z2d (l:=r),List.mem_cons]
    constructor
    ·rintro (h | h | h)
     ·exact .inr (.inl h)
     ·exact .inl h
     ·exact .inr (.inr h)
    ·rintro (h | h | h)
     ·exact .inr (.inl h)
     ·exact .inl h
     ·exact .inr (.inr h)
theorem Z6y {x:Int}: ∀ {l:List Int},l.Pairwise (· < ·)->(Z1z x l).Pairwise (· < ·)
 | [],_=>by simp[Z1z]
 | y::r,h=>by
  have hh:=List.pairwise_cons.1 h
  unfold Z1z
  split
  ·rename_i hx
   refine List.pairwise_cons.2 ⟨fun z hz=> ?_,h⟩
   rcases List.mem_cons.1 hz with rfl | hz
   ·exact hx
   ·have:=hh.1 z hz; omega
  ·split
   ·exact h
   ·refine List.pairwise_cons.2 ⟨fun z hz=> ?_,Z6y hh.2⟩
    rcases Z2d.1 hz with rfl | hz
    ·omega
    ·exact hh.1 z hz
theorem Z0O: ∀ l:List Int,(Z0P l).Pairwise (· < ·)
 | []=>List.Pairwise.nil
 | x::r=>Z6y (Z0O r)
theorem QJ {z:Int}: ∀ {l:List Int},z∈Z0P l ↔ z∈l
 | []=>Iff.rfl
 | x::r=>by
  show z∈Z1z x (Z0P r) ↔ _
  rw[Z2d,QJ (l:=r),List.mem_cons]
theorem Z8I: ∀ {a b:List Int},a.Pairwise (· < ·)->b.Pairwise (· < ·)->(∀ x,x∈a ↔ x∈b)->a=b
 | [],[],_,_,_=>rfl
 | [],y::b,_,_,h=>by have:=(h y).2 (List.mem_cons_self ..); cases this
 | x::a,[],_,_,h=>by have:=(h x).1 (List.mem_cons_self ..); cases this
 | x::a,y::b,ha,hb,h=>by
  have ha':=List.pairwise_cons.1 ha
  have hb':=List.pairwise_cons.1 hb
  have e:x=y:=by
   rcases List.mem_cons.1 ((h x).1 (List.mem_cons_self ..)) with e | h1
   ·exact e
   ·rcases List.mem_cons.1 ((h y).2 (List.mem_cons_self ..)) with e | h2
    ·exact e.symm
    ·have:=ha'.1 y h2; have:=hb'.1 x h1; omega
  subst e
  rw[Z8I ha'.2 hb'.2 fun z=> ?_]
  constructor
  ·intro hz
   rcases List.mem_cons.1 ((h z).1 (List.mem_cons_of_mem _ hz)) with e | h1
   ·have:=ha'.1 z hz; omega
   ·exact h1
  ·intro hz
   rcases List.mem_cons.1 ((h z).2 (List.mem_cons_of_mem _ hz)) with e | h1
   ·have:=hb'.1 z hz; omega
   ·exact h1
theorem Z7b {l q:List Int} (hp:q.Perm l) (hq:q.Pairwise (· < ·)):q=Z0P l:=Z8I hq (Z0O l) fun x=>by rw[QJ]; exact hp.mem_iff
theorem Z4n {x:Int}: ∀ {l:List Int},x ∉ l->(Z1z x l).length=l.length+1
 | [],_=>rfl
 | y::r,h=>by
  unfold Z1z
  split
  ·rfl
  ·split
   ·rename_i h1 h2; subst h2; exact absurd (List.mem_cons_self ..) h
   ·rw[List.length_cons,Z4n fun hm=>h (List.mem_cons_of_mem _ hm),List.length_cons]
theorem Z1V: ∀ {l:List Int},l.Nodup->(Z0P l).length=l.length
 | [],_=>rfl
 | x::r,h=>by
  have h':=List.nodup_cons.1 h
  show (Z1z x (Z0P r)).length=_
  rw[Z4n (fun hm=>h'.1 (QJ.1 hm)),Z1V h'.2,List.length_cons]
theorem ZfN {n:Int} {acc:List Int} (h:acc.Nodup):(insI n acc).Nodup:=by
 unfold insI
 split
 ·exact h
 ·rename_i hn
  rw[List.nodup_append]
  exact⟨h,by simp,fun a ha b hb e=>by simp at hb; subst hb; subst e; exact hn ha⟩
theorem Zby {n x:Int} {acc:List Int}:x∈insI n acc ↔ x∈acc\/x=n:=by
 unfold insI
 split
 ·rename_i h
  exact⟨.inl,fun h1=>h1.elim id fun e=>e ▸ h⟩
 ·simp
theorem Zk0 {s:List UInt8} {row acc:List Int} (h:acc.Nodup):(opB s row acc).Nodup:=by
 unfold opB
 split
 ·exact ZfN h
 ·exact h
theorem Zfp {s:List UInt8} {row acc:List Int} {x:Int}:x∈opB s row acc ↔ x∈acc\/QP s row=some x:=by
 unfold opB
 split
 ·rename_i n hn; rw[Zby,hn]; simp[eq_comm]
 ·rename_i hn; rw[hn]; simp
def opF (s:List UInt8) (rows:List (List Int)):List Int:=rows.foldl (fun b r=>opB s r b) []
theorem Z8N (s:List UInt8): ∀ (rows:List (List Int)) {acc:List Int},acc.Nodup->(rows.foldl (fun b r=>opB s r b) acc).Nodup
 | [],_,h=>h
 | r::l,_,h=>Z8N s l (Zk0 h)
theorem Z6f (s:List UInt8) {x:Int}: ∀ (rows:List (List Int)) {acc:List Int},x∈rows.foldl (fun b r=>opB s r b) acc ↔ x∈acc\/ ∃ r∈rows,QP s r=some x
 | [],acc=>by simp
 | r::l,acc=>by
  rw[List.foldl_cons,Z6f s l,Zfp]
  constructor
  ·rintro ((h | h) | ⟨q,hq,h⟩)
   ·exact .inl h
   ·exact .inr ⟨r,List.mem_cons_self ..,h⟩
   ·exact .inr ⟨q,List.mem_cons_of_mem _ hq,h⟩
  ·rintro (h | ⟨q,hq,h⟩)
   ·exact .inl (.inl h)
   ·rcases List.mem_cons.1 hq with rfl | hq
    ·exact .inl (.inr h)
    ·exact .inr ⟨q,hq,h⟩
theorem Zfo {s:List UInt8} {rows:List (List Int)} {x:Int}:x∈opF s rows ↔ ∃ r∈rows,QP s r=some x:=by
 unfold opF
 rw[Z6f]
 simp
def upto (a:Int):Nat->List Int
 | 0=>[]
 | n+1=>a::upto (a+1) n
theorem Z5V {x:Int}: ∀ {n:Nat} {a:Int},x∈upto a n ↔ a<=x/\x<a+n
 | 0,a=>by simp only[upto,List.not_mem_nil,false_iff]; omega
 | n+1,a=>by
  rw[upto,List.mem_cons,Z5V (n:=n)]
  omega
theorem Z5W: ∀ {n:Nat} {a:Int},(upto a n).length=n
 | 0,_=>rfl
 | n+1,a=>by rw[upto,List.length_cons,Z5W]
def minI:List Int->Int
 | []=>0
 | a::r=>r.foldl min a
def maxI:List Int->Int
 | []=>0
 | a::r=>r.foldl max a
def ivl (lo hi:List Int):Option (List Int) :=
 if lo.isEmpty=true\/hi.isEmpty=true then some [] else if maxI hi-minI lo+1<=1000 then some (upto (minI lo) (maxI hi-minI lo+1).toNat) else none
def opX (s:List UInt8) (parts:List (List Tm)):Option (List Tm) :=
 if (opF s (Zx (parts.map Zd))).length<=1000 then some ((Z0P (opF s (Zx (parts.map Zd)))).map numT) else none
def fnX (s:List UInt8) (parts:List (List Tm)):Option (List Tm) :=
 if parts.any List.isEmpty=true then some [] else if (Zx parts).length<=1000 then some ((Zx parts).map fun r=> .mk 4 0 s r) else none
def xpK (k:Nat) (s:List UInt8) (o:Option (List (List Tm))):Option (List Tm):=match o with
 | none=>none
 | some ps=>if k=6 then (ivl (Zd (ps.getD 0 [])) (Zd (ps.getD 1 []))).map (List.map numT) else if k=5 then opX s ps else fnX s ps
def ZbU (a:Option (List Tm)) (r:Option (List (List Tm))):Option (List (List Tm)):=match a,r with
 | some x,some l=>some (x::l)
 | _,_=>none
mutual
def Tm.xp:Tm->Option (List Tm)
 | .mk k n s l=>if l.isEmpty=true then some [.mk k n s []] else xpK k s (Tm.xpL l)
def Tm.xpL:List Tm->Option (List (List Tm))
 | []=>some []
 | a::r=>ZbU a.xp (Tm.xpL r)
end
theorem Z0F: ∀ {l:List Tm} {ps:List (List Tm)},Tm.xpL l=some ps->ps.length=l.length
 | [],_,h=>by cases h; rfl
 | a::r,ps,h=>by
  rw[Tm.xpL] at h
  unfold ZbU at h
  split at h
  ·rename_i x q h1 h2; cases h; simp[Z0F h2]
  ·cases h
theorem Z4N: ∀ {l:List Tm} {ps:List (List Tm)},Tm.xpL l=some ps-> ∀ (i:Nat) (h:i<l.length) (h':i<ps.length),l[i].xp=some ps[i]
 | [],_,h,i,hi,_=>by simp at hi
 | a::r,ps,h,i,hi,hi'=>by
  rw[Tm.xpL] at h
  unfold ZbU at h
  split at h
  ·rename_i x q h1 h2
   cases h
   cases i with
   | zero=>exact h1
   | succ i=>exact Z4N h2 i (by simpa using hi) (by simpa using hi')
  ·cases h
theorem Z0E {l:List Tm} {ps:List (List Tm)} (h:Tm.xpL l=some ps) {p:List Tm} (hp:p∈ps): ∃ x∈l,x.xp=some p:=by
 obtain⟨i,hi,rfl⟩:=List.getElem_of_mem hp
 have hl:=Z0F h
 exact⟨l[i],List.getElem_mem _,Z4N h i (by omega) hi⟩
theorem Z26 {α:Type} {r:List α}: ∀ {L:List (List α)},r∈Zx L ↔ r.length=L.length/\ ∀ (i:Nat) (h:i<r.length) (h':i<L.length),r[i]∈L[i]:=by
 intro L
 induction L generalizing r with
 | nil =>
  simp only[Zx,List.mem_singleton]
  constructor
  ·rintro rfl; exact⟨rfl,fun i h=>by simp at h⟩
  ·rintro⟨h,_⟩; exact List.length_eq_zero_iff.1 h
 | cons l ls ih =>
  simp only[Zx,List.mem_flatMap,List.mem_map]
  constructor
  ·rintro⟨x,hx,q,hq,rfl⟩
   obtain⟨h1,h2⟩:=ih.1 hq
   refine⟨by simp[h1],fun i hi hi'=> ?_⟩
   cases i with
   | zero=>exact hx
   | succ i=>exact h2 i (by simpa using hi) (by simpa using hi')
  ·rintro⟨h1,h2⟩
   cases r with
   | nil=>simp at h1
   | cons x q =>
    exact⟨x,h2 0 (by simp) (by simp),q,ih.2 ⟨by simpa using h1,fun i hi hi'=>by have:=h2 (i+1) (by simpa using hi) (by simpa using hi'); simpa only[List.getElem_cons_succ] using this⟩,rfl⟩
theorem Z4i {α:Type} {r:List α} {L:List (List α)} (h:r∈Zx L) {x:α} (hx:x∈r): ∃ p∈L,x∈p:=by
 obtain⟨h1,h2⟩:=Z26.1 h
 obtain⟨i,hi,rfl⟩:=List.getElem_of_mem hx
 exact⟨L[i],List.getElem_mem (by omega),h2 i hi (by omega)⟩
theorem Z2c {l:List Tm} {n:Int}:n∈Zd l ↔ ∃ x∈l,x.int? = some n:=by
 unfold Zd
 rw[List.mem_filterMap]
theorem Z14: ∀ (l:List Int) (a:Int),l.foldl min a=a\/l.foldl min a∈l
 | [],a=> .inl rfl
 | x::r,a=>by
  rw[List.foldl_cons]
  rcases Z14 r (min a x) with h | h
  ·rw[h]
   rcases Int.le_total a x with h1 | h1
   ·rw[Int.min_eq_left h1]; exact .inl rfl
   ·rw[Int.min_eq_right h1]; exact .inr (List.mem_cons_self ..)
  ·exact .inr (List.mem_cons_of_mem _ h)
theorem Z3y {l:List Int} (h:l≠[]):minI l∈l:=by
 cases l with
 | nil=>exact absurd rfl h
 | cons a r =>
  rcases Z14 r a with e | e
  ·show r.foldl min a∈a::r; rw[e]; exact List.mem_cons_self ..
  ·exact List.mem_cons_of_mem _ e
theorem Z15: ∀ (l:List Int) (a:Int),l.foldl max a=a\/l.foldl max a∈l
 | [],a=> .inl rfl
 | x::r,a=>by
  rw[List.foldl_cons]
  rcases Z15 r (max a x) with h | h
  ·rw[h]
   rcases Int.le_total a x with h1 | h1
   ·rw[Int.max_eq_right h1]; exact .inr (List.mem_cons_self ..)
   ·rw[Int.max_eq_left h1]; exact .inl rfl
  ·exact .inr (List.mem_cons_of_mem _ h)
theorem Z3A {l:List Int} (h:l≠[]):maxI l∈l:=by
 cases l with
 | nil=>exact absurd rfl h
 | cons a r =>
  rcases Z15 r a with e | e
  ·show r.foldl max a∈a::r; rw[e]; exact List.mem_cons_self ..
  ·exact List.mem_cons_of_mem _ e
theorem ZfJ {lo hi L:List Int} (h:ivl lo hi=some L) {x:Int} (hx:x∈L): ∃ a∈lo, ∃ b∈hi,a<=x/\x<=b:=by
 unfold ivl at h
 split at h
 ·cases h; cases hx
 ·rename_i hn
  split at h
  ·cases h
   have:=Z5V.1 hx
   have h1:lo≠[]:=fun e=>hn (.inl (by rw[e]; rfl))
   have h2:hi≠[]:=fun e=>hn (.inr (by rw[e]; rfl))
   exact⟨_,Z3y h1,_,Z3A h2,by omega,by omega⟩
  ·cases h
theorem ZfK {lo hi L:List Int} (h:ivl lo hi=some L):L.length<=1000:=by
 unfold ivl at h
 split at h
 ·cases h; simp
 ·split at h
  ·cases h; rw[Z5W]; omega
  ·cases h
theorem Z7X {k:Nat} {s:List UInt8} {ps:List (List Tm)} {L:List Tm} (h:xpK k s (some ps)=some L) {v:Tm} (hv:v∈L) :
  (k=6/\ ∃ a∈Zd (ps.getD 0 []), ∃ b∈Zd (ps.getD 1 []), ∃ n,a<=n/\n<=b/\v=numT n)\/(k=5/\ ∃ r∈Zx (ps.map Zd), ∃ n,QP s r=some n/\v=numT n)\/(k≠5/\k≠6/\ ∃ r∈Zx ps,v= .mk 4 0 s r):=by
 unfold xpK at h
 simp only at h
 split at h
 ·rename_i hk
  cases hi:ivl (Zd (ps.getD 0 [])) (Zd (ps.getD 1 [])) with
  | none=>rw[hi] at h; cases h
  | some q =>
   rw[hi] at h
   cases h
   obtain⟨n,hn,rfl⟩:=List.mem_map.1 hv
   obtain⟨a,ha,b,hb,h1,h2⟩:=ZfJ hi hn
   exact .inl ⟨hk,a,ha,b,hb,n,h1,h2,rfl⟩
 ·rename_i hk
  split at h
  ·rename_i hk5
   unfold opX at h
   split at h
   ·cases h
    obtain⟨n,hn,rfl⟩:=List.mem_map.1 hv
    obtain⟨r,hr,hc⟩:=Zfo.1 (QJ.1 hn)
    exact .inr (.inl ⟨hk5,r,hr,n,hc,rfl⟩)
   ·cases h
  ·rename_i hk5
   unfold fnX at h
   split at h
   ·cases h; cases hv
   ·split at h
    ·cases h
     obtain⟨r,hr,rfl⟩:=List.mem_map.1 hv
     exact .inr (.inr ⟨hk5,hk,r,hr,rfl⟩)
    ·cases h
theorem ZdC {k:Nat} {s:List UInt8} {ps:List (List Tm)} {L:List Tm} (h:xpK k s (some ps)=some L):L.length<=1000:=by
 unfold xpK at h
 simp only at h
 split at h
 ·cases hi:ivl (Zd (ps.getD 0 [])) (Zd (ps.getD 1 [])) with
  | none=>rw[hi] at h; cases h
  | some q =>
   rw[hi] at h
   cases h
   rw[List.length_map]
   exact ZfK hi
 ·split at h
  ·unfold opX at h
   split at h
   ·cases h
    rename_i hl
    have e:=Z1V (l:=opF s (Zx (ps.map Zd))) (Z8N s _ List.nodup_nil)
    rw[List.length_map,e]
    exact hl
   ·cases h
  ·unfold fnX at h
   split at h
   ·cases h; simp
   ·split at h
    ·cases h
     rw[List.length_map]; assumption
    ·cases h
theorem Z5Q: ∀ {t:Tm} {L:List Tm},t.xp=some L->L.length<=1000
 | .mk k n s l,L,h=>by
  rw[Tm.xp] at h
  split at h
  ·cases h; simp
  ·cases hp:Tm.xpL l with
   | none=>rw[hp] at h; cases h
   | some ps=>rw[hp] at h; exact ZdC h
theorem Z0X {x:Tm} {n:Int} (hs:x.all Tm.shape=true) (h:x.int? = some n):Zj n=true:=by
 obtain⟨k,m,s,l⟩:=x
 have hs:=(Zt.1 hs).1
 simp only[Tm.int?] at h
 split at h
 ·rename_i hk
  cases h
  subst hk
  rw[Zo]
  simp only[Tm.shape,Q2] at hs
  (repeat' split at hs) <;> simp_all
 ·cases h
theorem Z47 {n:Int} {s:List UInt8} {l:List Tm} (h:Tm.shape (.mk 6 n s l)=true):l.length=2:=by
 simp only[Tm.shape,Q2] at h
 (repeat' split at h) <;> simp_all
theorem Z0m: ∀ (t:Tm) (L:List Tm) (v:Tm),t.all Tm.shape=true->t.all Tm.gr=true->t.xp=some L->v∈L->v.all Tm.plain=true/\v.all Tm.shape=true/\v.depth<=t.depth
 | .mk k n s l,L,v,hs0,hg0,h,hv=>by
  rw[Tm.xp] at h
  have hs:=Zt.1 hs0
  have hg:=Zt.1 hg0
  split at h
  ·rename_i he
   have he:l=[]:=List.isEmpty_iff.1 he
   subst he
   cases h
   rw[List.mem_singleton] at hv
   subst hv
   refine⟨?_,hs0,Nat.le_refl _⟩
   rw[Zt]
   refine⟨?_,fun x hx=>by cases hx⟩
   have h1:=hs.1
   have h2:=hg.1
   simp only[Tm.gr,Tm.plain,Bool.not_eq_true',decide_eq_false_iff_not,Bool.or_eq_true,decide_eq_true_eq] at h2 ⊢
   simp only[Tm.shape,Q2] at h1
   (repeat' split at h1) <;> simp_all <;> omega
  ·rename_i he
   have he:l≠[]:=fun e=>he (by rw[e]; rfl)
   cases hp:Tm.xpL l with
   | none=>rw[hp] at h; cases h
   | some ps =>
    rw[hp] at h
    have hnum: ∀ {m:Int},Zj m=true->v=numT m->v.all Tm.plain=true/\v.all Tm.shape=true/\v.depth<=(Tm.mk k n s l).depth:=fun hm e=>by
     subst e
     have q:=Z7v hm
     exact⟨q.1,q.2.1,by rw[q.2.2]; simp[Tm.depth]⟩
    have hlen:=Z0F hp
    rcases Z7X h hv with ⟨_,a,ha,b,hb,m,h1,h2,e⟩ | ⟨_,r,hr,m,hc,e⟩ | ⟨h5,h6,r,hr,e⟩
    ·refine hnum (Zo.2 ?_) e
     have key: ∀ {i:Nat} {c:Int},c∈Zd (ps.getD i [])->Zj c=true:=fun {i c} hc=>by
      obtain⟨x,hx,hxi⟩:=Z2c.1 hc
      rw[List.getD_eq_getElem?_getD] at hx
      cases hq:ps[i]? with
      | none=>rw[hq] at hx; cases hx
      | some p =>
       rw[hq] at hx
       obtain⟨y,hy,hye⟩:=Z0E hp (List.mem_of_getElem? hq)
       exact Z0X (Z0m y p x (hs.2 y hy) (hg.2 y hy) hye hx).2.1 hxi
     have g1:=Zo.1 (key ha)
     have g2:=Zo.1 (key hb)
     omega
    ·exact hnum (Z7P hc) e
    ·subst e
     rcases Z7c hs.1 he h6 with ⟨rfl,rfl,hsy,hln⟩ | hk
     rotate_left
     ·exact absurd hk h5
     have hkid: ∀ y∈r, ∃ x∈l,y.all Tm.plain=true/\y.all Tm.shape=true/\y.depth<=x.depth:=fun y hy=>by
      obtain⟨p,hpp,hyp⟩:=Z4i hr hy
      obtain⟨x,hx,hxe⟩:=Z0E hp hpp
      exact⟨x,hx,Z0m x p y (hs.2 x hx) (hg.2 x hx) hxe hyp⟩
     refine⟨?_, ?_, ?_⟩
     ·rw[Zt]
      exact⟨rfl,fun y hy=>(hkid y hy).elim fun x hx=>hx.2.1⟩
     ·rw[Zt]
      refine⟨?_,fun y hy=>(hkid y hy).elim fun x hx=>hx.2.2.1⟩
      have:=hs.1
      simp only[Tm.shape] at this ⊢
      rw[(Z26.1 hr).1,hlen]; exact this
     ·simp only[Tm.depth]
      have:Tm.depthL r<=Tm.depthL l:=Z4x fun y hy=>by
       obtain⟨x,hx,_,_,hd⟩:=hkid y hy
       exact Nat.le_trans hd (Z0I hx)
      omega
termination_by t=>SizeOf.sizeOf t
decreasing_by
 all_goals
  first
   | (have:=List.sizeOf_lt_of_mem hy; simp only[Tm.mk.sizeOf_spec]; omega)
   | (have:=List.sizeOf_lt_of_mem hx; simp only[Tm.mk.sizeOf_spec]; omega)
theorem Zfs {n:Int} (h:Zj n=true):(numT n).wf 281474976710656:=by
 have:=Zo.1 h
 simp only[numT,Tm.wf,List.length_nil]
 exact⟨by omega,by omega,by omega,Nat.zero_le _,Nat.zero_le _,trivial⟩
theorem Z5T: ∀ (v:Tm),v.all Tm.shape=true->v.all Tm.plain=true->v.few 8/\v.depth<=v.depth
 | .mk k n s l,hs,hp=>by
  have hs:=Zt.1 hs
  have hp:=Zt.1 hp
  refine⟨?_,Nat.le_refl _⟩
  simp only[Tm.few]
  have IH: ∀ y∈l,y.few 8:=fun y hy=>(Z5T y (hs.2 y hy) (hp.2 y hy)).1
  refine⟨?_,ZL.2 IH⟩
  have h1:=hs.1
  simp only[Tm.shape,Q2] at h1
  (repeat' split at h1) <;> simp_all <;> omega
termination_by v=>SizeOf.sizeOf v
decreasing_by
 have:=List.sizeOf_lt_of_mem hy
 simp only[Tm.mk.sizeOf_spec]
 omega
theorem ZhZ: ∀ (t:Tm) (L:List Tm) (v:Tm),t.wf 281474976710656->t.all Tm.shape=true->t.all Tm.gr=true->t.xp=some L->v∈L->v.wf 281474976710656
 | .mk k n s l,L,v,hw0,hs0,hg0,h,hv=>by
  have hval:=Z0m (.mk k n s l) L v hs0 hg0 h hv
  rw[Tm.xp] at h
  have hs:=Zt.1 hs0
  have hg:=Zt.1 hg0
  have hw:=hw0
  simp only[Tm.wf] at hw
  obtain⟨hk,hn1,hn2,hsl,hl,hwl⟩:=hw
  split at h
  ·rename_i he
   cases h
   rw[List.mem_singleton] at hv
   subst hv
   simp only[Tm.wf]
   exact⟨hk,hn1,hn2,hsl,Nat.zero_le _,trivial⟩
  ·rename_i he
   have he:l≠[]:=fun e=>he (by rw[e]; rfl)
   cases hp:Tm.xpL l with
   | none=>rw[hp] at h; cases h
   | some ps =>
    rw[hp] at h
    have hlen:=Z0F hp
    have hnum: ∀ {m:Int},v=numT m->v.wf 281474976710656:=fun {m} e=>by
     subst e
     exact Zfs (Z0X hval.2.1 (by simp[numT,Tm.int?]))
    rcases Z7X h hv with ⟨_,a,ha,b,hb,m,h1,h2,e⟩ | ⟨_,r,hr,m,hc,e⟩ | ⟨h5,h6,r,hr,e⟩
    ·exact hnum e
    ·exact hnum e
    ·subst e
     simp only[Tm.wf]
     refine⟨by omega,by omega,by omega,hsl,by rw[(Z26.1 hr).1,hlen]; exact hl, ?_⟩
     rw[QQ]
     intro y hy
     obtain⟨p,hpp,hyp⟩:=Z4i hr hy
     obtain⟨x,hx,hxe⟩:=Z0E hp hpp
     exact ZhZ x p y (QQ.1 hwl x hx) (hs.2 x hx) (hg.2 x hx) hxe hyp
termination_by t=>SizeOf.sizeOf t
decreasing_by
 have:=List.sizeOf_lt_of_mem hx
 simp only[Tm.mk.sizeOf_spec]
 omega
inductive XR where
 | ok (l:List Tm)
 | many
 | arg
def Tm.expd (t:Tm):XR:=if (t.valid && t.all Tm.gr)=true then (match t.xp with
 | some l=> .ok l
 | none=> .many) else .arg
end Go.Sx
/- MATCHING,PLAIN: the pairs that a pattern wants,bound one behind the other; their order does not matter. -/
namespace Go.Sx
def bnd1 (b:List Bd) (s:List UInt8) (v:Tm):Option (List Bd):=match getB b s with
 | some w=>if w.eqb v=true then some b else none
 | none=>some (Z0Z b s v)
def bndA:List (List UInt8 × Tm)->List Bd->Option (List Bd)
 | [],b=>some b
 | x::r,b=>match bnd1 b x.1 x.2 with
  | some c=>bndA r c
  | none=>none
theorem Z5r: ∀ {b:List Bd} {s:List UInt8},(∀ x∈b,s<x.n)->getB b s=none
 | [],s,_=>rfl
 | x::r,s,h=>by
  have hx:=h x (List.mem_cons_self ..)
  rw[ZR,if_neg (fun e:x.n=s=>Z2Q s (by rw[e] at hx; exact hx))]
  exact Z5r fun y hy=>h y (List.mem_cons_of_mem _ hy)
theorem Z8h: ∀ {b c:List Bd},srtB b->srtB c->(∀ s,getB b s=getB c s)->b=c
 | [],[],_,_,_=>rfl
 | [],y::q,_,_,h=>by
  have:=h y.n
  rw[ZR,if_pos rfl] at this
  cases this
 | x::r,[],_,_,h=>by
  have:=h x.n
  rw[ZR,if_pos rfl] at this
  cases this
 | x::r,y::q,hb,hc,h=>by
  have hb':=List.pairwise_cons.1 hb
  have hc':=List.pairwise_cons.1 hc
  have h1:x∈y::q:=by
   have:=h x.n
   rw[ZR,if_pos rfl] at this
   exact Qb this.symm
  have h2:y∈x::r:=by
   have:=h y.n
   rw[ZR (x:=y),if_pos rfl] at this
   exact Qb this
  have e:x=y:=by
   rcases List.mem_cons.1 h1 with h1 | h1
   ·exact h1
   ·rcases List.mem_cons.1 h2 with h2 | h2
    ·exact h2.symm
    ·exact absurd (List.lt_trans (hc'.1 x h1) (hb'.1 y h2)) (Z2Q _)
  subst e
  have e2:r=q:=Z8h hb'.2 hc'.2 fun s=>by
   by_cases hs:x.n=s
   ·subst hs
    rw[Z5r hb'.1,Z5r hc'.1]
   ·have:=h s
    rw[ZR,ZR,if_neg hs,if_neg hs] at this
    exact this
  rw[e2]
theorem ZfX {b:List Bd} {s:List UInt8} {v:Tm} (hb:srtB b) (hn:getB b s=none) (t:List UInt8):getB (Z0Z b s v) t=if s=t then some v else getB b t:=by
 have hs:=Z3F (v:=v) hb hn
 by_cases e:s=t
 ·subst e
  rw[if_pos rfl]
  exact Z1L hs (x:=⟨s,v⟩) (Z0Y.2 (.inl rfl))
 ·rw[if_neg e]
  cases hg:getB b t with
  | some w=>exact Z1L hs (x:=⟨t,w⟩) (Z0Y.2 (.inr (Qb hg)))
  | none =>
   cases hi:getB (Z0Z b s v) t with
   | none=>rfl
   | some w =>
    rcases Z0Y.1 (Qb hi) with h | h
    ·cases h; exact absurd rfl e
    ·have:=Z1L hb h
     rw[hg] at this; cases this
theorem Z9Q {b c:List Bd} {s:List UInt8} {v:Tm} (hb:srtB b) (h:bnd1 b s v=some c):srtB c/\(∀ t,getB c t=if s=t then some v else getB b t)/\ ∀ w,getB b s=some w->w=v:=by
 unfold bnd1 at h
 cases hg:getB b s with
 | some w =>
  rw[hg] at h
  simp only at h
  split at h
  ·rename_i e
   have e:=Z4w.1 e
   subst e
   cases h
   refine⟨hb,fun t=> ?_,fun w' h=>by cases h; rfl⟩
   split
   ·rename_i e; subst e; exact hg
   ·rfl
  ·cases h
 | none =>
  rw[hg] at h
  cases h
  exact⟨Z3F hb hg,ZfX hb hg,fun w h=>by cases h⟩
theorem Z9R {b:List Bd} {s:List UInt8} {v:Tm} (h:bnd1 b s v=none): ∃ w,getB b s=some w/\w≠v:=by
 unfold bnd1 at h
 cases hg:getB b s with
 | some w =>
  rw[hg] at h
  simp only at h
  split at h
  ·cases h
  ·rename_i e; exact⟨w,rfl,fun e2=>e (Z4w.2 e2)⟩
 | none=>rw[hg] at h; cases h
structure BndOf (l:List (List UInt8 × Tm)) (b c:List Bd):Prop where
 srt:srtB c
 all: ∀ x∈l,getB c x.1=some x.2
 old: ∀ s w,getB b s=some w->getB c s=some w
 new: ∀ s w,getB c s=some w->getB b s=some w\/(s,w)∈l
theorem Z1a: ∀ {l:List (List UInt8 × Tm)} {b c:List Bd},srtB b->(bndA l b=some c ↔ BndOf l b c)
 | [],b,c,hb=>by
  constructor
  ·intro h; cases h
   exact⟨hb,fun x hx=>(by cases hx),fun _ _ h=>h,fun _ _ h=> .inl h⟩
  ·intro h
   have:b=c:=Z8h hb h.srt fun s=>by
    cases hg:getB b s with
    | some w=>exact (h.old s w hg).symm
    | none =>
     cases hc:getB c s with
     | none=>rfl
     | some w =>
      rcases h.new s w hc with h | h
      ·rw[hg] at h; cases h
      ·cases h
   rw[this]; rfl
 | x::r,b,c,hb=>by
  cases h1:bnd1 b x.1 x.2 with
  | none =>
   obtain⟨w,hw,hne⟩:=Z9R h1
   simp only[bndA,h1]
   constructor
   ·intro h; cases h
   ·intro h
    have e1:=h.old _ _ hw
    have e2:=h.all x (List.mem_cons_self ..)
    rw[e1] at e2
    exact absurd (Option.some.inj e2) hne
  | some c1 =>
   obtain⟨q1,q2,q3⟩:=Z9Q hb h1
   simp only[bndA,h1]
   rw[Z1a q1]
   have old1: ∀ s w,getB b s=some w->getB c1 s=some w:=fun s w hs=>by
    rw[q2]
    split
    ·rename_i e; subst e; rw[q3 w hs]
    ·exact hs
   constructor
   ·intro h
    refine⟨h.srt,fun y hy=> ?_,fun s w hs=>h.old _ _ (old1 s w hs),fun s w hs=> ?_⟩
    ·rcases List.mem_cons.1 hy with rfl | hy
     ·exact h.old _ _ (by rw[q2,if_pos rfl])
     ·exact h.all y hy
    ·rcases h.new s w hs with h | h
     ·rw[q2] at h
      split at h
      ·rename_i e; subst e; cases h
       exact .inr (List.mem_cons_self ..)
      ·exact .inl h
     ·exact .inr (List.mem_cons_of_mem _ h)
   ·intro h
    refine⟨h.srt,fun y hy=>h.all y (List.mem_cons_of_mem _ hy),fun s w hs=> ?_,fun s w hs=> ?_⟩
    ·rw[q2] at hs
     split at hs
     ·rename_i e; subst e; cases hs
      exact h.all x (List.mem_cons_self ..)
     ·exact h.old _ _ hs
    ·rcases h.new s w hs with h | h
     ·exact .inl (old1 s w h)
     ·rcases List.mem_cons.1 h with h | h
      ·subst h
       exact .inl (by rw[q2,if_pos rfl])
      ·exact .inr h
theorem ZbZ {l m:List (List UInt8 × Tm)} {b:List Bd} (hb:srtB b) (h: ∀ x,x∈l ↔ x∈m):bndA l b=bndA m b:=by
 refine Option.ext fun c=> ?_
 rw[Z1a hb,Z1a hb]
 exact⟨fun q=>⟨q.srt,fun x hx=>q.all x ((h x).2 hx),q.old,fun s w hs=>(q.new s w hs).imp_right (h _).1⟩,fun q=>⟨q.srt,fun x hx=>q.all x ((h x).1 hx),q.old,fun s w hs=>(q.new s w hs).imp_right (h _).2⟩⟩
theorem Zc0 (l m:List (List UInt8 × Tm)): ∀ b:List Bd,bndA (l++m) b=match bndA l b with
  | some c=>bndA m c
  | none=>none:=by
 induction l with
 | nil=>intro b; rfl
 | cons x r ih =>
  intro b
  simp only[List.cons_append,bndA]
  cases bnd1 b x.1 x.2 with
  | none=>rfl
  | some c=>exact ih c
abbrev Wn:=List (List UInt8 × Tm) × List (Tm × Tm)
def wJ:Option Wn->Option Wn->Option Wn
 | some x,some y=>some (x.1++y.1,x.2++y.2)
 | _,_=>none
mutual
def Tm.prs:Tm->Tm->Option Wn
 | .mk k n s l,.mk k' n' s' l'=>if k=3 then some ([(s,.mk k' n' s' l')],[]) else if k=5\/k=6 then some ([],[(.mk k n s l,.mk k' n' s' l')]) else if k=k'/\n=n'/\s=s' then Tm.prsL l l' else none
def Tm.prsL:List Tm->List Tm->Option Wn
 | [],[]=>some ([],[])
 | a::l,b::m=>wJ (Tm.prs a b) (Tm.prsL l m)
 | [],_::_=>none
 | _::_,[]=>none
end
def oA (q:Option Wn) (b:List Bd) (os:List (Tm × Tm)):Option (List Bd × List (Tm × Tm)):=match q with
 | none=>none
 | some x=>match bndA x.1 b with
  | none=>none
  | some c=>some (c,os++x.2)
theorem Zfr (x y:Option Wn) (b:List Bd) (os:List (Tm × Tm)):oA (wJ x y) b os=match oA x b os with
  | none=>none
  | some q=>oA y q.1 q.2:=by
 cases x with
 | none=>rfl
 | some x =>
  cases y with
  | none =>
   simp only[wJ,oA]
   cases bndA x.1 b <;> rfl
  | some y =>
   simp only[wJ,oA,Zc0]
   cases bndA x.1 b with
   | none=>rfl
   | some c =>
    simp only
    cases bndA y.1 c with
    | none=>rfl
    | some d=>simp only[List.append_assoc]
theorem Zi6 (x:Option Wn):wJ (some ([],[])) x=x:=by
 cases x <;> simp[wJ]
theorem ZaJ (x y z:Option Wn):wJ (wJ x y) z=wJ x (wJ y z):=by
 cases x <;> cases y <;> cases z <;> simp[wJ]
theorem Z3q: ∀ {l l':List Tm} {m m':List Tm},l.length=l'.length->Tm.prsL (l++m) (l'++m')=wJ (Tm.prsL l l') (Tm.prsL m m')
 | [],[],m,m',_=>by simp only[List.nil_append,Tm.prsL,Zi6]
 | a::l,b::l',m,m',h=>by
  simp only[List.cons_append,Tm.prsL]
  rw[Z3q (by simpa using h),ZaJ]
 | [],_::_,_,_,h=>by simp at h
 | _::_,[],_,_,h=>by simp at h
def clsB (b:List Bd) (x:Tm × Tm):Bool:=match (x.1.ap b).expd with
 | .ok l=>l.any fun y=>y.eqb x.2
 | _=>false
def lstB (p v:List Tm) (b:List Bd):Option (List Bd):=if (Z08 b && (p.all Tm.valid && v.all Tm.value))=true then (match oA (Tm.prsL p v) b [] with
 | some q=>if q.2.all (clsB q.1)=true then some q.1 else none
 | none=>none) else none
theorem Zbs {p1 p2 v1 v2:List Tm} (b:List Bd) (h1:p1.length=v1.length) (h2:p2.length=v2.length):lstB (p2++p1) (v2++v1) b=lstB (p1++p2) (v1++v2) b:=by
 unfold lstB
 have e:(Z08 b && ((p2++p1).all Tm.valid && (v2++v1).all Tm.value))=(Z08 b && ((p1++p2).all Tm.valid && (v1++v2).all Tm.value)):=by
  simp only[List.all_append]
  rw[Bool.and_comm (p2.all Tm.valid),Bool.and_comm (v2.all Tm.value)]
 rw[e]
 split
 ·rename_i hc
  have hb:srtB b:=by
   simp only[Bool.and_eq_true] at hc
   exact (Z1d.1 hc.1).1
  rw[Z3q h1,Z3q h2]
  generalize Tm.prsL p1 v1=x
  generalize Tm.prsL p2 v2=y
  cases x with
  | none=>cases y <;> rfl
  | some x =>
   cases y with
   | none=>rfl
   | some y =>
    simp only[wJ,oA,List.nil_append]
    rw[ZbZ (l:=y.1++x.1) (m:=x.1++y.1) hb fun z=>by simp only[List.mem_append]; exact Or.comm]
    cases bndA (x.1++y.1) b with
    | none=>rfl
    | some c =>
     simp only[List.all_append]
     rw[Bool.and_comm]
 ·rfl
theorem ZfC (p v:List Tm) (b:List Bd) (k:Nat) (h:p.length=v.length):lstB (p.drop k++p.take k) (v.drop k++v.take k) b=lstB p v b:=by
 have:=Zbs (p1:=p.take k) (p2:=p.drop k) (v1:=v.take k) (v2:=v.drop k) b (by simp[h]) (by simp[h])
 simpa only[List.take_append_drop] using this
end Go.Sx
