/- Own work: a layer over the kit: plain data,a walk over it,its soundness. -/
import Derived.Lib.Bytealg
import Derived.Lib.AtoiAll
import Derived.Lib.ItoaNum
import Derived.Sort.OwnSorted
import Derived.Lib.Join
import Derived.Lib.SlicesCompact
import Derived.Test.YtfoklncmfoogcaaGreatDoorSx7
set_option linter.unusedSectionVars false
set_option linter.unusedVariables false
set_option linter.unusedSimpArgs false
set_option linter.deprecated false
/- TERMS COMPARED,in plain words. -/
namespace Go.Sx

def ncmp (a b:Int):Int:=if a<b then -1 else if b<a then 1 else 0
def rkI (k:Int):Int:=if k=1 then 0 else if k=2 then 1 else if k=4 then 2 else if k=3 then 3 else if k=5 then 4 else if k=6 then 5 else 6+k
def idxI (k:Int):Int:=if k=1 then 0 else if k=2 then 1 else if k=4 then 2 else if k=3 then 3 else if k=5 then 4 else if k=6 then 5 else -1
def fst0:List Int->Int
 | []=>0
 | x::r=>if x≠0 then x else fst0 r

mutual
def Tm.cmp:Tm->Tm->Int
 | .mk k n s l,b=>match b with
  | .mk k' n' s' l'=>fst0 [ncmp (rkI k) (rkI k'),if k=1 then ncmp n n' else 0,ncmp l.length l'.length,Lib.compareBytes s s',Tm.cmpL l l',ncmp n n']
def Tm.cmpL:List Tm->List Tm->Int
 | [],q=>match q with
  | []=>0
  | _::_=> -1
 | a::r,q=>match q with
  | []=>1
  | b::q=>if a.cmp b≠0 then a.cmp b else Tm.cmpL r q
end

mutual
def Tm.sz:Tm->Int->Int
 | .mk _ _ _ l,m=>1+Tm.szL l (m-1) 0
def Tm.szL:List Tm->Int->Int->Int
 | [],m,n=>n
 | a::r,m,n=>if n<=m then Tm.szL r m (n+a.sz (m-n)) else n
end

mutual
def Tm.eqb:Tm->Tm->Bool
 | .mk k n s l,b=>match b with
  | .mk k' n' s' l'=>decide (k=k') && decide (n=n') && decide (s=s') && Tm.eqbL l l'
def Tm.eqbL:List Tm->List Tm->Bool
 | [],q=>match q with
  | []=>true
  | _::_=>false
 | a::r,q=>match q with
  | []=>false
  | b::q=>a.eqb b && Tm.eqbL r q
end

theorem ncmp_eq {a b:Int}:ncmp a b=0 ↔ a=b:=by
 unfold ncmp; split
 ·simp; omega
 ·split
  ·simp; omega
  ·simp; omega
theorem bcmp_eq: ∀ {a b:List UInt8},Lib.compareBytes a b=0 ↔ a=b
 | [],[]=>by simp[Lib.compareBytes]
 | [],_::_=>by simp[Lib.compareBytes]
 | _::_,[]=>by simp[Lib.compareBytes]
 | a::r,b::q=>by
  unfold Lib.compareBytes
  split
  ·rename_i h; simp; intro e; subst e; exact absurd h (UInt8.lt_irrefl _)
  ·split
   ·rename_i h; simp; intro e; subst e; exact absurd h (UInt8.lt_irrefl _)
   ·rename_i h1 h2
    have:a=b:=by
     rw[<- UInt8.toNat_inj]
     rw[UInt8.lt_iff_toNat_lt] at h1 h2
     omega
    rw[bcmp_eq (a:=r) (b:=q)]
    simp[this]
end Go.Sx
namespace Go.Sx
mutual
def Tm.few (N:Nat):Tm->Prop
 | .mk _ _ _ l=>l.length<=N/\Tm.fewL N l
def Tm.fewL (N:Nat):List Tm->Prop
 | []=>True
 | a::r=>a.few N/\Tm.fewL N r
end
theorem fewL_all {N:Nat}: ∀ {l:List Tm},Tm.fewL N l ↔ ∀ t∈l,t.few N
 | []=>by simp[Tm.fewL]
 | a::r=>by simp[Tm.fewL,fewL_all (l:=r)]

mutual
theorem sz_ge: ∀ (t:Tm) (m:Int),1<=t.sz m
 | .mk k n s l,m=>by
  have:=szL_ge l (m-1) 0
  simp only[Tm.sz]; omega
theorem szL_ge: ∀ (l:List Tm) (m n:Int),n<=Tm.szL l m n
 | [],m,n=>by simp only[Tm.szL]; omega
 | a::r,m,n=>by
  simp only[Tm.szL]
  split
  ·have:=szL_ge r m (n+a.sz (m-n))
   have:=sz_ge a (m-n)
   omega
  ·omega
end
mutual
theorem sz_le: ∀ (t:Tm) (m:Int),0<=m->t.sz m<=m+1
 | .mk k n s l,m,hm=>by
  have:=szL_le l (m-1) 0 (by omega)
  simp only[Tm.sz]; omega
theorem szL_le: ∀ (l:List Tm) (m n:Int),n<=m+1->Tm.szL l m n<=m+1
 | [],m,n,h=>by simp only[Tm.szL]; omega
 | a::r,m,n,h=>by
  simp only[Tm.szL]
  split
  ·have:=sz_le a (m-n) (by omega)
   exact szL_le r m _ (by omega)
  ·omega
end
theorem fst0_zero: ∀ {l:List Int},fst0 l=0 ↔ ∀ x∈l,x=0
 | []=>by simp[fst0]
 | x::r=>by
  unfold fst0
  split
  ·rename_i h; simp[h]
  ·rename_i h
   have hx:x=0:=Classical.not_not.1 h
   rw[fst0_zero (l:=r)]
   simp[hx]
theorem rkI_inj {k k':Nat} (h:rkI k=rkI k'):k=k':=by
 unfold rkI at h
 (repeat' split at h) <;> omega

mutual
theorem cmp_eq: ∀ {a b:Tm},a.cmp b=0 ↔ a=b
 | .mk k n s l,.mk k' n' s' l'=>by
  simp only[Tm.cmp,fst0_zero,Tm.mk.injEq,List.mem_cons,List.not_mem_nil,or_false,forall_eq_or_imp,forall_eq]
  constructor
  ·rintro⟨h1,_,h3,h4,h5,h6⟩
   have h3':l.length=l'.length:=by have:=ncmp_eq.1 h3; omega
   exact⟨rkI_inj (ncmp_eq.1 h1),ncmp_eq.1 h6,bcmp_eq.1 h4,(cmpL_eq h3').1 h5⟩
  ·rintro⟨rfl,rfl,rfl,rfl⟩
   refine⟨ncmp_eq.2 rfl, ?_,ncmp_eq.2 rfl,bcmp_eq.2 rfl,(cmpL_eq rfl).2 rfl,ncmp_eq.2 rfl⟩
   split
   ·exact ncmp_eq.2 rfl
   ·rfl
theorem cmpL_eq: ∀ {a b:List Tm},a.length=b.length->(Tm.cmpL a b=0 ↔ a=b)
 | [],[],_=>by simp[Tm.cmpL]
 | [],_::_,h=>by cases h
 | _::_,[],h=>by cases h
 | a::r,b::q,h=>by
  simp only[Tm.cmpL,List.cons.injEq]
  by_cases hc:a.cmp b=0
  ·rw[if_neg (by simpa using hc)]
   have:=cmp_eq.1 hc
   rw[cmpL_eq (by simpa using h)]
   simp[this]
  ·rw[if_pos hc]
   have:a≠b:=fun e=>hc (cmp_eq.2 e)
   simp[hc,this]
end
mutual
theorem eqb_eq: ∀ {a b:Tm},a.eqb b=true ↔ a=b
 | .mk k n s l,.mk k' n' s' l'=>by
  simp only[Tm.eqb,Bool.and_eq_true,decide_eq_true_eq,eqbL_eq,Tm.mk.injEq]
  constructor
  ·rintro⟨⟨⟨h1,h2⟩,h3⟩,h4⟩; exact⟨h1,h2,h3,h4⟩
  ·rintro⟨h1,h2,h3,h4⟩; exact⟨⟨⟨h1,h2⟩,h3⟩,h4⟩
theorem eqbL_eq: ∀ {a b:List Tm},Tm.eqbL a b=true ↔ a=b
 | [],[]=>by simp[Tm.eqbL]
 | [],_::_=>by simp[Tm.eqbL]
 | _::_,[]=>by simp[Tm.eqbL]
 | a::r,b::q=>by
  simp only[Tm.eqbL,Bool.and_eq_true,List.cons.injEq,eqb_eq (a:=a) (b:=b),eqbL_eq (a:=r) (b:=q)]
end
theorem eqb_cmp (a b:Tm):a.eqb b=decide (a.cmp b=0):=by
 rw[Bool.eq_iff_iff,eqb_eq,decide_eq_true_eq,cmp_eq]
end Go.Sx

/- Plain laws on bytes and lists. -/
namespace Go.Sx
theorem byte_lt (s:List UInt8) (i:Nat):0<=((s.getD i 0).toNat:Int)/\((s.getD i 0).toNat:Int)<256:=by
 have:=(s.getD i 0).toNat_lt
 omega
end Go.Sx

/- The lexer,plainly. -/
namespace Go.Sx.Lx
open Go.Sx

def isLow (b:UInt8):Bool:=decide (97<=b.toNat) && decide (b.toNat<=122)
def isUp (b:UInt8):Bool:=decide (65<=b.toNat) && decide (b.toNat<=90)
def isDig (b:UInt8):Bool:=decide (48<=b.toNat) && decide (b.toNat<=57)
def isLet (b:UInt8):Bool:=isLow b || isUp b
def isUnd (b:UInt8):Bool:=b == 95
def isName (b:UInt8):Bool:=isLet b || isDig b || isUnd b
def isBlank (b:UInt8):Bool:=b == 32 || b == 9 || b == 10 || b == 13
def skp:Bool->List UInt8->Nat
 | _,[]=>0
 | false,b::r=>if isBlank b then 1+skp false r else if b == 37 then 1+skp true r else 0
 | true,b::r=>if b == 10 then 1+skp false r else 1+skp true r

end Go.Sx.Lx
namespace Go.Sx.Lx
def wordB (first:UInt8->Bool) (s:List UInt8):Bool:=match s.dropWhile isUnd with
 | []=>false
 | b::r=>first b && (b::r).all isName && decide (s.length<=32)
def notS:List UInt8:=[110,111,116]
def symbolB (s:List UInt8):Bool:=wordB isLow s && decide (s≠notS)
def variableB (s:List UInt8):Bool:=wordB isUp s || (match s with
 | 95::r=>r.all isDig && decide (s.length<=32)
 | _=>false)
end Go.Sx.Lx
namespace Go.Sx
end Go.Sx
namespace Go.Sx.Lx
def signL:List (List UInt8):=[[58,45],[58,126],[58],[46,46],[46],[44],[59],[124],[40],[41],[123],[125],[91],[93],[61],[33,61],[60,61],[62,61],[60],[62],[43],[45],[42],[47],[92],[64]]
def signOf (s:List UInt8):List UInt8:=(signL.find? (·.isPrefixOf s)).getD []
end Go.Sx.Lx
namespace Go.Sx.Lx
def wordK (s:List UInt8):Int × Int:=if s=notS then (4,0) else if symbolB s=true then (1,0) else if variableB s=true then (2,0) else (0,31)
def dirs:List (List UInt8):=[[35,99,111,110,115,116],[35,115,104,111,119],[35,109,105,110,105,109,105,122,101],[35,99,111,117,110,116],[35,115,117,109]]
def numE (s:List UInt8):Int:=match Lib.atoiAll s with
 | .ok n=>if 2147483647<n then 32 else if Lib.itoa n=s then 0 else 32
 | _=>32
def tok (s:List UInt8):Int × List UInt8 × Int:=match s with
 | []=>(0,[],0)
 | b::r =>
  if isLet b || isUnd b then ((wordK (s.takeWhile isName)).1,s.takeWhile isName,(wordK (s.takeWhile isName)).2)
  else if isDig b then (3,s.takeWhile isDig,numE (s.takeWhile isDig))
  else if b == 35 then (5,35::r.takeWhile isLet,if 35::r.takeWhile isLet∈dirs then 0 else 31)
  else (6,signOf s,if signOf s=[] then 30 else 0)
end Go.Sx.Lx
namespace Go.Sx.Lx
abbrev Tk:=Int × List UInt8 × Int
def toksF:Nat->Nat->List UInt8->List Tk × Option (Nat × Int) × Nat
 | 0,o,_=>([],none,o)
 | _+1,o,[]=>([],none,o)
 | f+1,o,b::r =>
  if (tok (b::r)).2.2=0 then
   let n:=(tok (b::r)).2.1.length
   let k:=skp false ((b::r).drop n)
   let q:=toksF f (o+n+k) ((b::r).drop (n+k))
   (((tok (b::r)).1,(tok (b::r)).2.1,(o:Int))::q.1,q.2)
  else ([],some (o,(tok (b::r)).2.2),o+(tok (b::r)).2.1.length)
end Go.Sx.Lx
namespace Go.Sx.Lx
end Go.Sx.Lx
namespace Go.Sx.Lx
def pickG (n m:Int):Int:=if n.tmod m<0 then n.tmod m+m else n.tmod m
end Go.Sx.Lx

/- All subterms of a term. -/
namespace Go.Sx
mutual
def Tm.all (h:Tm->Bool):Tm->Bool
 | .mk k n s l=>h (.mk k n s l) && Tm.allL h l
def Tm.allL (h:Tm->Bool):List Tm->Bool
 | []=>true
 | a::r=>a.all h && Tm.allL h r
end
mutual
def Tm.depth:Tm->Nat
 | .mk _ _ _ l=>Tm.depthL l+1
def Tm.depthL:List Tm->Nat
 | []=>0
 | a::r=>Nat.max a.depth (Tm.depthL r)
end
end Go.Sx
namespace Go.Sx
def shapeB (k n:Int) (s:List UInt8) (len:Nat):Bool :=
 if k=1 then decide (-2147483647<=n) && decide (n<=2147483647) && decide (s=[]) && decide (len=0)
 else if k=2 then decide (n=0) && Lx.symbolB s && decide (len=0)
 else if k=3 then decide (n=0) && Lx.variableB s && decide (len=0)
 else if k=4 then decide (n=0) && Lx.symbolB s && decide (1<=len) && decide (len<=8)
 else if k=5 then decide (n=0) && (decide (s=[43]) || decide (s=[45]) || decide (s=[42]) || decide (s=[47]) || decide (s=[92])) && (decide (len=2) || decide (s=[45]) && decide (len=1))
 else if k=6 then decide (n=0) && decide (s=[]) && decide (len=2)
 else false
def Tm.shape:Tm->Bool
 | .mk k n s l=>shapeB k n s l.length
def Tm.valid (t:Tm):Bool:=decide (t.depth<=12) && t.all Tm.shape
end Go.Sx

/- ARITHMETIC,PLAIN. -/
namespace Go.Sx
def fitsB (n:Int):Bool:=decide (-2147483647<=n) && decide (n<=2147483647)
theorem fitsB_iff {n:Int}:fitsB n=true ↔ -2147483647<=n/\n<=2147483647:=by simp[fitsB]
def calc0 (op:List UInt8) (a b:Int):Option Int :=
 if op=[43] then some (a+b) else if op=[45] then some (a-b) else if op=[42] then some (a*b)
 else if op=[47] then (if b=0 then none else some (a.tdiv b)) else if op=[92] then (if b=0 then none else some (a.tmod b)) else none
def fitO (o:Option Int):Option Int:=match o with
 | some n=>if fitsB n=true then some n else none
 | none=>none
def calcR (op:List UInt8) (l:List Int):Option Int:=if l.all fitsB=true then (match l with
 | [a]=>if op=[45] then some (-a) else none
 | [a,b]=>fitO (calc0 op a b)
 | _=>none) else none
def resT (o:Option Int):D:= .tuple [.int .i64 (o.getD 0),.bool o.isSome]
theorem mul_fit {a b:Int} (ha:fitsB a=true) (hb:fitsB b=true): -4611686014132420609<=a*b/\a*b<=4611686014132420609:=by
 rw[fitsB_iff] at ha hb
 have h1:(a*b).natAbs<=2147483647*2147483647:=by
  rw[Int.natAbs_mul]
  exact Nat.mul_le_mul (by omega) (by omega)
 omega
theorem tdiv_fit {a b:Int} (ha:fitsB a=true):fitsB (a.tdiv b)=true:=by
 rw[fitsB_iff] at ha ⊢
 have h1:(a.tdiv b).natAbs<=a.natAbs:=by
  rw[Int.natAbs_tdiv]
  exact Nat.div_le_self _ _
 omega
end Go.Sx

/- ALL ROWS OF LISTS,PLAIN. -/
namespace Go.Sx
def insI (n:Int) (acc:List Int):List Int:=if n∈acc then acc else acc++[n]
def intD (l:List Int):List D:=l.map (.int .i64)
theorem mput_int (n:Int): ∀ acc:List Int,mput (.int .i64 n) (.int .i64 n) (intD acc) (intD acc)=some (intD (insI n acc),intD (insI n acc))
 | []=>rfl
 | a::r=>by
  have ih:=mput_int n r
  simp only[intD,List.map_cons,mput,keqD,if_true]
  by_cases h:n=a
  ·subst h
   simp[insI]
  ·have hd:decide (n=a)=false:=by simp[h]
   rw[hd]
   simp only[intD] at ih
   rw[ih]
   by_cases h2:n∈r
   ·simp[insI,h2]
   ·simp[insI,h2,h]
theorem insI_len (n:Int) (acc:List Int):acc.length<=(insI n acc).length:=by
 unfold insI
 split
 ·exact Nat.le_refl _
 ·simp
def opB (s:List UInt8) (row acc:List Int):List Int:=match calcR s row with
 | some n=>insI n acc
 | none=>acc
theorem opB_len (s:List UInt8) (row acc:List Int):acc.length<=(opB s row acc).length:=by
 unfold opB
 split
 ·exact insI_len _ _
 ·exact Nat.le_refl _
def fillS {α β:Type} (f:List α->β->β):List (List α)->Nat->List α × β->List α × β
 | [],_,p=>(p.1,f p.1 p.2)
 | l::ls,k,p=>l.foldl (fun p x=>fillS f ls (k+1) (p.1.set k x,p.2)) p
theorem fillS_len {α β:Type} {f:List α->β->β}: ∀ (ls:List (List α)) (k:Nat) (p:List α × β),(fillS f ls k p).1.length=p.1.length
 | [],_,_=>rfl
 | l::ls,k,p=>by
  simp only[fillS]
  have ih:=fillS_len (f:=f) ls (k+1)
  generalize fillS f ls (k+1)=g at ih
  revert p
  intro p
  induction l generalizing p with
  | nil=>rfl
  | cons x l ihl=>simp only[List.foldl_cons]; rw[ihl,ih]; simp
theorem fillS_mono {α β:Type} {f:List α->β->β} {z:β->Nat} (hz: ∀ r b,z b<=z (f r b)): ∀ (ls:List (List α)) (k:Nat) (p:List α × β),z p.2<=z (fillS f ls k p).2
 | [],_,p=>hz _ _
 | l::ls,k,p=>by
  simp only[fillS]
  have ih:=fillS_mono hz ls (k+1)
  generalize fillS f ls (k+1)=g at ih
  revert p
  intro p
  induction l generalizing p with
  | nil=>exact Nat.le_refl _
  | cons x l ihl=>simp only[List.foldl_cons]; exact Nat.le_trans (ih (p.1.set k x,p.2)) (ihl _)
theorem fold_mono {α β:Type} {f:List α->β->β} {z:β->Nat} (hz: ∀ r b,z b<=z (f r b)) (ls:List (List α)) (k:Nat): ∀ (l:List α) (p:List α × β),z p.2<=z (l.foldl (fun p x=>fillS f ls (k+1) (p.1.set k x,p.2)) p).2
 | [],p=>Nat.le_refl _
 | x::l,p=>by
  simp only[List.foldl_cons]
  exact Nat.le_trans (fillS_mono hz ls (k+1) (p.1.set k x,p.2)) (fold_mono hz ls k l _)
def prodL {α:Type}:List (List α)->List (List α)
 | []=>[[]]
 | l::ls=>l.flatMap fun x=>(prodL ls).map (x:: ·)
theorem fillS_prod {α β:Type} (f:List α->β->β): ∀ (ls:List (List α)) (k:Nat) (row:List α) (b:β),k+ls.length=row.length->(fillS f ls k (row,b)).2=(prodL ls).foldl (fun b r=>f (row.take k++r) b) b/\(fillS f ls k (row,b)).1.take k=row.take k
 | [],k,row,b,h=>by
  simp only[List.length_nil,Nat.add_zero] at h
  subst h
  simp[fillS,prodL]
 | l::ls,k,row,b,h=>by
  simp only[List.length_cons] at h
  have ih:=fillS_prod f ls (k+1)
  have hl:=fillS_len (f:=f) ls (k+1)
  simp only[fillS,prodL]
  generalize fillS f ls (k+1)=g at ih hl ⊢
  generalize hm:prodL ls=m at ih ⊢
  clear hm
  suffices H: ∀ (l:List α) (row:List α) (b:β),k+(ls.length+1)=row.length->(l.foldl (fun p x=>g (p.1.set k x,p.2)) (row,b)).2=(l.flatMap fun x=>m.map (x:: ·)).foldl (fun b r=>f (row.take k++r) b) b/\(l.foldl (fun p x=>g (p.1.set k x,p.2)) (row,b)).1.take k=row.take k from H l row b h
  intro l
  induction l with
  | nil=>intro row b _; exact⟨rfl,rfl⟩
  | cons x l ihl =>
   intro row b h
   obtain⟨h1,h2⟩:=ih (row.set k x) b (by simp; omega)
   have hl2:=hl (row.set k x,b)
   simp only[List.foldl_cons,List.flatMap_cons,List.foldl_append]
   have htk:(g (row.set k x,b)).1.take k=row.take k:=by
    have:=congrArg (List.take k) h2
    rw[List.take_take,List.take_take,Nat.min_eq_left (by omega)] at this
    rw[this]
    exact List.take_set_of_le (Nat.le_refl k)
   obtain⟨h3,h4⟩:=ihl (g (row.set k x,b)).1 (g (row.set k x,b)).2 (by rw[hl2]; simpa using h)
   rw[htk] at h3 h4
   refine⟨?_,h4⟩
   rw[h3,h1,List.foldl_map]
   have ht:(row.set k x).take (k+1)=row.take k++[x]:=by
    rw[List.take_add_one]
    rw[List.take_set_of_le (Nat.le_refl k),List.getElem?_set_self (by omega)]
    rfl
   rw[ht]
   simp only[List.append_assoc,List.singleton_append]
def numT (n:Int):Tm:= .mk 1 n [] []
def numC (l:List Int):List (List D):=l.map fun n=>[.int .u8 1,.int .i64 n,.str [],.slice [] []]
theorem numC_cells (l:List Int):numC l=Tm.cellsL (l.map numT):=by
 rw[cellsL_map]
 simp[numC,numT,Tm.cells,Tm.cellsL]
def Tm.int? : Tm->Option Int
 | .mk k n _ _=>if k=1 then some n else none
def intsT (l:List Tm):List Int:=l.filterMap Tm.int?
theorem intsT_cons (k:Nat) (n:Int) (s:List UInt8) (a r:List Tm):intsT (.mk k n s a::r)=if k=1 then n::intsT r else intsT r:=by
 by_cases h:k=1
 ·simp only[intsT,List.filterMap_cons,Tm.int?,if_pos h]
 ·simp only[intsT,List.filterMap_cons,Tm.int?,if_neg h]
theorem full_ix {n:Nat} {ix:List Nat} (hnd:ix.Nodup) (hlt: ∀ i∈ix,i<n) (hl:n<=ix.length) (i:Nat) (hi:i<n):i∈ix:=by
 by_cases h:i∈ix
 ·exact h
 ·have:=List.Nodup.length_le_of_subset (List.nodup_cons.2 ⟨h,hnd⟩) (l₂:=List.range n) (fun j hj=>by
   rcases List.mem_cons.1 hj with rfl | hj
   ·exact List.mem_range.2 hi
   ·exact List.mem_range.2 (hlt j hj))
  simp at this
  omega
theorem perm_ix {acc:List Int} {ix:List Nat} (hnd:ix.Nodup) (hlt: ∀ i∈ix,i<acc.length) (hall: ∀ i,i<acc.length->i∈ix):(ix.map fun i=>acc.getD i 0).Perm acc:=by
 have h:ix.Perm (List.range acc.length):=(List.perm_ext_iff_of_nodup hnd List.nodup_range).2 fun i=>⟨fun hi=>List.mem_range.2 (hlt i hi),fun hi=>hall i (List.mem_range.1 hi)⟩
 refine (h.map _).trans ?_
 have e:(List.range acc.length).map (fun i=>acc.getD i 0)=acc:=by
  refine List.ext_getElem? fun j=> ?_
  rw[List.getElem?_map]
  by_cases hj:j<acc.length
  ·simp[hj]
  ·rw[List.getElem?_eq_none (by simpa using hj),List.getElem?_eq_none (by omega)]; rfl
 rw[e]
end Go.Sx

/- Terms: plain,ground,their depth. -/
namespace Go.Sx
theorem allL_eq (h:Tm->Bool): ∀ l:List Tm,Tm.allL h l=l.all fun x=>x.all h
 | []=>rfl
 | a::r=>by simp only[Tm.allL,List.all_cons]; rw[allL_eq h r]
def Tm.plain:Tm->Bool
 | .mk k _ _ _=>decide (k=1) || decide (k=2) || decide (k=4)
def Tm.gr:Tm->Bool
 | .mk k _ _ _=> !decide (k=3)
theorem depthL_le {M:Nat}: ∀ {l:List Tm},(∀ x∈l,x.depth<=M)->Tm.depthL l<=M
 | [],_=>by simp[Tm.depthL]
 | a::r,h=>by
  simp only[Tm.depthL]
  exact Nat.max_le.2 ⟨h a (List.mem_cons_self ..),depthL_le fun x hx=>h x (List.mem_cons_of_mem _ hx)⟩
theorem depthL_mem0 {l:List Tm} {x:Tm} (h:x∈l):x.depth<=Tm.depthL l:=by
 induction l with
 | nil=>cases h
 | cons a r ih =>
  simp only[Tm.depthL]
  rcases List.mem_cons.1 h with rfl | h
  ·exact Nat.le_max_left ..
  ·exact Nat.le_trans (ih h) (Nat.le_max_right ..)
mutual
theorem sz_depth: ∀ (t:Tm) (m:Int),t.sz m<=m->(t.depth:Int)<=m
 | .mk k n s l,m,h=>by
  simp only[Tm.sz] at h
  have:=szL_depth l (m-1) 0 (by omega)
  simp only[Tm.depth]
  omega
theorem szL_depth: ∀ (l:List Tm) (m n:Int),Tm.szL l m n<=m->(Tm.depthL l:Int)<=m-n
 | [],m,n,h=>by
  simp only[Tm.szL] at h
  simp only[Tm.depthL]
  omega
 | a::r,m,n,h=>by
  simp only[Tm.szL] at h
  simp only[Tm.depthL]
  split at h
  ·have h0:=sz_ge a (m-n)
   have h1:=szL_ge r m (n+a.sz (m-n))
   have h2:=szL_depth r m (n+a.sz (m-n)) h
   have h3:=sz_depth a (m-n) (by omega)
   have:Nat.max a.depth (Tm.depthL r)=a.depth\/Nat.max a.depth (Tm.depthL r)=Tm.depthL r:=by
    rcases Nat.le_total a.depth (Tm.depthL r) with h | h
    ·exact .inr (Nat.max_eq_right h)
    ·exact .inl (Nat.max_eq_left h)
   omega
  ·omega
end
theorem all_split {h:Tm->Bool} {k:Nat} {n:Int} {s:List UInt8} {l:List Tm}:(Tm.mk k n s l).all h=true ↔ h (.mk k n s l)=true/\ ∀ x∈l,x.all h=true:=by
 rw[Tm.all,allL_eq,Bool.and_eq_true,List.all_eq_true]
def Tm.value (t:Tm):Bool:=t.all Tm.plain && t.valid
end Go.Sx

/- EVALUATION OF TERMS WITHOUT INTERVALS,PLAIN. -/
namespace Go.Sx
def numsAll:List Tm->Option (List Int)
 | []=>some []
 | a::r=>match a.int?,numsAll r with
  | some n,some l=>some (n::l)
  | _,_=>none
def consO (a:Option Tm) (r:Option (List Tm)):Option (List Tm):=match a,r with
 | some x,some l=>some (x::l)
 | _,_=>none
def evK (k:Nat) (s:List UInt8) (o:Option (List Tm)):Option Tm:=match o with
 | none=>none
 | some vs=>if k=5 then (match numsAll vs with
  | some l=>(calcR s l).map numT
  | none=>none) else some (.mk 4 0 s vs)
mutual
def Tm.ev:Tm->Option Tm
 | .mk k n s l=>if l.isEmpty=true then some (.mk k n s []) else evK k s (Tm.evL l)
def Tm.evL:List Tm->Option (List Tm)
 | []=>some []
 | a::r=>consO a.ev (Tm.evL r)
end
def Tm.ns:Tm->Bool
 | .mk k _ _ _=> !decide (k=6)
def Tm.eval (t:Tm):Option Tm:=if (t.valid && (t.all Tm.gr && t.all Tm.ns))=true then t.ev else none
def Tm.ex (t:Tm):List Tm:=t.ev.toList
theorem prod_ex: ∀ l:List Tm,prodL (l.map Tm.ex)=(Tm.evL l).toList
 | []=>rfl
 | a::r=>by
  rw[List.map_cons,prodL,prod_ex r,Tm.evL]
  unfold Tm.ex consO
  cases a.ev with
  | none=>rfl
  | some x=>cases Tm.evL r <;> rfl
theorem ex_none {l:List Tm}:(Tm.evL l).isSome=(l.map Tm.ex).all fun p=> !p.isEmpty:=by
 induction l with
 | nil=>rfl
 | cons a r ih =>
  rw[Tm.evL,List.map_cons,List.all_cons,<- ih]
  unfold Tm.ex consO
  cases a.ev <;> cases Tm.evL r <;> rfl
theorem prod_int: ∀ l:List Tm,prodL ((l.map Tm.ex).map intsT)=((Tm.evL l).bind numsAll).toList
 | []=>rfl
 | a::r=>by
  rw[List.map_cons,List.map_cons,prodL,prod_int r,Tm.evL]
  unfold Tm.ex consO
  cases a.ev with
  | none=>rfl
  | some x =>
   cases hr:Tm.evL r with
   | none=>simp
   | some q =>
    simp only[Option.toList_some,Option.bind_some,numsAll]
    unfold intsT
    simp only[List.filterMap_cons,List.filterMap_nil]
    cases x.int? with
    | none=>rfl
    | some n=>cases numsAll q <;> rfl
theorem op_ex (s:List UInt8) (l:List Tm):(fillS (opB s) ((l.map Tm.ex).map intsT) 0 (List.replicate (l.map Tm.ex).length 0,[])).2=(((Tm.evL l).bind numsAll).bind (calcR s)).toList:=by
 rw[(fillS_prod (opB s) _ 0 _ [] (by simp)).1,prod_int]
 cases (Tm.evL l).bind numsAll with
 | none=>rfl
 | some q =>
  simp only[Option.toList_some,List.foldl_cons,List.foldl_nil,List.take_zero,List.nil_append,Option.bind_some]
  unfold opB
  cases calcR s q with
  | none=>rfl
  | some n=>rfl
theorem calcR_fits {s:List UInt8} {l:List Int} {n:Int} (h:calcR s l=some n):fitsB n=true:=by
 unfold calcR at h
 split at h
 ·rename_i hf
  split at h
  ·split at h
   ·cases h
    rename_i a _
    have:=fitsB_iff.1 (show fitsB a=true by simpa using hf)
    rw[fitsB_iff]; omega
   ·cases h
  ·unfold fitO at h
   split at h
   ·split at h
    ·rename_i hn; cases h; exact hn
    ·cases h
   ·cases h
  ·cases h
 ·cases h
theorem evL_len: ∀ {l vs:List Tm},Tm.evL l=some vs->vs.length=l.length
 | [],vs,h=>by cases h; rfl
 | a::r,vs,h=>by
  rw[Tm.evL] at h
  unfold consO at h
  split at h
  ·rename_i x q h1 h2; cases h; simp[evL_len h2]
  ·cases h
theorem evL_get: ∀ {l vs:List Tm},Tm.evL l=some vs-> ∀ (i:Nat) (h:i<l.length) (h':i<vs.length),l[i].ev=some vs[i]
 | [],vs,h,i,hi,_=>by simp at hi
 | a::r,vs,h,i,hi,hi'=>by
  rw[Tm.evL] at h
  unfold consO at h
  split at h
  ·rename_i x q h1 h2
   cases h
   cases i with
   | zero=>exact h1
   | succ i=>exact evL_get h2 i (by simpa using hi) (by simpa using hi')
  ·cases h
theorem evL_mem {l vs:List Tm} (h:Tm.evL l=some vs) {y:Tm} (hy:y∈vs): ∃ x∈l,x.ev=some y:=by
 obtain⟨i,hi,rfl⟩:=List.getElem_of_mem hy
 have hl:=evL_len h
 exact⟨l[i],List.getElem_mem _,evL_get h i (by omega) hi⟩
theorem shape_kids {k:Nat} {n:Int} {s:List UInt8} {l:List Tm} (h:Tm.shape (.mk k n s l)=true) (hl:l≠[]) (h6:k≠6):k=4/\n=0/\Lx.symbolB s=true/\l.length<=8\/k=5:=by
 have h1:l.length≠0:=fun e=>hl (List.length_eq_zero_iff.1 e)
 simp only[Tm.shape,shapeB] at h
 (repeat' split at h) <;> simp_all <;> omega
theorem numT_value {n:Int} (h:fitsB n=true):(numT n).all Tm.plain=true/\(numT n).all Tm.shape=true/\(numT n).depth=1:=by
 rw[fitsB_iff] at h
 refine⟨rfl, ?_,rfl⟩
 simp[numT,Tm.all,Tm.allL,Tm.shape,shapeB,h.1,h.2]
theorem ev_value: ∀ (t v:Tm),t.all Tm.shape=true->t.all Tm.gr=true->t.all Tm.ns=true->t.ev=some v->v.all Tm.plain=true/\v.all Tm.shape=true/\v.depth<=t.depth
 | .mk k n s l,v,hs,hg,hn,h=>by
  rw[Tm.ev] at h
  have hs:=all_split.1 hs
  have hg:=all_split.1 hg
  have hn:=all_split.1 hn
  split at h
  ·rename_i he
   have he:l=[]:=List.isEmpty_iff.1 he
   subst he
   cases h
   refine⟨?_,by rw[all_split]; exact hs,Nat.le_refl _⟩
   rw[all_split]
   refine⟨?_,fun x hx=>by cases hx⟩
   have h1:=hs.1
   have h2:=hg.1
   have h3:=hn.1
   simp only[Tm.gr,Tm.ns,Tm.plain,Bool.not_eq_true',decide_eq_false_iff_not,Bool.or_eq_true,decide_eq_true_eq] at h2 h3 ⊢
   simp only[Tm.shape,shapeB] at h1
   (repeat' split at h1) <;> simp_all <;> omega
  ·rename_i he
   have he:l≠[]:=fun e=>he (by rw[e]; rfl)
   have h6:k≠6:=by simpa [Tm.ns] using hn.1
   unfold evK at h
   split at h
   ·cases h
   ·rename_i vs hvs
    split at h
    ·split at h
     ·rename_i ns hns
      cases hq:calcR s ns with
      | none=>rw[hq] at h; cases h
      | some m =>
       rw[hq] at h
       cases h
       have hv:=numT_value (calcR_fits hq)
       refine⟨hv.1,hv.2.1, ?_⟩
       rw[hv.2.2]
       simp[Tm.depth]
     ·cases h
    ·rename_i h5
     cases h
     have hk:=shape_kids hs.1 he h6
     rcases hk with ⟨rfl,rfl,hsy,hln⟩ | hk
     rotate_left
     ·exact absurd hk h5
     have hlen:=evL_len hvs
     have hkid: ∀ y∈vs, ∃ x∈l,y.all Tm.plain=true/\y.all Tm.shape=true/\y.depth<=x.depth:=fun y hy=>by
      obtain⟨x,hx,hxe⟩:=evL_mem hvs hy
      exact⟨x,hx,ev_value x y (hs.2 x hx) (hg.2 x hx) (hn.2 x hx) hxe⟩
     refine⟨?_, ?_, ?_⟩
     ·rw[all_split]
      exact⟨rfl,fun y hy=>(hkid y hy).elim fun x hx=>hx.2.1⟩
     ·rw[all_split]
      refine⟨?_,fun y hy=>(hkid y hy).elim fun x hx=>hx.2.2.1⟩
      have:=hs.1
      simp only[Tm.shape] at this ⊢
      rw[hlen]; exact this
     ·simp only[Tm.depth]
      have:Tm.depthL vs<=Tm.depthL l:=depthL_le fun y hy=>by
       obtain⟨x,hx,_,_,hd⟩:=hkid y hy
       exact Nat.le_trans hd (depthL_mem0 hx)
      omega
termination_by t=>SizeOf.sizeOf t
decreasing_by
 have:=List.sizeOf_lt_of_mem hx
 simp only[Tm.mk.sizeOf_spec]
 omega
theorem valid_iff {t:Tm}:t.valid=true ↔ t.depth<=12/\t.all Tm.shape=true:=by simp[Tm.valid]
theorem eval_some {t v:Tm} (h:t.eval=some v):t.valid=true/\t.all Tm.gr=true/\t.all Tm.ns=true/\t.ev=some v:=by
 unfold Tm.eval at h
 split at h
 ·rename_i hc
  simp only[Bool.and_eq_true] at hc
  exact⟨hc.1,hc.2.1,hc.2.2,h⟩
 ·cases h
theorem eval_of {t:Tm} (h1:t.valid=true) (h2:t.all Tm.gr=true) (h3:t.all Tm.ns=true):t.eval=t.ev:=by
 unfold Tm.eval
 rw[if_pos (by simp[h1,h2,h3])]
theorem eval_value {t v:Tm} (h:t.eval=some v):v.value=true/\v.depth<=t.depth:=by
 obtain⟨h1,h2,h3,h4⟩:=eval_some h
 obtain⟨hd,hs⟩:=valid_iff.1 h1
 obtain⟨e1,e2,e3⟩:=ev_value t v hs h2 h3 h4
 refine⟨?_,e3⟩
 unfold Tm.value
 rw[e1,Bool.true_and,valid_iff]
 exact⟨by omega,e2⟩
def Tm.num:Tm->Int
 | .mk _ n _ _=>n
def anyI (h:Tm->Bool):List Tm->Int->Int
 | [],_=> -1
 | a::r,i=>if h a=true then i else anyI h r (i+1)
theorem anyI_ge (h:Tm->Bool): ∀ (l:List Tm) (i:Int),0<=i->decide (0<=anyI h l i)=l.any h
 | [],i,_=>by simp[anyI]
 | a::r,i,hi=>by
  have ih:=anyI_ge h r (i+1) (by omega)
  by_cases hf:h a=true
  ·simp[anyI,hf,hi]
  ·simp only[anyI,if_neg hf,List.any_cons,Bool.not_eq_true _ ▸ hf,Bool.false_or]; exact ih
def Tm.sp (t:Tm):Bool:= !t.all Tm.ns
theorem sp_kids (k:Nat) (n:Int) (s:List UInt8) (l:List Tm):(Tm.mk k n s l).sp=(decide (k=6) || l.any Tm.sp):=by
 unfold Tm.sp
 rw[Tm.all,allL_eq,Tm.ns,Bool.not_and,Bool.not_not,List.not_all_eq_any_not]
theorem cellsL_app (a b:List Tm):Tm.cellsL (a++b)=Tm.cellsL a++Tm.cellsL b:=by simp[cellsL_map]
theorem cellsL_set (row:List Tm) (i kx:Nat) (nx:Int) (sx:List UInt8) (ax:List Tm):(Tm.cellsL row).set i [.int .u8 (kx:Int),.int .i64 nx,.str sx,.slice (Tm.cellsL ax) []]=Tm.cellsL (row.set i (.mk kx nx sx ax)):=by
 rw[cellsL_map row,cellsL_map (row.set i _),List.map_set]; rfl
def outF (s:List UInt8) (row acc:List Tm):List Tm:=acc++[.mk 4 0 s row]
theorem outF_len (s:List UInt8) (row acc:List Tm):acc.length<=(outF s row acc).length:=by simp[outF]
theorem foldl_outF (s:List UInt8): ∀ (l:List (List Tm)) (acc:List Tm),l.foldl (fun b r=>outF s ([]++r) b) acc=acc++l.map (fun r=> .mk 4 0 s r)
 | [],acc=>by simp
 | a::r,acc=>by rw[List.foldl_cons,foldl_outF s r]; simp[outF]
theorem funs_prod (s:List UInt8) (L:List (List Tm)) (row:List Tm) (h:row.length=L.length):(fillS (outF s) L 0 (row,[])).2=(prodL L).map (fun r=> .mk 4 0 s r):=by
 rw[(fillS_prod (outF s) L 0 row [] (by omega)).1,List.take_zero,foldl_outF,List.nil_append]
theorem prodL_len {α:Type}: ∀ L:List (List α),(prodL L).length=(L.map List.length).prod
 | []=>rfl
 | l::ls=>by
  rw[prodL,List.map_cons,List.prod_cons,<- prodL_len ls]
  induction l with
  | nil=>simp
  | cons a r ih=>simp only[List.flatMap_cons,List.length_append,List.length_map,List.length_cons,ih,Nat.succ_mul,Nat.add_comm]
theorem ev_few {N:Nat}: ∀ (t v:Tm),t.few N->t.ev=some v->v.few N
 | .mk k n s l,v,hw,h=>by
  simp only[Tm.few] at hw
  obtain⟨hl,hwl⟩:=hw
  rw[Tm.ev] at h
  split at h
  ·cases h
   simp only[Tm.few]
   exact⟨Nat.zero_le _,trivial⟩
  ·unfold evK at h
   split at h
   ·cases h
   ·rename_i vs hvs
    split at h
    ·split at h
     ·rename_i ns hns
      cases hq:calcR s ns with
      | none=>rw[hq] at h; cases h
      | some m =>
       rw[hq] at h
       cases h
       simp only[numT,Tm.few,List.length_nil]
       exact⟨Nat.zero_le _,trivial⟩
     ·cases h
    ·cases h
     simp only[Tm.few]
     refine⟨by rw[evL_len hvs]; exact hl, ?_⟩
     rw[fewL_all]
     intro y hy
     obtain⟨x,hx,hxe⟩:=evL_mem hvs hy
     exact ev_few x y (fewL_all.1 hwl x hx) hxe
termination_by t=>SizeOf.sizeOf t
decreasing_by
 have:=List.sizeOf_lt_of_mem hx
 simp only[Tm.mk.sizeOf_spec]
 omega
theorem op_list (s:List UInt8) (l:List Tm):numC (((Tm.evL l).bind numsAll).bind (calcR s)).toList=Tm.cellsL (evK 5 s (Tm.evL l)).toList:=by
 rw[numC_cells]
 unfold evK
 cases Tm.evL l with
 | none=>rfl
 | some vs =>
  simp only[Option.bind_some,if_true]
  cases numsAll vs with
  | none=>rfl
  | some ns =>
   simp only[Option.bind_some]
   cases calcR s ns <;> rfl
theorem ex_len (t:Tm):t.ex.length<=1:=by
 unfold Tm.ex
 cases t.ev <;> simp
theorem ex_mk {k:Nat} {n:Int} {s:List UInt8} {l:List Tm} (h:l≠[]):(Tm.mk k n s l).ex=(evK k s (Tm.evL l)).toList:=by
 unfold Tm.ex
 rw[Tm.ev,if_neg (by simpa using h)]
theorem prod_one: ∀ L:List (List Tm),(∀ l∈L,l.length<=1)->(L.map List.length).prod<=1
 | [],_=>by simp
 | l::r,h=>by
  rw[List.map_cons,List.prod_cons]
  have h1:=h l (List.mem_cons_self ..)
  have h2:=prod_one r fun x hx=>h x (List.mem_cons_of_mem _ hx)
  exact Nat.le_trans (Nat.mul_le_mul h1 h2) (by decide)
end Go.Sx

/- AN OWN ROW THAT A CALL HANDS BACK IS NO MORE WRITTEN TO. -/
namespace Go.Sx
open Go.RowKit
variable [Globs] [Codes]
variable {P:Program}

def memF (φ:Mem) (g n:Nat) (xs:List Value):Mem:=fun b o=>if b=g then (if o<n then xs[o]? else none) else φ b o
theorem CallL.frz {d:D} {args:List D} {ob:Obs} {sz:Nat} {e:TypeId} {es:List (List D)} {i0:Nat} (hc:CallL P d args ob fun r o=>r= .vec i0/\o=[(i0,.arr false sz e es)]):CallL P d args ob fun r o=>r= .vec i0/\o=[(i0,.arr true sz e es)]:=by
 intro F hF n φ h w v vs hp hv hvs
 refine (hc F hF n φ h w v vs hp hv hvs).mono ?_
 intro e' w' hpost
 obtain⟨u,r0,ob0,φ',h',rfl,⟨rfl,rfl⟩,hrv,ha⟩:=hpost.dest fun r o hr=>by rw[hr.1]; rfl
 have hob:=ha.loc.obj i0 (.arr false sz e es) (by simp[lk])
 obtain⟨h0,hsz,xs,hown,hrep,hb⟩:=hob
 rcases hown.2 with ⟨hnil,hlen⟩ | ⟨g,cap,cur,hv',hge,hblk,hn,hcap,hcs,htk⟩
 ·-- nothing there
  have hbn:blk (h' i0)=none:=by rw[hnil]; rfl
  refine .ret ⟨rfl,rfl⟩ (φ':=φ') (h':=h') hrv ⟨⟨ha.loc.one,ha.loc.glob.sub fun b ⟨i,hi,hbi⟩=> ?_,ha.loc.mem,fun i o ho=> ?_,fun i j b hi hj hbi hbj=> ?_⟩,ha.ext,ha.new,ha.frame,ha.hfix,ha.os,ha.tape,ha.output,ha.grow⟩
  ·simp only[lk] at hi
   split at hi
   ·rename_i e; subst e; rw[hbn] at hbi; cases hbi
   ·cases hi
  ·simp only[lk] at ho
   split at ho
   ·rename_i e; subst e; cases ho
    exact⟨h0,hsz,xs,hown,hrep,fun b hb'=>by rw[hbn] at hb'; cases hb'⟩
   ·cases ho
  ·simp only[lk] at hi hj
   split at hi
   ·split at hj
    ·omega
    ·cases hj
   ·cases hi
 ·have hbg:blk (h' i0)=some g:=by rw[hv']; rfl
  obtain⟨hog,hφ0⟩:=hb g hbg
  have hφ0: ∀ o,φ' g o=none:=fun o=>by rw[hφ0 o]; simp
  obtain⟨φ2,hφd⟩: ∃ m,m=memF φ' g (es.length*sz) xs:=⟨_,rfl⟩
  have hφn: ∀ b o,b≠g->φ2 b o=φ' b o:=fun b o hb=>by rw[hφd]; exact if_neg hb
  have hφm: ∀ b o v,φ' b o=some v->φ2 b o=some v:=fun b o v hv=>by
   have hbg:b≠g:=fun e=>by rw[e,hφ0 o] at hv; cases hv
   rw[hφn b o hbg]; exact hv
  have hφg: ∀ o,φ2 g o=if o<es.length*sz then xs[o]? else none:=fun o=>by rw[hφd]; exact if_pos rfl
  have hZe: ∀ b,ZOf [(i0,Ob.arr true sz e es)] h' b->ZOf [(i0,Ob.arr false sz e es)] h' b:=by
   rintro b ⟨i,hi,hbi⟩
   simp only[lk] at hi
   split at hi
   ·rename_i e; subst e; exact⟨i,by simp[lk],hbi⟩
   ·cases hi
  have hcell: ∀ o,o<es.length*sz->w'.cell? ⟨g,o,none⟩=xs[o]? := fun o ho=>by
   have h1:(cur.toList.take (es.length*sz))[o]? = xs[o]? := by rw[htk]
   rw[List.getElem?_take_of_lt ho,Array.getElem?_toList] at h1
   simp only[World.cell?,hblk]
   rw[<- h1]
   simp
  refine .ret ⟨rfl,rfl⟩ (φ':=φ2) (h':=h') (hrv.mono hφm) ⟨⟨ha.loc.one,⟨fun g' cs hgc=>(ha.loc.glob.ok g' cs hgc).mono hφm,fun g' arr hx=> ?_,fun g' hx=> ?_⟩,fun b o u hu=> ?_,fun i o ho=> ?_,fun i j b hi hj _ _=> ?_⟩,fun b o v hv=>hφm _ _ _ (ha.ext b o v hv),fun b o u h1 h2=> ?_,ha.frame,fun i hi=>ha.hfix i hi,ha.os,ha.tape,ha.output,ha.grow⟩
  ·obtain⟨hw,hz⟩:=ha.loc.glob.x g' arr hx
   exact⟨hw,fun hz'=>hz (hZe _ hz')⟩
  ·obtain⟨hw,hz⟩:=ha.loc.glob.i g' hx
   exact⟨hw,fun hz'=>hz (hZe _ hz')⟩
  ·by_cases hbg:b=g
   ·subst hbg
    rw[hφg] at hu
    split at hu
    ·rename_i ho; rw[hcell o ho]; exact hu
    ·cases hu
   ·rw[hφn b o hbg] at hu
    exact ha.loc.mem b o u hu
  ·simp only[lk] at ho
   split at ho
   ·rename_i e; subst e; cases ho
    refine⟨h0,hsz,xs,hown,fun i x j d hi hj=>(hrep i x j d hi hj).mono hφm,fun b hb'=> ?_⟩
    rw[hbg] at hb'
    cases hb'
    exact⟨hog,fun o=>by rw[hφg o]; simp⟩
   ·cases ho
  ·simp only[lk] at hi hj
   split at hi
   ·split at hj
    ·omega
    ·cases hj
   ·cases hi
  ·by_cases hbg:b=g
   ·exact hbg ▸ hog
   ·rw[hφn b o hbg] at h1
    exact ha.new b o u h1 h2
end Go.Sx

/- Laws of the lexer. -/
namespace Go.Sx.Lx
open Go.Sx

def run (o:Nat) (l:List UInt8):List Tk × Option (Nat × Int) × Nat:=toksF (l.length+1) (o+skp false l) (l.drop (skp false l))
def shift (d:Nat) (r:List Tk × Option (Nat × Int) × Nat):List Tk × Option (Nat × Int) × Nat:=(r.1.map fun t=>(t.1,t.2.1,t.2.2+d),r.2.1.map fun e=>(e.1+d,e.2),r.2.2+d)
end Go.Sx.Lx
namespace Go.Sx.Lx
end Go.Sx.Lx
namespace Go.Sx.Lx
end Go.Sx.Lx
namespace Go.Sx.Lx
end Go.Sx.Lx
namespace Go.Sx.Lx
def fills:List (List UInt8):=[[32],[10],[9,32],[37,10],[32,37,32,97,46,32,35,120,10],[13,10]]
def pickF (g:Int):Int:=pickG g 6
def fillOf (g:Int):List UInt8:=fills.getD (pickF g).toNat []
def gapF (gs:List Int) (i:Nat):Int:=if i<gs.length then gs.getD i 0 else i
def finB (gs:List Int):Nat->List Tk->List UInt8->List Int->List UInt8 × List Int
 | _,[],s,o=>(s,o)
 | i,t::r,s,o=>finB gs (i+1) r (s++fillOf (gapF gs i)++t.2.1) (o++[((s++fillOf (gapF gs i)).length:Int)])
end Go.Sx.Lx

/- The reference model's lexer,plainly: its tests are the lexer's. -/
namespace Go.Sx.Lx
open Go.Sx
end Go.Sx.Lx

/- Numbers and signs of the reference model. -/
namespace Go.Sx.Lx
open Go.Sx
def valN (a:Nat) (l:List UInt8):Nat:=l.foldl (fun a c=>a*10+(c.toNat-48)) a
attribute [irreducible] valN
end Go.Sx.Lx

/- The lexer's run,byte by byte. -/
namespace Go.Sx.Lx
open Go.Sx
/- What a token is,by its first byte. -/
end Go.Sx.Lx

/- OWN ROWS OF TEXTS,SORTED AND MADE COMPACT IN PLACE BY THE LIBRARY. -/
namespace Go.Sx
open Go.RowKit Go.Sort
open Go.Proofs (encStr)
variable [Globs] [Codes]
variable {P:Program} {f:FuncId}

def srt (l:List (List UInt8)):List (List UInt8):=l.mergeSort fun x y=>decide (x<=y)
end Go.Sx
/- The variables of a term. -/
namespace Go.Sx
def Tm.v1:Tm->List (List UInt8)
 | .mk k _ s _=>if k=3 then [s] else []
mutual
def Tm.vs:Tm->List (List UInt8)
 | .mk k n s l=>Tm.v1 (.mk k n s l)++Tm.vsL l
def Tm.vsL:List Tm->List (List UInt8)
 | []=>[]
 | a::r=>a.vs++Tm.vsL r
end
end Go.Sx
