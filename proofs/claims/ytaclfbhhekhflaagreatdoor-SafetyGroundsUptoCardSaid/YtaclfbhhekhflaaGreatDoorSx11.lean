/- Own work: a layer over the kit: plain data,a walk over it,its soundness. -/
import Derived.Lib.ItoaNum
import Derived.Lib.Join
import Derived.Test.YtaclfbhhekhflaaGreatDoorSx10
import Derived.Test.YtaclfbhhekhflaaGreatDoorSx8
import Derived.Test.YtaclfbhhekhflaaGreatDoorSx9
import Derived.Test.YtaclfbhhekhflaaGreatDoorSx7
set_option linter.all false
/- SETS OF NAMES: their order forgotten;a copy of a map. -/
namespace Go.Sx
open Go.RowKit
variable [Globs] [Codes]
variable {P:Program}
def Ob.wk (o o':Ob):Prop:=∀ {own:Nat->Prop} {φ:Mem} {h:Nat->Value} {w:World} {hv:Value},ObR own φ h w hv o->ObR own φ h w hv o'
theorem Ob.wk_refl (o:Ob):o.wk o:=λh=>h
theorem Zhh {ks a:List D} {z:D} (hp:a.Perm ks):(Ob.gen (.mapC a (a.map λ_=>z)) []).wk (.gen (.mapS ks z) []):=by
 intro own φ h w hv ⟨b,vals,o,h1,h2,c,d,e,f,g⟩;exact⟨b,vals,o,h1,h2,c,⟨a,hp,d⟩,e,f,g⟩
def Obs.wk (a b:Obs):Prop:=∀ i,(lk a i=none/\lk b i=none)\/ ∃ o o',lk a i=some o/\lk b i=some o'/\o.wk o'
theorem Obs.wk_refl (a:Obs):Obs.wk a a:=λi=>by
 cases h:lk a i with
 |none=>exact .inl ⟨rfl,rfl⟩
 |some o=>exact .inr ⟨o,o,rfl,rfl,Ob.wk_refl o⟩
theorem Obs.wk_cons {i:Nat} {o o':Ob} {a b:Obs} (h:o.wk o') (hr:Obs.wk a b):Obs.wk ((i,o)::a) ((i,o')::b):=λj=>by
 simp only[lk];by_cases c:j=i
 ·rw[if_pos c,if_pos c];exact .inr ⟨o,o',rfl,rfl,h⟩
 ·rw[if_neg c,if_neg c];exact hr j
theorem Obs.wk_some {a b:Obs} (h:Obs.wk a b) (i:Nat):(lk b i).isSome=(lk a i).isSome:=by
 rcases h i with⟨h1,h2⟩|⟨o,o',h1,h2,_⟩<;>rw[h1,h2]<;>rfl
theorem Loc.wk {own:Nat->Prop} {a b:Obs} {φ:Mem} {h:Nat->Value} {w:World} (d:Obs.wk a b) (hl:Loc own a φ h w):Loc own b φ h w :=
 ⟨hl.one,hl.glob.sub λx ⟨i,hi,f⟩=>⟨i,by rw[<- Obs.wk_some d];exact hi,f⟩,hl.mem,λi o c=>by
  rcases d i with⟨_,h2⟩|⟨o1,o2,h1,h2,e⟩
  ·rw[h2] at c;cases c
  ·rw[h2] at c;cases c;exact e (hl.obj i o1 h1),λi j x hi g=>hl.sep i j x (by rw[<- Obs.wk_some d];exact hi) (by rw[<- Obs.wk_some d];exact g)⟩
theorem CallL.wk {d:D} {args:List D} {ob:Obs} {R R':D->Obs->Prop} (h:CallL P d args ob R) (i: ∀ r o,R r o-> ∃ o',R' r o'/\Obs.wk o o'):CallL P d args ob R':=by
 intro F c n φ hh w v vs hp hv b;refine (h F c n φ hh w v vs hp hv b).mono ?_;rintro e w' ⟨r,o,φ',h',g,f,ha⟩;obtain⟨o',a,hk⟩:=i r o f;exact⟨r,o',φ',h',g,a,⟨ha.loc.wk hk,ha.ext,ha.new,ha.frame,ha.hfix,ha.os,ha.tape,ha.output,ha.grow⟩⟩
theorem ZfD {own:Nat->Prop} {φ:Mem} {h:Nat->Value} {w:World} {hv:Value} {ks:List D} {z:D} (c:ObR own φ h w hv (.gen (.mapS ks z) [])): ∃ a:List D,a.Perm ks/\ObR own φ h w hv (.gen (.mapC a (a.map λ_=>z)) []):=by
 obtain⟨b,vals,o,h1,h2,d,⟨a,hp,e⟩,f,g,i⟩:=c;exact⟨a,hp,b,vals,o,h1,h2,d,e,f,g,i⟩
theorem CallL.ofS {d:D} {args:List D} {ks:List D} {z:D} {i:Nat} {ob:Obs} {R:D->Obs->Prop} (H: ∀ c:List D,c.Perm ks->CallL P d args ((i,.gen (.mapC c (c.map λ_=>z)) [])::ob) R):CallL P d args ((i,.gen (.mapS ks z) [])::ob) R:=by
 intro F t n φ hh w v vs hp hv s;obtain⟨c,q,p⟩:=ZfD (hp.obj i (.gen (.mapS ks z) []) (by simp[lk]));have a: ∀ j,(lk ((i,Ob.gen (.mapC c (c.map λ_=>z)) [])::ob) j).isSome=(lk ((i,Ob.gen (.mapS ks z) [])::ob) j).isSome:=λj=>by
  simp only[lk];split<;>rfl
 have m: ∀ b,ZOf ((i,Ob.gen (.mapC c (c.map λ_=>z)) [])::ob) hh b ↔ ZOf ((i,Ob.gen (.mapS ks z) [])::ob) hh b:=λb=>by
  constructor<;>rintro⟨j,g,f⟩
  ·exact⟨j,by rw[<- a];exact g,f⟩
  ·exact⟨j,by rw[a];exact g,f⟩
 have hl:Loc (λ_=>True) ((i,.gen (.mapC c (c.map λ_=>z)) [])::ob) φ hh w:=by
  refine⟨hp.one,hp.glob.sub λb f=>(m b).1 f,hp.mem,λj o l=>?_,λj k b g hk=>hp.sep j k b (by rw[<- a];exact g) (by rw[<- a];exact hk)⟩;simp only[lk] at l;split at l
  ·rename_i e;subst e;cases l;exact p
  ·rename_i e;exact hp.obj j o (by simp only[lk];rw[if_neg e];exact l)
 refine (H c q F t n φ hh w v vs hl hv s).mono ?_;rintro e w' ⟨r,o,φ',h',x,u,ha⟩;exact⟨r,o,φ',h',x,u,⟨⟨ha.loc.one,ha.loc.glob,ha.loc.mem,λj o l=>(ha.loc.obj j o l).keep (λb f=>f.imp id (m b).1) (λ_ _=>rfl) (λ_ _ _ h=>h) (λ_ _ _=>rfl) (λ_ _ _ h=>h),ha.loc.sep⟩,ha.ext,λb o v h1 h2=>(ha.new b o v h1 h2).imp id (m b).1,λb f y=>ha.frame b f λh=>y ((m b).1 h),λj g=>ha.hfix j (by rw[a];exact g),ha.os,ha.tape,ha.output,ha.grow⟩⟩
theorem CallL.clone {f:FuncId} (W:ZC P f=true) (H: ∀ (b:Nat) (es:Array MapEntry) (clock:Nat) (w:World),w.heap[b]? = some (.map es clock)->Calls P f #[.map (some b)] w λe w'=>e=.returned (.map (some w.heap.size))/\w'=w.alloc (.map es clock)) (ks cs:List D) :
  CallL P (.func (.func f) [] []) [.map 0] [(0,.gen (.mapC ks cs) [])] λr ob=>r=.map 1/\ob=[(0,.gen (.mapC ks cs) []),(1,.gen (.mapC ks cs) [])]:=by
 intro F hF n φ h w v vs hp hv hvs;obtain⟨va,vc,rfl,X,Y⟩: ∃ va vc,v=.func (.func f) va vc/\va.size=0/\vc.size=0:=by
  cases hv with
  |pure hr=>cases hr
  |func _ vf vc _ _ hf hc _ _=>exact⟨vf,vc,rfl,hf,hc⟩
 obtain⟨u,rfl,Q⟩:=vs1 hvs;obtain⟨rfl,V⟩:=Q.map_inv;rw[Zi W];have ea:va=#[]:=by simpa using X
 have ec:vc=#[]:=by simpa using Y
 subst ea;subst ec;simp only[Array.empty_append,Array.append_empty,DynOut];have L:=hp.obj 0 _ rfl;obtain⟨b,vals,o,hblk,_,m,⟨M,y,⟨b',s⟩,es,clock,rfl,h1,h2,h3,h4⟩,z,_,G⟩:=L;have L:=hp.obj 0 _ rfl;rw[s] at hblk;cases hblk;rw[s];refine hF.calls ((H b es clock w m).mono ?_) n;rintro e w' ⟨rfl,rfl⟩;have hbl:b<w.heap.size:=(Array.getElem?_eq_some_iff.1 m).1;have A:(w.alloc (.map es clock)).heap[w.heap.size]? = some (.map es clock):=heap_alloc_new w _;have p: ∀ c,c<w.heap.size->(w.alloc (.map es clock)).heap[c]? = w.heap[c]? :=λc hc=>by
  simp only[World.alloc];exact Array.getElem?_push_lt hc ▸ (Array.getElem?_eq_getElem hc).symm
 have l:updH h 1 (.map (some w.heap.size)) 1=.map (some w.heap.size):=Zr ..;have C:updH h 1 (.map (some w.heap.size)) 0=.map (some b):=by rw[Zd _ _ (by decide)];exact s
 have O: ∀ off,φ w.heap.size off=none:=λoff=>by
  cases hq:φ w.heap.size off with
  |none=>rfl
  |some u=>exact absurd (Sub.lt (w:=w) hp.mem hq) (Nat.lt_irrefl _)
 have hsz:w.heap.size<=(w.alloc (.map es clock)).heap.size:=Nat.le_of_lt (Array.getElem?_eq_some_iff.1 A).1;have S:ZOf [(0,Ob.gen (.mapC ks cs) [])] h b:=⟨0,rfl,by rw[s];rfl⟩;have E: ∀ g o,w.heap[g]? = some o->(w.alloc (.map es clock)).heap[g]? = some o:=λg o B=>by rw[p g (Array.getElem?_eq_some_iff.1 B).1,B]
 have K: ∀ g,ZOf [(0,Ob.gen (.mapC ks cs) []),(1,Ob.gen (.mapC ks cs) [])] (updH h 1 (.map (some w.heap.size))) g->ZOf [(0,Ob.gen (.mapC ks cs) [])] h g\/g=w.heap.size:=by
  rintro g ⟨i,hi,B⟩
  match i,hi with
  |0,_=>exact .inl ⟨0,rfl,by rw[Zd _ _ (by decide)] at B;exact B⟩
  |1,_=>rw[l] at B;exact .inr (by simpa [blk] using B.symm)
  |i+2,hi=>simp[lk] at hi
 refine .ret ⟨rfl,rfl⟩ (φ':=φ) (h':=updH h 1 (.map (some w.heap.size))) ?_ ⟨⟨λi=>?_,⟨hp.glob.ok,λR arr hx=>?_,λR hx=>?_⟩,λb o u Q=>?_,λi ob k=>?_,λi j c hi U t x=>?_⟩,λ_ _ _ h=>h,λb o u h1 h2=>(by rw[h1] at h2;cases h2),λb hb _=>p b hb,λi hi=>?_,rfl,rfl,rfl,hsz⟩
 ·have:=RV.map (φ:=φ) (h:=updH h 1 (.map (some w.heap.size))) 1 (by rw[l];rfl);rw[l] at this;exact this
 ·by_cases hi:i=1
  ·subst hi;rw[l];rfl
  ·rw[Zd _ _ hi];exact hp.one i
 ·obtain⟨⟨J,fr,N⟩,hz⟩:=hp.glob.x R arr hx;exact⟨⟨J,fr,E _ _ N⟩,λI=>(K _ I).elim hz λe=>by have:=(Array.getElem?_eq_some_iff.1 N).1;omega⟩
 ·obtain⟨⟨arr,J,fr,q,N,ha⟩,hz⟩:=hp.glob.i R hx;exact⟨⟨arr,J,fr,q,E _ _ N,ha⟩,λI=>(K _ I).elim hz λe=>by have:=(Array.getElem?_eq_some_iff.1 N).1;omega⟩
 ·have hl:b<w.heap.size:=Sub.lt (w:=w) hp.mem Q;rw[World.cell?_of_block (a:=⟨b,o,none⟩) (p b hl)];exact hp.mem b o u Q
 ·match i,k with
  |0,k =>
   cases k;rw[C];exact⟨b,vals,_,rfl,.inr S,E _ _ m,⟨M,y,⟨_,rfl⟩,es,clock,rfl,h1,h2,h3,h4⟩,z,λj d T=>by simp at T,G⟩
  |1,k =>
   cases k;rw[l];exact⟨w.heap.size,vals,_,rfl,.inl (Nat.le_refl _),A,⟨M,y,⟨_,rfl⟩,es,clock,rfl,h1,h2,h3,h4⟩,z,λj d T=>by simp at T,O⟩
  |i+2,k=>simp[lk] at k
 ·match i,j,hi,U with
  |0,0,_,_=>rfl
  |1,1,_,_=>rfl
  |0,1,_,_=>rw[C] at t;rw[l] at x;simp only[blk,Option.some.injEq] at t x;omega
  |1,0,_,_=>rw[l] at t;rw[C] at x;simp only[blk,Option.some.injEq] at t x;omega
  |i+2,_,hi,_=>simp[lk] at hi
  |_,j+2,_,U=>simp[lk] at U
 ·have:i≠1:=λe=>by rw[e] at hi;simp[lk] at hi
  exact Zd _ _ this
end Go.Sx
/- A range over a function,a call: where what comes back is not one thing alone. -/
namespace Go.Sx
open Go.RowKit
variable [Globs] [Codes]
variable {P:Program}
theorem Zfy {n bs N:Nat} {g:X} {ps:Array Tmp} {a b:SC} {K:List Fr} {s:St} {Q:Exit->St->Prop} (nm:List Nat) (R:D->Obs->Prop) (e:nm.Nodup)
  (d: ∀ i∈nm,(lk ((s.nx bs,recd P .ready none N ps a b s.tm)::s.ob) i).isSome) (hf: ∃ f fa j,s.get g=.func (.func f) fa j/\ZC P f=true)
  (hc:CallL P ((s.get g).ren (idx · nm)) [(D.yld (s.nx bs)).ren (idx · nm)] (ZT ((s.nx bs,recd P .ready none N ps a b s.tm)::s.ob) (idx · nm) 0 nm) R)
  (hk: ∀ r ob',R r ob'->r.isPan=false/\(∃ c asg body N' keys ds,lk (St.back ⟨s.tm,(s.nx bs,recd P .ready none N ps a b s.tm)::s.ob⟩ (s.nx bs+1) nm ob').ob (s.nx bs)=some (.gen (.loop .ready none c asg body N' keys) ds)) ∧
   swF P n bs K ⟨s.tm,Z8 (s.nx bs) (St.back ⟨s.tm,(s.nx bs,recd P .ready none N ps a b s.tm)::s.ob⟩ (s.nx bs+1) nm ob').ob⟩ Q):swF P (n+1) bs (.sc (.rangeF N g ps a b)::K) s Q:=by
 refine⟨nm,R,e,d,hf,hc,λr ob' hr=>?_⟩;obtain⟨hp,⟨c,asg,body,N',keys,ds,hl⟩,h⟩:=hk r ob' hr;exact .inr ⟨hp,.ready,none,c,asg,body,N',keys,ds,hl,by decide,h⟩
theorem ZbT {n bs:Nat} {ops:List SOp} {K:List Fr} {s:St} {Q:Exit->St->Prop} (h:stps P (s.nx bs) ops s λs'=>swF P n bs K s' Q):swF P (n+1) bs (.sc (.reg ops)::K) s Q:=h
theorem Z2D {bs d:Nat} {x:X} {r:List SOp} {s:St} {K:St->Prop} (h:stps P bs r (s.put (some d) (s.get x)) K):stps P bs (.a (some d) none .mv [x]::r) s K:=h
theorem ZbW {bs:Nat} {dst:Option Nat} {x:X} {xs:List X} {r:List SOp} {s:St} {K:St->Prop} (nm:List Nat) (R:D->Obs->Prop) (b:nm.Nodup) (a: ∀ i∈nm,(lk s.ob i).isSome)
  (hc:CallL P ((s.get x).ren (idx · nm)) ((xs.map λy=>dva (s.get x) (lk s.ob) (s.get y)).map (D.ren (idx · nm))) (ZT s.ob (idx · nm) 0 nm) R)
  (hk: ∀ r0 ob',R r0 ob'->r0.isPan=false/\stps P bs r ((s.back (s.base bs) nm ob').put dst (r0.ren (bkN (s.base bs) nm))) K):stps P bs (.cd dst none x xs::r) s K :=
 ⟨nm,R,s.base bs,b,a,Nat.le_max_left ..,Nat.le_max_right ..,hc,hk⟩
end Go.Sx
/- RESULTS KEPT: a table of calls that have been worked out. -/
namespace Go.Sx
mutual
def dEq:D->D->Bool
 |.int k a,.int c b=>decide (k=c) && decide (a=b)
 |.str a,.str b=>decide (a=b)
 |.bool a,.bool b=>a == b
 |.slice a x,.slice b y=>Z8n a b && Z8n x y
 |.agg a,.agg b=>dEqL a b
 |_,_=>false
def dEqL:List D->List D->Bool
 |[],[]=>true
 |a::r,b::q=>dEq a b && dEqL r q
 |_,_=>false
def Z8n:List (List D)->List (List D)->Bool
 |[],[]=>true
 |a::r,b::q=>dEqL a b && Z8n r q
 |_,_=>false
end
mutual
theorem ZrL: ∀ a b:D,dEq a b=true->a=b
 |.int k a,b,h=>by
  cases b<;>simp[dEq] at h;rw[h.1,h.2]
 |.str a,b,h=>by
  cases b<;>simp[dEq] at h;rw[h]
 |.bool a,b,h=>by
  cases b<;>simp[dEq] at h;rw[h]
 |.slice a x,b,h=>by
  cases b<;>simp[dEq] at h;rw[Z5X a _ h.1,Z5X x _ h.2]
 |.agg a,b,h=>by
  cases b<;>simp[dEq] at h;rw[Z5W a _ h]
 |.undef,b,h=>by cases b<;>simp[dEq] at h
 |.nilp,b,h=>by cases b<;>simp[dEq] at h
 |.nilf,b,h=>by cases b<;>simp[dEq] at h
 |.tuple _,b,h=>by cases b<;>simp[dEq] at h
 |.ptr _ _,b,h=>by cases b<;>simp[dEq] at h
 |.fptr _,b,h=>by cases b<;>simp[dEq] at h
 |.vec _,b,h=>by cases b<;>simp[dEq] at h
 |.vptr _ _ _ _,b,h=>by cases b<;>simp[dEq] at h
 |.vwin _ _ _,b,h=>by cases b<;>simp[dEq] at h
 |.map _,b,h=>by cases b<;>simp[dEq] at h
 |.func _ _ _,b,h=>by cases b<;>simp[dEq] at h
 |.raw _,b,h=>by cases b<;>simp[dEq] at h
 |.nils,b,h=>by cases b<;>simp[dEq] at h
 |.own _ _ _,b,h=>by cases b<;>simp[dEq] at h
 |.yld _,b,h=>by cases b<;>simp[dEq] at h
 |.ifc,b,h=>by cases b<;>simp[dEq] at h
 |.pan _,b,h=>by cases b<;>simp[dEq] at h
theorem Z5W: ∀ a b:List D,dEqL a b=true->a=b
 |[],[],_=>rfl
 |[],_::_,h=>by simp[dEqL] at h
 |_::_,[],h=>by simp[dEqL] at h
 |a::r,b::q,h=>by
  simp only[dEqL,Bool.and_eq_true] at h;rw[ZrL a b h.1,Z5W r q h.2]
theorem Z5X: ∀ a b:List (List D),Z8n a b=true->a=b
 |[],[],_=>rfl
 |[],_::_,h=>by simp[Z8n] at h
 |_::_,[],h=>by simp[Z8n] at h
 |a::r,b::q,h=>by
  simp only[Z8n,Bool.and_eq_true] at h;rw[Z5W a b h.1,Z5X r q h.2]
end
abbrev Memo:=List (FuncId × List D × D)
def Zg5:Memo->FuncId->List D->Option D
 |[],_,_=>none
 |(g,ys,r)::l,f,xs=>if f=g/\dEqL xs ys=true then some r else Zg5 l f xs
section
variable [Globs] [Codes]
def Memo.OK (P:Program):Memo->Prop
 |[]=>True
 |(g,ys,r)::l=>FnOK P g ys r/\Memo.OK P l
theorem Z9w {P:Program}: ∀ {l:Memo},l.OK P-> ∀ {f:FuncId} {xs:List D} {r:D},Zg5 l f xs=some r->FnOK P f xs r
 |[],_,_,_,_,h=>by cases h
 |(g,ys,r0)::l,hl,f,xs,r,h=>by
  simp only[Zg5] at h;split at h
  ·rename_i hc;cases h;rw[hc.1,Z5W _ _ hc.2];exact hl.1
  ·exact Z9w hl.2 h
def Tab.mem (t:Tab) (l:Memo):Tab:={t with F:=λf xs=>match Zg5 l f xs with
 |some r=>some r
 |none=>t.F f xs}
theorem Tab.OK.mem_ok {P:Program} {t:Tab} (a:t.OK P) {l:Memo} (hl:l.OK P):(t.mem l).OK P:=by
 refine⟨a.T,a.C,λf xs r h=>?_⟩;simp only[Tab.mem] at h;split at h
 ·grind [Z9w,Tab.mem]
 ·exact a.F f xs r h
end
end Go.Sx
/- EQUATIONS SOLVED IN TURN BIND WHAT SAFETY SAYS. -/
namespace Go.Sx
def domB (b:List Bd):List Nm:=b.map Bd.n
theorem Z5T {b:List Bd} {s:Nm}:s∈domB b ↔ (getB b s).isSome=true:=by
 unfold domB getB;rw[Option.isSome_map,List.find?_isSome];simp
theorem Z1X {b:List Bd} {s:Nm}:s∈domB b ↔ ∃ v,getB b s=some v:=by rw[Z5T,Option.isSome_iff_exists]
mutual
theorem Z7h {b:List Bd} (a: ∀ x∈b,x.v.value=true): ∀ t:Tm,(∀ s∈t.vs,s∈domB b)->(t.ap b).all Tm.gr=true
 |.mk k n s l,h=>by
  simp only[Tm.ap,apK];simp only[Tm.vs,List.mem_append] at h;split
  ·rename_i hk;obtain⟨v,hv⟩:=Z1X.1 (h s (.inl (by simp[Tm.v1,hk])));rw[hv]
   have:=a _ (Z1a hv);unfold Tm.value at this;rw[Bool.and_eq_true] at this;exact Zaa (λy c=>by obtain⟨d,f,s',e⟩:=y;simp only[Tm.plain,Tm.gr] at c ⊢;grind) v this.1
  ·rename_i hk;simp only[Tm.all,Tm.gr,Bool.and_eq_true];exact⟨by simp[hk],Z55 a l λs hs=>h s (.inr hs)⟩
theorem Z55 {b:List Bd} (c: ∀ x∈b,x.v.value=true): ∀ l:List Tm,(∀ s∈Tm.vsL l,s∈domB b)->Tm.allL Tm.gr (Tm.apL b l)=true
 |[],h=>rfl
 |a::r,h=>by
  simp only[Tm.vsL,List.mem_append] at h;simp only[Tm.apL,Tm.allL,Bool.and_eq_true];exact⟨Z7h c a λs hs=>h s (.inl hs),Z55 c r λs hs=>h s (.inr hs)⟩
end
theorem Zas {b:List Bd} {t:Tm} (hk:t.kd=3) (h:(t.ap b).all Tm.gr=true):t.nm∈domB b:=by
 obtain⟨k,n,s,l⟩:=t;simp only[Tm.kd] at hk;subst hk;simp only[Tm.ap,apK,if_true] at h;rw[Z1X];cases a:getB b s with
 |some v=>exact⟨v,a⟩
 |none=>rw[a] at h;simp[Tm.all,Tm.gr] at h
def Zv (E:Tm->List Tm × Int) (x t:Tm) (b:List Bd):List Bd × Bool :=
 if x.kd≠3\/(getB b x.nm).isSome=true\/(t.ap b).all Tm.gr=false then (b,false)
 else match (E (t.ap b)).1 with
  |[]=>(b,true)
  |v::_=>if (E (t.ap b)).2≠0 then (b,true) else match QV b x.nm v with
   |some c=>(c,false)
   |none=>([],true)
theorem Z2c {E:Tm->List Tm × Int} {x t:Tm} {b c:List Bd} (hv:ZP b=true) (h:Zv E x t b=(c,false)) :
  ZP c=true/\(∀ y∈domB b,y∈domB c)/\(∀ y∈eqS (domB b) x t,y∈domB c) ∧
  (c=b\/x.kd=3/\x.nm ∉ domB b/\x.nm∈domB c/\c.length=b.length+1/\(t.kd=3->t.nm∈domB b)):=by
 have i:=(Q8.1 hv).2;unfold Zv at h;split at h
 ·rename_i hc;cases h;refine⟨hv,λy a=>a,λy a=>?_,.inl rfl⟩;unfold eqS at a;split at a
  ·rename_i hk;rcases hc with hc|hc|hc
   ·grind
   ·rcases Z3l.1 a with a|a
    ·exact a
    ·rw[a];exact Z5T.2 hc
   ·have:=Z7h (λz g=>(i z g).2) t λs hs=>Z2L.1 hk.2 s (by unfold Tm.W;rw[ZH];exact hs);rw[this] at hc;cases hc
  ·exact a
 ·rename_i hc;simp only[not_or] at hc;obtain⟨h1,h2,e⟩:=hc;have h1:x.kd=3:=Classical.byContradiction h1;have e:(t.ap b).all Tm.gr=true:=by simpa using e
  split at h
  ·cases h
  ·split at h
   ·cases h
   ·split at h
    ·rename_i f;cases h;obtain⟨k,l,m,n⟩:=Z1F f;have hx:x.nm∈domB c:=Z1X.2 ⟨_,l⟩;have d: ∀ y∈domB b,y∈domB c:=λy a=>by
      obtain⟨z,g,rfl⟩:=List.mem_map.1 a;exact Z1X.2 ⟨_,m z g⟩
     refine⟨k,d,λy a=>?_,.inr ⟨h1,λj=>h2 (Z5T.1 j),hx,by rw[n,if_neg h2],λhk=>Zas hk e⟩⟩;unfold eqS at a;split at a
     ·rcases Z3l.1 a with a|a
      ·exact d y a
      ·rw[a];exact hx
     ·exact d y a
    ·cases h
def eqL (l:Lt):Bool:=!l.no && (decide (l.k=2) && decide (l.op=1))
def Z0A (E:Tm->List Tm × Int) (l:Lt) (b:List Bd):List Bd × Bool :=
 ((Zv E l.r l.l (Zv E l.l l.r b).1).1,(Zv E l.l l.r b).2 ||(Zv E l.r l.l (Zv E l.l l.r b).1).2)
def Z0d (E:Tm->List Tm × Int):List Lt->List Bd->Option (List Bd)
 |[],b=>some b
 |l::r,b=>if eqL l=true then (if (Z0A E l b).2=true then none else Z0d E r (Z0A E l b).1) else Z0d E r b
def Z0G (E:Tm->List Tm × Int):Nat->List Lt->List Bd->Option (List Bd)
 |0,_,b=>some b
 |n+1,ls,b=>match Z0d E ls b with
  |some c=>Z0G E n ls c
  |none=>none
def Z1S (b:List Bd) (l:Lt):Bool:=eqL l && (decide (l.l.kd=3/\l.l.nm ∉ domB b) ||decide (l.r.kd=3/\l.r.nm ∉ domB b))
def SubB (b c:List Bd):Prop:=∀ y∈domB b,y∈domB c
theorem ZgO {E:Tm->List Tm × Int} {l:Lt} {b:List Bd} (hv:ZP b=true) (h:(Z0A E l b).2=false) :
  ZP (Z0A E l b).1=true/\SubB b (Z0A E l b).1/\((Z0A E l b).1=b/\(∀ y∈eqS (eqS (domB b) l.l l.r) l.r l.l,y∈domB b) ∨
   (eqL l=true->Z1S b l=true)/\Z1S (Z0A E l b).1 l=false):=by
 unfold Z0A at h ⊢;simp only[Bool.or_eq_false_iff] at h;obtain⟨h1,h2⟩:=h;obtain⟨v1,s1,f,c1⟩:=Z2c (c:=(Zv E l.l l.r b).1) hv (by rw[<- h1]);generalize (Zv E l.l l.r b).1=c at v1 s1 f c1 h2 ⊢;obtain⟨e,a,g,c2⟩:=Z2c (c:=(Zv E l.r l.l c).1) v1 (by rw[<- h2]);generalize (Zv E l.r l.l c).1=d at e a g c2 ⊢;refine⟨e,λy i=>a y (s1 y i),?_⟩;rcases c1 with rfl|⟨j,m,k,-,t1⟩
 ·grind [Bool.or_eq_false_iff,Z2c,Z5Q,Bool.and_eq_false_iff,Z0A,Zv,Z1S]
 ·grind [Bool.or_eq_false_iff,Z2c,Z5Q,Bool.and_eq_false_iff,Z0A,Zv,Z1S]
theorem Z6E {b c:List Bd} (h:SubB b c) {l:Lt} (d:Z1S c l=true):Z1S b l=true:=by
 unfold Z1S at d ⊢;simp only[Bool.and_eq_true,Bool.or_eq_true,decide_eq_true_eq] at d ⊢;exact⟨d.1,d.2.imp (λ⟨a,n⟩=>⟨a,λe=>n (h _ e)⟩) λ⟨a,n⟩=>⟨a,λe=>n (h _ e)⟩⟩
theorem Zdu {α:Type} {p q:α->Bool} (h: ∀ x,p x=true->q x=true): ∀ l:List α,(l.filter p).length<=(l.filter q).length:=by
 intro l;induction l with
 |nil=>exact Nat.le_refl _
 |cons a r b =>
  grind
theorem Zdt {α:Type} {p q:α->Bool} (h: ∀ x,p x=true->q x=true) {a:α} (c:q a=true) (hp:p a=false): ∀ l:List α,a∈l->(l.filter p).length<(l.filter q).length:=by
 intro l;induction l with
 |nil=>intro h;cases h
 |cons x r d =>
  intro hm;have b:=Zdu h r;have hx:=h x;rcases List.mem_cons.1 hm with rfl|hm
  ·grind
  ·grind
theorem Z3y {E:Tm->List Tm × Int}: ∀ (ls:List Lt) {b c:List Bd},ZP b=true->Z0d E ls b=some c →
  ZP c=true/\SubB b c/\((c=b/\ ∀ l∈ls,eqL l=true-> ∀ y∈eqS (eqS (domB b) l.l l.r) l.r l.l,y∈domB b)\/ ∃ l∈ls,Z1S b l=true/\Z1S c l=false)
 |[],b,c,hv,h=>by
  cases h;exact⟨hv,λy i=>i,.inl ⟨rfl,λl hl=>by cases hl⟩⟩
 |l::r,b,c,hv,h=>by
  unfold Z0d at h;split at h
  ·rename_i g;split at h
   ·cases h
   ·rename_i hs;obtain⟨v1,s1,c1⟩:=ZgO (E:=E) (l:=l) hv (by simpa using hs);obtain⟨j,e,c2⟩:=Z3y r v1 h;refine⟨j,λy i=>e y (s1 y i),?_⟩;rcases c1 with⟨k,c1⟩|⟨o1,o2⟩
    ·rw[k] at c2 e;rcases c2 with⟨f,c2⟩|⟨m,hm,o⟩
     ·refine .inl ⟨f,λz d a=>?_⟩;rcases List.mem_cons.1 d with rfl|d
      ·exact c1
      ·exact c2 z d a
     ·exact .inr ⟨m,List.mem_cons_of_mem _ hm,o⟩
    ·refine .inr ⟨l,List.mem_cons_self ..,o1 g,?_⟩;cases n:Z1S c l with
     |false=>rfl
     |true=>rw[Z6E e n] at o2;cases o2
  ·rename_i g;obtain⟨j,e,c2⟩:=Z3y r hv h;refine⟨j,e,?_⟩;rcases c2 with⟨f,c2⟩|⟨m,hm,o⟩
   ·refine .inl ⟨f,λz d a=>?_⟩;rcases List.mem_cons.1 d with rfl|d
    ·exact absurd a g
    ·exact c2 z d a
   ·exact .inr ⟨m,List.mem_cons_of_mem _ hm,o⟩
theorem Z7I {E:Tm->List Tm × Int} {ls:List Lt} {b:List Bd} (h:Z0d E ls b=some b): ∀ n,Z0G E n ls b=some b:=by
 intro n;induction n with
 |zero=>rfl
 |succ n a=>unfold Z0G;rw[h];exact a
theorem Z2I {E:Tm->List Tm × Int} {ls:List Lt}: ∀ (n:Nat) {b c:List Bd},ZP b=true->Z0G E n ls b=some c->(ls.filter (Z1S b)).length<n →
  ZP c=true/\SubB b c/\ ∀ l∈ls,eqL l=true-> ∀ y∈eqS (eqS (domB c) l.l l.r) l.r l.l,y∈domB c
 |0,b,c,_,_,h=>by omega
 |n+1,b,c,hv,h,i=>by
  have h0:=h;unfold Z0G at h;split at h
  ·rename_i d a;obtain⟨v1,s1,c1⟩:=Z3y ls hv a;rcases c1 with⟨rfl,c1⟩|⟨l,hl,o1,o2⟩
   ·rw[Z7I a] at h;cases h;exact⟨hv,s1,c1⟩
   ·have:=Zdt (p:=Z1S d) (q:=Z1S b) (λx hx=>Z6E s1 hx) o1 o2 ls hl;obtain⟨g,f,c2⟩:=Z2I n v1 h (by omega);exact⟨g,λy e=>f y (s1 y e),c2⟩
  ·cases h
theorem Zld {E:Tm->List Tm × Int} {ls:List Lt} {n:Nat} (e:ls.length<n) {b c:List Bd} (hv:ZP b=true) (h:Z0G E n ls b=some c)
  (ha: ∀ l∈ls,l.no=false->l.k=1-> ∀ y∈Tm.ovL l.a,y∈domB b): ∀ x∈ZF [] ls,x∈domB c:=by
 obtain⟨v,s,q⟩:=Z2I _ hv h (by have:=List.length_filter_le (Z1S b) ls;omega);refine Z4e (λl hl y a=>?_) λy a=>by cases a
 unfold Qt at a;split at a
 ·exact a
 ·rename_i d;split at a
  ·rename_i hk;rcases Ql.1 a with a|a
   ·exact a
   ·exact s y (ha l hl (by simpa using d) hk y a)
  ·grind [Z2I,List.length_filter_le,Z4e,Z1S,Qt,eqL]
end Go.Sx
/- MATCHING,PLAIN: the pairs that a pattern wants,bound one behind the other;their order does not matter. -/
namespace Go.Sx
def bnd1 (b:List Bd) (s:List UInt8) (v:Tm):Option (List Bd):=match getB b s with
 |some w=>if w.eqb v=true then some b else none
 |none=>some (Z1J b s v)
def bndA:List (List UInt8 × Tm)->List Bd->Option (List Bd)
 |[],b=>some b
 |x::r,b=>match bnd1 b x.1 x.2 with
  |some c=>bndA r c
  |none=>none
structure BndOf (l:List (List UInt8 × Tm)) (b c:List Bd):Prop where
 srt:srtB c
 all: ∀ x∈l,getB c x.1=some x.2
 old: ∀ s w,getB b s=some w->getB c s=some w
 new: ∀ s w,getB c s=some w->getB b s=some w\/(s,w)∈l
abbrev Wn:=List (List UInt8 × Tm) × List (Tm × Tm)
def wJ:Option Wn->Option Wn->Option Wn
 |some x,some y=>some (x.1++y.1,x.2++y.2)
 |_,_=>none
mutual
def Tm.prs:Tm->Tm->Option Wn
 |.mk k n s l,.mk a c s' b=>if k=3 then some ([(s,.mk a c s' b)],[]) else if k=5\/k=6 then some ([],[(.mk k n s l,.mk a c s' b)]) else if k=a/\n=c/\s=s' then Tm.prsL l b else none
def Tm.prsL:List Tm->List Tm->Option Wn
 |[],[]=>some ([],[])
 |a::l,b::m=>wJ (Tm.prs a b) (Tm.prsL l m)
 |[],_::_=>none
 |_::_,[]=>none
end
def oA (q:Option Wn) (b:List Bd) (os:List (Tm × Tm)):Option (List Bd × List (Tm × Tm)):=match q with
 |none=>none
 |some x=>match bndA x.1 b with
  |none=>none
  |some c=>some (c,os++x.2)
def clsB (b:List Bd) (x:Tm × Tm):Bool:=match (x.1.ap b).expd with
 |.ok l=>l.any λy=>y.eqb x.2
 |_=>false
def lstB (p v:List Tm) (b:List Bd):Option (List Bd):=if (ZP b && (p.all Tm.valid && v.all Tm.value))=true then (match oA (Tm.prsL p v) b [] with
 |some q=>if q.2.all (clsB q.1)=true then some q.1 else none
 |none=>none) else none
end Go.Sx
/- MATCHING,PLAIN: what a pattern wants,and the expansions of the pattern with the binding applied. -/
namespace Go.Sx
end Go.Sx
/- MATCHING,PLAIN: the wants' names and values;a matched pattern is ground. -/
namespace Go.Sx
mutual
def Tm.outs:Tm->List (List UInt8)
 |.mk k n s l=>if k=5\/k=6 then [] else (if k=3 then [s] else [])++Tm.outsL l
def Tm.outsL:List Tm->List (List UInt8)
 |[]=>[]
 |a::r=>Tm.outs a++Tm.outsL r
end
end Go.Sx
/- MATCHING,PLAIN: the stage's theorem. -/
namespace Go.Sx
structure Snd (p v:Tm) (b c:List Bd):Prop where
 vb:ZP b=true
 vc:ZP c=true
 pv:p.valid=true
 vv:v.value=true
 old: ∀ x∈b,getB c x.n=some x.v
 only: ∀ x∈c,getB b x.n=some x.v\/x.n∈p.outs
 outs: ∀ s∈p.outs,∃ u,getB c s=some u
 again:lstB [p] [v] c=some c
 gr:(p.ap c).all Tm.gr=true
 among: ∀ l,(p.ap c).expd=.ok l->v∈l
end Go.Sx
/- MATCHING,PLAIN: every expansion of an applied pattern is matched. -/
namespace Go.Sx
end Go.Sx
/- MATCHING,PLAIN: what is in the pairs,and how many there are. -/
namespace Go.Sx
structure StB (N:Nat) (b:List Bd) (os:List (Tm × Tm)):Prop where
 srt:srtB b
 len:b.length+N<=1000000
 olen:os.length+N<=1000000
 wf: ∀ x∈b,x.v.wf 281474976710656/\x.v.few 1000/\x.v.depth<=100000000
 owf: ∀ y∈os,(y.1.wf 281474976710656/\y.1.few 1000/\y.1.depth<=100000000)/\(y.2.wf 281474976710656/\y.2.few 1000/\y.2.depth<=100000000)
abbrev TmB (x:Tm):Prop:=x.wf 281474976710656/\x.few 1000/\x.depth<=100000000
mutual
theorem Za9 {b:List Bd} {N:Nat} (a: ∀ x∈b,x.v.depth<=N): ∀ t:Tm,(t.ap b).depth<=t.depth+N
 |.mk k n s l=>by
  have hl:=Z7i a l;have hk:(Tm.mk k n s (Tm.apL b l)).depth<=(Tm.mk k n s l).depth+N:=by
   simp only[Tm.depth];omega
  rw[Tm.ap];rw[apK];split
  ·cases c:getB b s with
   |none=>exact hk
   |some v =>
    have h1:v.depth<=N:=a _ (Z1a c);show v.depth<=_;omega
  ·exact hk
theorem Z7i {b:List Bd} {N:Nat} (c: ∀ x∈b,x.v.depth<=N): ∀ l:List Tm,Tm.depthL (Tm.apL b l)<=Tm.depthL l+N
 |[]=>Nat.zero_le _
 |a::r=>by
  have h1:=Za9 c a;have h2:=Z7i c r;show Nat.max (a.ap b).depth (Tm.depthL (Tm.apL b r))<=Nat.max a.depth (Tm.depthL r)+N;have d:Nat.max (a.ap b).depth (Tm.depthL (Tm.apL b r))=max (a.ap b).depth (Tm.depthL (Tm.apL b r)):=rfl;have e:Nat.max a.depth (Tm.depthL r)=max a.depth (Tm.depthL r):=rfl;rw[d,e];omega
end
end Go.Sx
/- NAMES AND NUMBERS AS SINGLE TOKENS. -/
namespace Go.Sx.Lx
/- Numbers. -/
end Go.Sx.Lx
/- The text of a term. -/
namespace Go.Sx
def Tm.as':Tm->List Tm
 |.mk _ _ _ l=>l
def Za6 (s:List UInt8):Int:=if s=[43] then 1 else if s=[45] then 1 else 2
def ZlH (k:Nat) (s:List UInt8) (len b:Nat) (c:List UInt8) (a:Nat) (r:Bool):Bool :=
 if b=6 then true else if b=1 then decide (k=5) && decide (len=1)
 else if b=5 then (if k=5 then (if a=1 then false else decide (len=1) ||decide (Za6 c<Za6 s) ||decide (Za6 s=Za6 c) && r) else false) else false
def opdT (k:Nat) (s:List UInt8) (len:Nat) (x:Tm) (t:List UInt8) (r:Bool):List UInt8:=match ZlH k s len x.kd x.nm x.as'.length r with
 |true=>[40]++t++[41]
 |false=>t
mutual
def Tm.text:Tm->List UInt8
 |.mk k n s l =>
  if k=1 then Lib.itoa n
  else if k=4 then s++[40]++Lib.join (Tm.texts l) [44]++[41]
  else if k=6 then opdT k s l.length (l.getD 0 default) ((Tm.texts l).getD 0 []) false++[46,46]++opdT k s l.length (l.getD 1 default) ((Tm.texts l).getD 1 []) true
  else if k=5 then (if l.length=1 then s++opdT k s l.length (l.getD 0 default) ((Tm.texts l).getD 0 []) false
   else opdT k s l.length (l.getD 0 default) ((Tm.texts l).getD 0 []) false++s++opdT k s l.length (l.getD 1 default) ((Tm.texts l).getD 1 []) true)
  else s
def Tm.texts:List Tm->List (List UInt8)
 |[]=>[]
 |a::r=>a.text::Tm.texts r
end
end Go.Sx
namespace Go.Sx
theorem ZbP {s:List UInt8} (h:Lx.Qm s=true):s.length<=32:=by unfold Lx.Qm Lx.Z2y at *;grind
theorem Z7s {s:List UInt8} (h:Lx.Zk s=true):s.length<=32:=by unfold Lx.Zk Lx.Z2y at *;grind
end Go.Sx
namespace Go.Sx
end Go.Sx
/- What a modest rule's terms are. -/
namespace Go.Sx
mutual
theorem Z3u: ∀ (t:Tm) (m:Int),t.sz m<=m->(t.depth:Int)<=m
 |.mk k n s l,m,h=>by
  simp only[Tm.sz] at h
  have:=Z4B l (m-1) 0 (by omega);simp only[Tm.depth];omega
theorem Z4B: ∀ (l:List Tm) (m n:Int),Tm.szL l m n<=m->(Tm.depthL l:Int)<=m-n
 |[],m,n,h=>by
  simp only[Tm.szL] at h;simp only[Tm.depthL];omega
 |a::r,m,n,h=>by
  simp only[Tm.szL] at h;simp only[Tm.depthL];split at h
  ·have h0:=Qg a (m-n);have h1:=Qh r m (n+a.sz (m-n));have h2:=Z4B r m (n+a.sz (m-n)) h;have b:=Z3u a (m-n) (by omega);have:Nat.max a.depth (Tm.depthL r)=a.depth\/Nat.max a.depth (Tm.depthL r)=Tm.depthL r:=by
    rcases Nat.le_total a.depth (Tm.depthL r) with h|h
    ·exact .inr (Nat.max_eq_right h)
    ·exact .inl (Nat.max_eq_left h)
   omega
  ·omega
end
theorem Z6k: ∀ (l:List Bo) (m n:Int),0<=n->Z1N l m n<=m-> ∀ x∈l,∃ q,q<=m/\szLt x.l q<=q
 |[],m,n,_,h,x,hx=>by cases hx
 |x::r,m,n,f,h,y,a=>by
  unfold Z1N at h;split at h
  ·rename_i hc;have h1:=Z28 r m (Z2C x.e m (n+szBo x (m-n)));have h2:=Z7x x (m-n);have h0:=Z27 x.e m (n+szBo x (m-n));have c:=ZQ x.c (m-n) 0;have d:=Qg x.b (m-n);have e:szBo x (m-n)=1+ZW [x.l] (m-n) 0+ZW x.c (m-n) 0+x.b.sz (m-n):=rfl;rcases List.mem_cons.1 a with rfl|a
   ·refine⟨m-n,by omega,?_⟩;have b:ZW [y.l] (m-n) 0=szLt y.l (m-n):=by
     simp only[ZW];rw[if_pos (by omega)];simp
    omega
   ·exact Z6k r m _ (by omega) h y a
  ·have:=Z28 r m n;omega
theorem Zfx {r:Ru} {m:Int} (h:szRu r m<=m): ∀ x∈r.b,∃ q,q<=m/\szLt x.l q<=q:=by
 unfold szRu at h;have a:0<=Z2B r.h m (szR0 r m):=by
  have h1:=Z3f r.h m (szR0 r m);have h2:0<=szR0 r m:=by
   unfold szR0
   have:=Qg r.lo m
   have:=Qg r.up m
   have:=Qg r.w m
   have:=Qg r.lv m
   have:=Qh r.t m 0;omega
  omega
 exact Z6k r.b m _ a h
theorem Zd0 {x:Lt} {q:Int} (h:szLt x q<=q) (b:q<=400):x.l.few 1000/\x.r.few 1000/\x.l.depth<=400/\x.r.depth<=400:=by
 unfold szLt at h;have h1:=Qh x.a (q-1) 0;have h2:=Qg x.l q;have a:=Qg x.r q;have d1:=Z3u x.l q (by omega);have d2:=Z3u x.r q (by omega);exact⟨ZbL x.l q (by omega) (by omega),ZbL x.r q (by omega) (by omega),by omega,by omega⟩
mutual
theorem Z99: ∀ t:Tm,t.all Tm.shape=true->t.wf 281474976710656
 |.mk k n s l,h=>by
  simp only[Tm.all,Bool.and_eq_true,Tm.shape] at h;have hl:=Z6q l h.2;have hs:=h.1;simp only[Tm.wf];have b:k=1\/k=2\/k=3\/k=4\/k=5\/k=6:=by
   apply Classical.byContradiction;intro f;have c1: ¬ (k:Int)=1:=by omega
   have c2: ¬ (k:Int)=2:=by omega
   have c3: ¬ (k:Int)=3:=by omega
   have c: ¬ (k:Int)=4:=by omega
   have c5: ¬ (k:Int)=5:=by omega
   have d: ¬ (k:Int)=6:=by omega
   simp[Qi,c1,c2,c3,c,c5,d] at hs
  rcases b with rfl|rfl|rfl|rfl|rfl|rfl<;>simp[Qi] at hs
  ·obtain⟨⟨h1,rfl⟩,rfl⟩:=hs;simp only[List.length_nil] at hl ⊢;exact⟨by omega,by omega,by omega,by omega,by omega,hl⟩
  ·obtain⟨⟨rfl,h2⟩,rfl⟩:=hs
   have:=ZbP h2;exact⟨by omega,by omega,by omega,by omega,by simp,hl⟩
  ·obtain⟨⟨rfl,h2⟩,rfl⟩:=hs
   have:=Z7s h2;exact⟨by omega,by omega,by omega,by omega,by simp,hl⟩
  ·obtain⟨⟨⟨rfl,h2⟩,a⟩,e⟩:=hs
   have:=ZbP h2;exact⟨by omega,by omega,by omega,by omega,by omega,hl⟩
  ·obtain⟨⟨rfl,h2⟩,a⟩:=hs;have:s.length=1:=by rcases h2 with (((h|h)|h)|h)|h<;>rw[h]<;>rfl
   exact⟨by omega,by omega,by omega,by omega,by omega,hl⟩
  ·obtain⟨⟨rfl,rfl⟩,a⟩:=hs;exact⟨by omega,by omega,by omega,by simp,by omega,hl⟩
theorem Z6q: ∀ l:List Tm,Tm.allL Tm.shape l=true->Tm.wfL 281474976710656 l
 |[],_=>trivial
 |a::r,h=>by
  simp only[Tm.allL,Bool.and_eq_true] at h;exact⟨Z99 a h.1,Z6q r h.2⟩
end
mutual
theorem Z6f {A B:Nat} (h:A<=B): ∀ t:Tm,t.few A->t.few B
 |.mk k n s l,a=>by
  simp only[Tm.few] at a ⊢;exact⟨by omega,Z4A h l a.2⟩
theorem Z4A {A B:Nat} (h:A<=B): ∀ l:List Tm,Tm.fewL A l->Tm.fewL B l
 |[],_=>trivial
 |a::r,hl=>by
  simp only[Tm.fewL] at hl ⊢;exact⟨Z6f h a hl.1,Z4A h r hl.2⟩
end
theorem Z01 {v:Tm} (h:v.value=true):v.wf 281474976710656/\v.few 1000/\v.depth<=12:=by
 unfold Tm.value Tm.valid at h;simp only[Bool.and_eq_true,decide_eq_true_eq] at h;obtain⟨h1,h2,a⟩:=h;exact⟨Z99 v a,Z6f (by decide) v (Z5a v a h1).1,h2⟩
theorem Z5b {b:List Bd} (h:ZP b=true):(∀ x∈b,x.wf 281474976710656)/\(∀ x∈b,x.v.depth<=12)/\(∀ x∈b,x.v.few 1000):=by
 have a:=(Q8.1 h).2;refine⟨λx hx=>⟨?_,(Z01 (a x hx).2).1⟩,λx hx=>(Z01 (a x hx).2).2.2,λx hx=>(Z01 (a x hx).2).2.1⟩
 have:=Z7s (a x hx).1;omega
theorem Zbn {b c:List Bd} {s:Nm} {v:Tm} (h:QV b s v=some c): ∀ y∈domB c,y∈domB b\/y=s:=λy a=>by
 unfold QV at h;split at h
 ·split at h
  ·grind
  ·cases h;obtain⟨x,hx,rfl⟩:=List.mem_map.1 a;rcases Z1y.1 hx with rfl|hx
   ·exact .inr rfl
   ·exact .inl (List.mem_map.2 ⟨x,hx,rfl⟩)
 ·cases h
structure BdW (gl:List Nm) (b:List Bd):Prop where
 va:ZP b=true
 nm: ∀ y∈domB b,y∈gl
theorem BdW.nil (gl:List Nm):BdW gl []:=⟨by decide,λy a=>by cases a⟩
theorem BdW.len {gl:List Nm} {b:List Bd} (h:BdW gl b):b.length<=gl.length:=by
 have hs:=(Q8.1 h.va).1;have c:(domB b).Nodup:=by
  unfold domB;exact List.Pairwise.map _ (λx y (a:x.n<y.n) e=>by rw[e] at a;exact Z4M _ a) hs
 have:=List.Nodup.length_le_of_subset c h.nm;simpa [domB] using this
theorem BdW.bind {gl:List Nm} {b c:List Bd} {s:Nm} {v:Tm} (h:BdW gl b) (hs:s∈gl) (a:QV b s v=some c):BdW gl c :=
 ⟨(Z1F a).1,λy d=>(Zbn a y d).elim (h.nm y) λe=>e ▸ hs⟩
theorem BdW.solve {E:Tm->List Tm × Int} {gl:List Nm} {b:List Bd} {x t:Tm} (h:BdW gl b) (hx:x.kd=3->x.nm∈gl):BdW gl (Zv E x t b).1:=by
 unfold Zv;split
 ·exact h
 ·rename_i hc;simp only[not_or,Classical.not_not] at hc;split
  ·exact h
  ·split
   ·exact h
   ·split
    ·rename_i a;exact h.bind (hx hc.1) a
    ·exact BdW.nil gl
theorem BdW.both {E:Tm->List Tm × Int} {gl:List Nm} {b:List Bd} {l:Lt} (h:BdW gl b) (h1:l.l.kd=3->l.l.nm∈gl) (h2:l.r.kd=3->l.r.nm∈gl):BdW gl (Z0A E l b).1:=(h.solve h1).solve h2
theorem ZgP {b:List Bd} {s:Nm} {v:Tm} (f:ZP b=true) (hs:Lx.Zk s=true) (hv:v.value=true):s∈domB ((QV b s v).getD b)/\ ∀ y∈domB b,y∈domB ((QV b s v).getD b):=by
 cases h:QV b s v with
 |some c =>
  obtain⟨-,d,e,-⟩:=Z1F h;refine⟨Z1X.2 ⟨_,d⟩,λy a=>?_⟩;obtain⟨x,hx,rfl⟩:=List.mem_map.1 a;exact Z1X.2 ⟨_,e x hx⟩
 |none =>
  grind [Z1F,Z1X,QV,hx,getB]
end Go.Sx
/- SAFETY,THE REFERENCE MODEL,PLAIN: the closure by lists;the same sets. -/
namespace Go.Sx
/- The model's Global and Unsafe. -/
def allM (ls:List Lt):List Nm:=ls.flatMap λx=>Z0Y (Tm.vsL x.a)++Z0Y (Tm.vsL [x.l,x.r])
theorem QD {l:List Tm} {x:Nm}:x∈Tm.vsL l ↔ x∈Zj l:=by induction l<;>grind [ZH,Zj,Tm.vsL,Tm.W]
theorem Z66 {ls:List Lt} {x:Nm}:x∈allM ls ↔ x∈Z2z ls:=by
 unfold allM Z2z Zb;rw[List.mem_flatMap];have e: ∀ l:List Lt,x∈Zj (l.flatMap λy=>y.a++[y.l,y.r]) ↔ ∃ y∈l,x∈Zj y.a\/x∈Zj [y.l,y.r]:=by
  intro l;induction l with
  |nil=>simp[Zj]
  |cons a r c =>
   rw[List.flatMap_cons];have:x∈Zj (a.a++[a.l,a.r]++r.flatMap λy=>y.a++[y.l,y.r]) ↔ (x∈Zj a.a\/x∈Zj [a.l,a.r])\/x∈Zj (r.flatMap λy=>y.a++[y.l,y.r]):=by
    unfold Zj;rw[List.flatMap_append,List.flatMap_append,List.mem_append,List.mem_append]
   rw[this,c];simp only[List.mem_cons,exists_eq_or_imp]
 rw[e];constructor
 ·rintro⟨y,b,h⟩;exact⟨y,b,(List.mem_append.1 h).imp (λh=>QD.1 (ZH.1 h)) λh=>QD.1 (ZH.1 h)⟩
 ·rintro⟨y,b,h⟩;exact⟨y,b,List.mem_append.2 (h.imp (λh=>ZH.2 (QD.2 h)) λh=>ZH.2 (QD.2 h))⟩
def Z4S (h:He):List Nm:=Z0Y (Tm.vsL h.a)++allM h.c
def Z31 (b:Bo):List Nm:=if b.k=1 then allM [b.l] else if b.k=3 then Z0Y (Tm.vsL [b.b]) else []
def Z3X (r:Ru):List Nm:=Z0Y (Tm.vsL ([r.lo,r.up,r.w,r.lv]++r.t))++(if r.k=2 then [] else r.h.flatMap Z4S)++r.b.flatMap Z31
theorem Z4T {b:Bo} {x:Nm}:x∈Z31 b ↔ gOf b x:=by grind [Z66,ZH,QD,Z31,gOf]
theorem Z8c {r:Ru} {x:Nm}:x∈Z3X r ↔ x∈Zq r:=by
 rw[Z1W];unfold Z3X;have d:x∈r.b.flatMap Z31 ↔ ∃ b∈r.b,gOf b x:=by
  rw[List.mem_flatMap];constructor
  ·rintro⟨b,a,h⟩;exact⟨b,a,Z4T.1 h⟩
  ·rintro⟨b,a,h⟩;exact⟨b,a,Z4T.2 h⟩
 have e:x∈(if r.k=2 then [] else r.h.flatMap Z4S) ↔ r.k≠2/\ ∃ h∈r.h,x∈Zj h.a\/x∈Z2z h.c:=by
  split
  ·rename_i h;simp[h]
  ·rename_i h;rw[List.mem_flatMap];constructor
   ·rintro⟨y,c,hx⟩;exact⟨h,y,c,(List.mem_append.1 hx).imp (λh=>QD.1 (ZH.1 h)) Z66.1⟩
   ·rintro⟨_,y,c,hx⟩;exact⟨y,c,List.mem_append.2 (hx.imp (λh=>ZH.2 (QD.2 h)) Z66.2)⟩
 rw[List.mem_append,List.mem_append,d,e,ZH,QD];have f:x∈Zj ([r.lo,r.up,r.w,r.lv]++r.t) ↔ x∈Zj [r.lo,r.up,r.w,r.lv]\/x∈Zj r.t:=by
  unfold Zj;rw[List.flatMap_append,List.mem_append]
 rw[f];simp only[or_assoc]
end Go.Sx
/- PROGRAMS ARE READ;their sizes;how many names the reference model gathers. -/
namespace Go.Sx
open Go.RowKit Go.Deep Go.ChangeShapes Go.WideShapes
structure Co where
 n:Nm
 v:Tm
def Co.cs (x:Co):List D:=.str x.n::x.v.cells
def coL (l:List Co):List (List D):=l.map Co.cs
structure Pg where
 r:List Ru
 c:List Co
 s:List (List D)
 so:Bool
def Pg.cs (x:Pg):List D:=[.slice (x.r.map Ru.cs) [],.slice (coL x.c) [],.slice x.s [],.bool x.so]
structure Pg.wf (B:Nat) (x:Pg):Prop where
 rl:x.r.length<=B
 r: ∀ y∈x.r,y.wf B
 cl:x.c.length<=B
 c: ∀ y∈x.c,y.v.wf B
 sl:x.s.length<=B
variable {P:Program}
section
variable [Globs] [Codes]
end
/- Sizes. -/
/- How many names. -/
theorem Zad (l:List Lt):(allM l).length<=(Tm.vsL (Zb l)).length:=by induction l<;>grind [Z0t,List.length_append,Z00,allM,Zb,Tm.vsL]
theorem Z6U {α:Type} (f:α->List Nm) (C:Nat): ∀ (l:List α),(∀ x∈l,(f x).length<=C)->(l.flatMap f).length<=l.length*C:=by intro l;induction l<;>grind [List.length_append,List.length_cons,Nat.succ_mul,List.mem_cons_of_mem,List.mem_cons_self,hx]
theorem Zb6 {h:He} (hf:fewT 400 h.a/\fewC 400 h.c):(Z4S h).length<=800:=by grind [List.length_append,Z0t,Zad,Z4S,Tm.vsL,He,fewT,fewC]
theorem Zb7 {b:Bo} (hf:fewB 400 b):(Z31 b).length<=400:=by
 obtain⟨a,c,d,e,f⟩:=hf;unfold Z31;have h1:=Zad [b.l];have h2:=a.2.2.2;have g:=Z0t (Tm.vsL [b.b]);have h:(Tm.vsL [b.b]).length=b.b.vs.length:=by simp[Tm.vsL]
 split
 ·omega
 ·grind
theorem Zdg {r:Ru} (hf:fewR 400 r):(r.h.flatMap Z4S).length<=320000:=by
 have h1:=Z6U Z4S 800 r.h λx hx=>Zb6 (hf.h x hx);have h2:=hf.hl;omega
theorem Zbm {r:Ru} (hf:fewR 400 r):(r.b.flatMap Z31).length<=160000:=by
 have h1:=Z6U Z31 400 r.b λx hx=>Zb7 (hf.b x hx);have h2:=hf.bl;omega
theorem Zdr {r:Ru} (hf:fewR 400 r):(Tm.vsL ([r.lo,r.up,r.w,r.lv]++r.t)).length<=2000:=by
 have h1:=hf.t4;have h2:=hf.tt.2;rw[Z00];simp only[List.length_append,Tm.vsL,List.length_nil];omega
theorem Z8d {r:Ru} (hf:fewR 400 r):(Z3X r).length<=500000:=by grind [Zdr,Z0t,Zdg,Zbm,List.length_append,List.length_nil,Tm.vsL,Z3X]
def shN (l:List Nm):Prop:=∀ x∈l,x.length<=281474976710656
theorem Zb5 {r:Ru} (h:r.wf 281474976710656):shN (Zq r):=λx hx=>Zbx _ (Qe.2 (ZlZ h)) x (Z3W hx)
end Go.Sx
/- A CONTRACT WITH A BOUND OF ITS OWN ON WHAT IS READ. -/
namespace Go.Sx
open Go.RowKit
open Go.RowKit Go.Deep Go.ChangeShapes Go.WideShapes
variable {H:Type} {enc:TypeId × Value->H} {P:Program} {w:World}
variable [Globs] [Codes]
end Go.Sx
