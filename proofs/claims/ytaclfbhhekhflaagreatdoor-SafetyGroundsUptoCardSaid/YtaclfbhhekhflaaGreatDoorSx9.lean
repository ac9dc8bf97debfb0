/- Own work: a layer over the kit: plain data,a walk over it,its soundness. -/
import Derived.Lib.Join
import Derived.Sort.OwnSorted
import Derived.Lib.SlicesCompact
import Derived.Calls
import Derived.CallsIn
import Derived.Shelf.SlSortCmp.InsertionK
import Derived.Test.YtaclfbhhekhflaaGreatDoorSx8
set_option linter.all false
/- Laws of the lexer. -/
namespace Go.Sx.Lx
open Go.Sx
def run (o:Nat) (l:List UInt8):List Tk × Option (Nat × Int) × Nat:=Zo0 (l.length+1) (o+skp false l) (l.drop (skp false l))
def shift (d:Nat) (r:List Tk × Option (Nat × Int) × Nat):List Tk × Option (Nat × Int) × Nat:=(r.1.map λt=>(t.1,t.2.1,t.2.2+d),r.2.1.map λe=>(e.1+d,e.2),r.2.2+d)
end Go.Sx.Lx
namespace Go.Sx.Lx
end Go.Sx.Lx
namespace Go.Sx.Lx
end Go.Sx.Lx
namespace Go.Sx.Lx
end Go.Sx.Lx
namespace Go.Sx.Lx
def Zvf:List (List UInt8):=[[32],[10],[9,32],[37,10],[32,37,32,97,46,32,35,120,10],[13,10]]
def Zu8 (g:Int):Int:=Zu7 g 6
def ZhQ (g:Int):List UInt8:=Zvf.getD (Zu8 g).toNat []
def gapF (a:List Int) (i:Nat):Int:=if i<a.length then a.getD i 0 else i
def finB (a:List Int):Nat->List Tk->List UInt8->List Int->List UInt8 × List Int
 |_,[],s,o=>(s,o)
 |i,t::r,s,o=>finB a (i+1) r (s++ZhQ (gapF a i)++t.2.1) (o++[((s++ZhQ (gapF a i)).length:Int)])
end Go.Sx.Lx
/- The reference model's lexer,plainly: its tests are the lexer's. -/
namespace Go.Sx.Lx
open Go.Sx
end Go.Sx.Lx
/- Numbers and signs of the reference model. -/
namespace Go.Sx.Lx
open Go.Sx
def valN (a:Nat) (l:List UInt8):Nat:=l.foldl (λa c=>a*10+(c.toNat-48)) a
attribute [irreducible] valN
end Go.Sx.Lx
/- The lexer's run,byte by byte. -/
namespace Go.Sx.Lx
open Go.Sx
/- What a token is,by its first byte. -/
end Go.Sx.Lx
/- OWN ROWS OF TEXTS,SORTED AND MADE COMPACT IN PLACE BY THE LIBRARY. -/
namespace Go.Sx
open Go.RowKit Go.Sort
open Go.Proofs (encStr)
variable [Globs] [Codes]
variable {P:Program} {f:FuncId}
def srt (l:List (List UInt8)):List (List UInt8):=l.mergeSort λx y=>decide (x<=y)
theorem encS (s:List UInt8):encStr s=.string ⟨s.toArray⟩:=rfl
theorem arrS {own:Nat->Prop} {fz:Bool} {ty:TypeId} {φ:Mem} {h:Nat->Value} {w:World} {hv:Value} {l:List (List UInt8)} (p:ObR own φ h w hv (.arr fz 1 ty (strC l))) (r:l≠[]) :
  ∃ g cap cur,hv=.slice (some ⟨g,0,none⟩) l.length cap/\own g/\w.heap[g]? = some (.cells cur ty (0,0))/\l.length<=cap/\cap<=maxLen/\cur.size=cap*1/\cur.toList.take l.length=l.map encStr ∧
   ∀ o,φ g o=if fz=true/\o<l.length then some (encStr (l.getD o [])) else none:=by
 obtain⟨_,hsz,xs,a,hrep,n⟩:=p;have c:(strC l).length=l.length:=Zp l;rw[c] at a n;have k:xs=l.map encStr:=by
  have hl:=a.1;rw[Nat.mul_one] at hl;apply List.ext_getElem (by simpa using hl);intro i h1 h2;simp at h2
  have:=hrep i _ 0 (D.str (l.getD i [])) (Z5j h2) rfl;simp only[Nat.mul_one,Nat.add_zero] at this;have m:=(RV.pure (h:=h) this).str_inv;rw[List.getD_eq_getElem?_getD,List.getElem?_eq_getElem h1,Option.getD_some] at m;rw[m,List.getElem_map,encS];simp[List.getD,h2]
 subst k;rcases a.2 with⟨_,h0⟩|⟨g,cap,cur,e,_,hblk,q,hcap,j,d⟩
 ·grind
 ·have b:=n g (by rw[e];rfl);refine⟨g,cap,cur,e,b.1,hblk,q,hcap,j,by rw[Nat.mul_one] at d;exact d,λo=>?_⟩;rw[b.2 o,Nat.mul_one];by_cases p:fz=true/\o<l.length
  ·grind
  ·grind
theorem Zej {own:Nat->Prop} {fz:Bool} {ty:TypeId} {φ:Mem} {h:Nat->Value} {w:World} {g cap:Nat} {cur:Array Value} {l:List (List UInt8)} (q:own g) (hblk:w.heap[g]? = some (.cells cur ty (0,0))) (p:l.length<=cap) (hcap:cap<=maxLen) (c:cur.size=cap*1) (e:cur.toList.take l.length=l.map encStr)
  (k: ∀ o,φ g o=if fz=true/\o<l.length then some (encStr (l.getD o [])) else none):ObR own φ h w (.slice (some ⟨g,0,none⟩) l.length cap) (.arr fz 1 ty (strC l)):=by
 refine⟨by decide,λx hx=>?_,l.map encStr,?_,λi x j d hi m=>?_,λb n=>?_⟩
 ·unfold strC at hx;obtain⟨t,_,rfl⟩:=List.mem_map.1 hx;rfl
 ·rw[Zp];exact⟨by simp,.inr ⟨g,cap,cur,rfl,Nat.zero_le _,hblk,p,hcap,c,by rw[Nat.mul_one];exact e⟩⟩
 ·have a:i<l.length:=by
   rcases Nat.lt_or_ge i l.length with h|h
   ·exact h
   ·rw[List.getElem?_eq_none (by rw[Zp];exact h)] at hi;cases hi
  rw[Z5j a] at hi;cases hi;cases j with
  |succ j=>simp at m
  |zero =>
   cases m;rw[Nat.mul_one,Nat.add_zero,List.getD_eq_getElem?_getD,List.getElem?_map,List.getElem?_eq_getElem a,Option.map_some,Option.getD_some,encS]
   have:=Rep.str (φ:=φ) (l.getD i []);simpa [List.getD,a] using this
 ·cases n;refine⟨q,λo=>?_⟩;rw[k o,Zp,Nat.mul_one];by_cases h:fz=true/\o<l.length
  ·grind
  ·grind
theorem CallL.sortS (O:ZC P f=true) (H: ∀ (blk cap:Nat) (K:List (List UInt8)) (w:World),Holds encStr w blk 0 K.toArray->blk<w.heap.size->K.length<4611686018427387904 →
   Calls P f #[.slice (some ⟨blk,0,none⟩) K.length cap] w λe w'=>e=.returned (.tuple #[])/\ ∃ n os,w'=grow (putRow encStr (Sort.ahead w n) blk 0 (K.mergeSort λx y=>decide (x<=y)).toArray) os)
  (ty:TypeId) (l:List (List UInt8)) (c:l≠[]) (t:l.length<4611686018427387904):CallL P (.func (.func f) [] []) [.vec 0] [(0,.arr false 1 ty (strC l))] λr ob=>r=.tuple []/\ob=[(0,.arr false 1 ty (strC (srt l)))]:=by
 intro F hF n φ h w v vs hp hv U;obtain⟨va,vc,rfl,S,T⟩: ∃ va vc,v=.func (.func f) va vc/\va.size=0/\vc.size=0:=by
  cases hv with
  |pure hr=>cases hr
  |func _ vf vc _ _ hf hc _ _=>exact⟨vf,vc,rfl,hf,hc⟩
 obtain⟨u,rfl,E⟩:=vs1 U;have R:=E.vec_inv;subst R;rw[Zi O];have Y:va=#[]:=by simpa using S
 have ec:vc=#[]:=by simpa using T
 subst Y;subst ec;simp only[Array.empty_append,Array.append_empty,DynOut];obtain⟨g,cap,cur,hh,_,hblk,hn,hcap,N,Q,W⟩:=arrS (hp.obj 0 _ rfl) c;have p: ∀ o,φ g o=none:=λo=>by rw[W o];rfl
 have J:ZOf [(0,Ob.arr false 1 ty (strC l))] h g:=⟨0,rfl,by rw[hh];rfl⟩;have hg:g<w.heap.size:=(Array.getElem?_eq_some_iff.1 hblk).1;rw[hh];refine hF.calls ((H g cap l w (holds_of_block hblk Q) hg t).mono ?_) n;rintro e w' ⟨rfl,m,os,rfl⟩;have I:(srt l).length=l.length:=by unfold srt;simp
 have D:=grownBy_sorted (w:=w) (g:=g) (n:=m) (os:=os) (srt l).toArray;have X:=heap_sorted (n:=m) (os:=os) (srt l).toArray hblk;have hT:=take_putCells cur (srt l) (by rw[I];omega);show Post _ φ h w _ _ (grow (putRow encStr (Sort.ahead w m) g 0 (srt l).toArray) os);generalize grow (putRow encStr (Sort.ahead w m) g 0 (srt l).toArray) os=w' at D X;have s: ∀ b,b<w.heap.size->b≠g->w'.heap[b]? = w.heap[b]? :=λb d c=>D.block b d (by simpa using c);have k: ∀ b o,w.heap[b]? = some o->b≠g->w'.heap[b]? = some o:=λb o d c=>by rw[s b (Array.getElem?_eq_some_iff.1 d).1 c,d]
 have G: ∀ b,ZOf [(0,Ob.arr false 1 ty (strC (srt l)))] h b->ZOf [(0,Ob.arr false 1 ty (strC l))] h b:=by
  rintro b ⟨i,hi,d⟩;cases i with
  |zero=>exact⟨0,rfl,d⟩
  |succ i=>simp[lk] at hi
 refine .ret ⟨rfl,rfl⟩ (.tuple _ _ rfl (by simp)) (φ':=φ) (h':=h) ⟨⟨hp.one,⟨hp.glob.ok,λL arr hx=>?_,λL hx=>?_⟩,λb o u E=>?_,λi ob z=>?_,λi j b hi hj _ _=>?_⟩,λ_ _ _ h=>h,λb o u h1 h2=>(by rw[h1] at h2;cases h2),λb d A=>s b d λe=>A (e ▸ J),λ_ _=>rfl,D.os,D.tape,D.output,D.size⟩
 ·obtain⟨⟨C,fr,V⟩,A⟩:=hp.glob.x L arr hx;exact⟨⟨C,fr,k _ _ V λe=>A (e ▸ J)⟩,λB=>A (G _ B)⟩
 ·obtain⟨⟨arr,C,fr,q,V,ha⟩,A⟩:=hp.glob.i L hx;exact⟨⟨arr,C,fr,q,k _ _ V λe=>A (e ▸ J),ha⟩,λB=>A (G _ B)⟩
 ·have M:b≠g:=λe=>by rw[e,p o] at E;cases E
  have t:b<w.heap.size:=Sub.lt (w:=w) hp.mem E;rw[World.cell?_of_block (a:=⟨b,o,none⟩) (s b t M)];exact hp.mem b o u E
 ·cases i with
  |succ i=>simp[lk] at z
  |zero =>
   simp only[lk,if_true,Option.some.injEq] at z;subst z;rw[hh,<- I];exact Zej (.inr J) X (by omega) hcap (by simpa [putCells] using N) hT λo=>by rw[p o];rfl
 ·cases i with
  |succ i=>simp[lk] at hi
  |zero=>cases j with
   |succ j=>simp[lk] at hj
   |zero=>rfl
theorem ZlE (l:List (List UInt8)):(Lib.compact l).length<=l.length:=by unfold Lib.compact Lib.compactUpTo;grind
theorem ZgH {cur:Array Value} {l:List (List UInt8)} {d:List (List UInt8)} (a:d.length<=cur.size) {k:Nat} (hk:k<=d.length):(putCells encStr 0 d.toArray cur).toList.take k=(d.take k).map encStr:=by
 have h:=take_putCells cur d a;rw[<- List.map_take.symm,<- h,List.take_take,Nat.min_eq_left hk]
def memG (φ:Mem) (g:Nat) (k:List (List UInt8)):Mem:=λb o=>if b=g then (if o<k.length then some (encStr (k.getD o [])) else none) else φ b o
theorem CallL.compactS (hpf:ZC P f=true) (H: ∀ (blk cap:Nat) (zs:List (List UInt8)) (w:World),Holds encStr w blk 0 zs.toArray->zs.length<=9223372036854775807->zs.length<=cap →
   Calls P f #[.slice (some ⟨blk,0,none⟩) zs.length cap] w λe w'=>e=.returned (.slice (some ⟨blk,0,none⟩) (Lib.compact zs).length cap)/\ ∃ q,w'=putRow encStr (Sort.ahead w q) blk 0 (Lib.compact zs++List.replicate (zs.length-(Lib.compact zs).length) []).toArray)
  (ty:TypeId) (l:List (List UInt8)) (s:l≠[]) (V:l.length<4611686018427387904):CallL P (.func (.func f) [] []) [.vec 0] [(0,.arr false 1 ty (strC l))] λr ob=>r=.vec 1/\ob=[(1,.arr true 1 ty (strC (Lib.compact l)))]:=by
 intro F hF n φ h w v vs hp hv hvs;obtain⟨va,vc,rfl,hva,hvc⟩: ∃ va vc,v=.func (.func f) va vc/\va.size=0/\vc.size=0:=by
  cases hv with
  |pure hr=>cases hr
  |func _ vf vc _ _ hf hc _ _=>exact⟨vf,vc,rfl,hf,hc⟩
 obtain⟨u,rfl,W⟩:=vs1 hvs;have x:=W.vec_inv;subst x;rw[Zi hpf];have ea:va=#[]:=by simpa using hva
 have ec:vc=#[]:=by simpa using hvc
 subst ea;subst ec;simp only[Array.empty_append,Array.append_empty,DynOut];obtain⟨g,cap,cur,hh,_,hblk,hn,hcap,Y,htk,hφ⟩:=arrS (hp.obj 0 _ rfl) s;have hφ0: ∀ o,φ g o=none:=λo=>by rw[hφ o];rfl
 have O:ZOf [(0,Ob.arr false 1 ty (strC l))] h g:=⟨0,rfl,by rw[hh];rfl⟩;have hg:g<w.heap.size:=(Array.getElem?_eq_some_iff.1 hblk).1;rw[hh];refine hF.calls ((H g cap l w (holds_of_block hblk htk) (by omega) hn).mono ?_) n;rintro e w' ⟨rfl,m,rfl⟩;have R:=ZlE l;have U:(Lib.compact l++List.replicate (l.length-(Lib.compact l).length) []).length=l.length:=by simp;omega
 have D:=grownBy_sorted (w:=w) (g:=g) (n:=m) (os:=#[]) (Lib.compact l++List.replicate (l.length-(Lib.compact l).length) []).toArray;have M:=heap_sorted (n:=m) (os:=#[]) (Lib.compact l++List.replicate (l.length-(Lib.compact l).length) []).toArray hblk;have N:=ZgH (cur:=cur) (l:=l) (d:=Lib.compact l++List.replicate (l.length-(Lib.compact l).length) []) (by rw[U];omega) (k:=(Lib.compact l).length) (by rw[U];exact R);rw[List.take_left] at N;rw[grow_empty] at D M;generalize putRow encStr (Sort.ahead w m) g 0 (Lib.compact l++List.replicate (l.length-(Lib.compact l).length) []).toArray=w' at D M ⊢;generalize T:putCells encStr 0 (Lib.compact l++List.replicate (l.length-(Lib.compact l).length) []).toArray cur=y at M N;have S:y.size=cap*1:=by rw[<- T];simpa [putCells] using Y
 generalize Lib.compact l=k at R N ⊢;have G: ∀ b,b<w.heap.size->b≠g->w'.heap[b]? = w.heap[b]? :=λb c s=>D.block b c (by simpa using s);have z: ∀ b o,w.heap[b]? = some o->b≠g->w'.heap[b]? = some o:=λb o c s=>by rw[G b (Array.getElem?_eq_some_iff.1 c).1 s,c]
 have p:updH h 1 (.slice (some ⟨g,0,none⟩) k.length cap) 1=.slice (some ⟨g,0,none⟩) k.length cap:=Zr ..;have Q: ∀ b,ZOf [(1,Ob.arr true 1 ty (strC k))] (updH h 1 (.slice (some ⟨g,0,none⟩) k.length cap)) b->ZOf [(0,Ob.arr false 1 ty (strC l))] h b:=by
  rintro b ⟨i,hi,c⟩;simp only[lk] at hi;split at hi
  ·rename_i e;subst e;rw[p] at c;simp only[blk,Option.some.injEq] at c;exact c ▸ O
  ·cases hi
 obtain⟨φ',B⟩: ∃ m,m=memG φ g k:=⟨_,rfl⟩;have hφn: ∀ b o,b≠g->φ' b o=φ b o:=λb o c=>by rw[B];exact if_neg c
 have A: ∀ b o v,φ b o=some v->φ' b o=some v:=λb o v hv=>by
  grind
 have C: ∀ o,φ' g o=if o<k.length then some (encStr (k.getD o [])) else none:=λo=>by rw[B];exact if_pos rfl
 have X: ∀ o,o<k.length->w'.cell? ⟨g,o,none⟩=some (encStr (k.getD o [])):=λo ho=>by
  have h1:(y.toList.take k.length)[o]? = (k.map encStr)[o]? :=by rw[N]
  rw[List.getElem?_take_of_lt ho,List.getElem?_map,List.getElem?_eq_getElem ho,Option.map_some,Array.getElem?_toList] at h1;simp only[World.cell?,M,h1,List.getD_eq_getElem?_getD,List.getElem?_eq_getElem ho,Option.getD_some];rfl
 refine .ret ⟨rfl,rfl⟩ (φ':=φ') (h':=updH h 1 (.slice (some ⟨g,0,none⟩) k.length cap)) ?_ ⟨⟨λi=>?_,⟨λL cs hgc=>(hp.glob.ok L cs hgc).mono A,λL arr hx=>?_,λL hx=>?_⟩,λb o u W=>?_,λi ob t=>?_,λi j b hi hj _ _=>?_⟩,A,λb o u h1 h2=>?_,λb c I=>G b c λe=>I (e ▸ O),λi hi=>?_,D.os,D.tape,D.output,D.size⟩
 ·have:=RV.vec (φ:=φ') (h:=updH h 1 (.slice (some ⟨g,0,none⟩) k.length cap)) 1 (by rw[p];rfl);rw[p] at this;exact this
 ·by_cases hi:i=1
  ·subst hi;rw[p];rfl
  ·rw[Zd _ _ hi];exact hp.one i
 ·obtain⟨⟨K,fr,hw⟩,I⟩:=hp.glob.x L arr hx;exact⟨⟨K,fr,z _ _ hw λe=>I (e ▸ O)⟩,λJ=>I (Q _ J)⟩
 ·obtain⟨⟨arr,K,fr,q,hw,ha⟩,I⟩:=hp.glob.i L hx;exact⟨⟨arr,K,fr,q,z _ _ hw λe=>I (e ▸ O),ha⟩,λJ=>I (Q _ J)⟩
 ·by_cases E:b=g
  ·subst E;rw[C] at W;split at W
   ·simp_all
   ·cases W
  ·have x:φ b o=some u:=by
    simp_all
   have V:b<w.heap.size:=Sub.lt (w:=w) hp.mem x;rw[World.cell?_of_block (a:=⟨b,o,none⟩) (G b V E)];exact hp.mem b o u x
 ·simp only[lk] at t;split at t
  ·rename_i e;subst e;cases t;rw[p];exact Zej (.inr O) M (by omega) hcap S N λo=>by rw[C o];simp
  ·cases t
 ·simp only[lk] at hi hj;split at hi
  ·simp_all
  ·cases hi
 ·by_cases E:b=g
  ·simp_all
  ·simp_all
 ·have:i≠1:=λe=>by rw[e] at hi;simp[lk] at hi
  exact Zd _ _ this
theorem After.same {φ:Mem} {h:Nat->Value} {w:World} {ob:Obs} (hp:Loc (λ_=>True) ob φ h w):After [] φ h w [] φ h w :=
 ⟨⟨hp.one,hp.glob.sub λb ⟨i,hi,_⟩=>by simp[lk] at hi,hp.mem,λi o a=>by simp[lk] at a,λi j b hi=>by simp[lk] at hi⟩,λ_ _ _ h=>h,λb o u h1 h2=>(by rw[h1] at h2;cases h2),λ_ _ _=>rfl,λ_ _=>rfl,rfl,rfl,rfl,Nat.le_refl _⟩
theorem ZcQ {φ:Mem} {h:Nat->Value} {v:Value} (hv:RV φ h v (.slice [] [])): ∃ p c,v=.slice p 0 c:=by
 cases hv with
 |pure hr=>cases hr with
  |nil=>exact⟨none,0,rfl⟩
  |nilA a c=>exact⟨some a,c,rfl⟩
  |slice b off cap sz _ _ vals _ _ _ _=>exact⟨some ⟨b,off,none⟩,cap,rfl⟩
theorem CallL.sortN (a:ZC P f=true) (H: ∀ (p:Option Addr) (cap:Nat) (w:World),Calls P f #[.slice p 0 cap] w λe w'=>e=.returned (.tuple #[])/\w'=w):CallL P (.func (.func f) [] []) [.slice [] []] [] λr ob=>r=.tuple []/\ob=[]:=by
 intro F l n φ h w v vs hp hv i;obtain⟨va,vc,rfl,b,d⟩: ∃ va vc,v=.func (.func f) va vc/\va.size=0/\vc.size=0:=by
  cases hv with
  |pure hr=>cases hr
  |func _ vf vc _ _ hf hc _ _=>exact⟨vf,vc,rfl,hf,hc⟩
 obtain⟨u,rfl,m⟩:=vs1 i;obtain⟨p,c,rfl⟩:=ZcQ m;rw[Zi a];have j:va=#[]:=by simpa using b
 have k:vc=#[]:=by simpa using d
 subst j;subst k;simp only[Array.empty_append,Array.append_empty,DynOut];refine l.calls ((H p c w).mono ?_) n;rintro e w' ⟨rfl,rfl⟩;exact .ret ⟨rfl,rfl⟩ (φ':=φ) (h':=h) (.tuple _ _ rfl (by simp)) (After.same hp)
theorem CallL.compactN (a:ZC P f=true) (H: ∀ (p:Option Addr) (cap:Nat) (w:World),Calls P f #[.slice p 0 cap] w λe w'=>e=.returned (.slice p 0 cap)/\w'=w):CallL P (.func (.func f) [] []) [.slice [] []] [] λr ob=>r=.slice [] []/\ob=[]:=by
 intro F m n φ h w v vs hp hv i;obtain⟨va,vc,rfl,b,d⟩: ∃ va vc,v=.func (.func f) va vc/\va.size=0/\vc.size=0:=by
  cases hv with
  |pure hr=>cases hr
  |func _ vf vc _ _ hf hc _ _=>exact⟨vf,vc,rfl,hf,hc⟩
 obtain⟨u,rfl,j⟩:=vs1 i;obtain⟨p,c,rfl⟩:=ZcQ j;rw[Zi a];have k:va=#[]:=by simpa using b
 have l:vc=#[]:=by simpa using d
 subst k;subst l;simp only[Array.empty_append,Array.append_empty,DynOut];refine m.calls ((H p c w).mono ?_) n;rintro e w' ⟨rfl,rfl⟩;exact .ret ⟨rfl,rfl⟩ (φ':=φ) (h':=h) j (After.same hp)
theorem QP (a b:List (List UInt8)):strC (a++b)=strC a++strC b:=by simp[strC]
theorem FnOK.freezeS {args:List D} {ty:TypeId} {l:List (List UInt8)} (h:FnOK P f args (.own 1 ty (strC l))) (k:l≠[]):FnOK P f args (.slice (strC l) []):=by
 intro φ hh w vs h1 h2 m n o;refine (h φ hh w vs h1 h2 m n o).mono ?_;rintro e w' ⟨v,φ',rfl,p,rest⟩;refine⟨v,φ',rfl,?_,rest⟩;obtain⟨g,cap,cur,rfl,_,_,q,_,_,_,r⟩:=arrS (h:=noH) p k;intro h';have b:(strC l).length=l.length:=Zp l;have key: ∀ i e,(strC l++[])[i]? = some e->i<l.length/\e=[D.str (l.getD i [])]:=λi e a=>by
  rw[List.append_nil] at a;have hi:i<l.length:=by
   grind
  rw[Z5j hi] at a;exact⟨hi,by cases a;rfl⟩
 refine .pure ?_
 conv=>arg 2;rw[<- b]
 refine .slice g 0 cap 1 _ _ (λi j=>encStr (l.getD i [])) (by rw[b];simpa using q) (λe a=>?_) (λi e j d a c=>?_) (λi e j d a c=>?_)
 ·obtain⟨i,hi⟩:=List.mem_iff_getElem?.1 a;rw[(key i e hi).2];rfl
 ·grind
 ·obtain⟨hi,rfl⟩:=key i e a;cases j with
  |succ j=>simp at c
  |zero =>
   cases c;exact .str _
end Go.Sx
/- The variables of a term. -/
namespace Go.Sx
def Tm.v1:Tm->List (List UInt8)
 |.mk k _ s _=>if k=3 then [s] else []
mutual
def Tm.vs:Tm->List (List UInt8)
 |.mk k n s l=>Tm.v1 (.mk k n s l)++Tm.vsL l
def Tm.vsL:List Tm->List (List UInt8)
 |[]=>[]
 |a::r=>a.vs++Tm.vsL r
end
theorem Z59 {l:List Tm} {x:Tm} (h:x∈l):x.vs.length<=(Tm.vsL l).length:=by induction l<;>grind [List.length_append,Tm.vsL]
end Go.Sx
/- THE COUNT OF DRAWS NEVER FALLS: over whatever steps of the machine. -/
namespace Go.Sx.Dr
open Go
def Res.w {α:Type}:Result α->World
 |.ok _ w=>w
 |.halt _ w=>w
theorem Zs9 {α:Type}: ∀ (a:Ask α) (w:World),w.drawn<=(w.ask a).2.drawn:=by
 intro a;induction a with
 |done a=>exactλw=>Nat.le_refl _
 |ask b range k c =>
  intro w;simp only[World.ask];split
  ·exact c _ w
  ·grind
theorem Zho (w:World) (c:Sys):w.drawn<=(w.sys c).2.drawn:=by
 unfold World.sys;have h:=Zs9 (Kernel.perform c w.os) w;split
 ·grind
 ·grind
theorem ZiI {p:Program} {w:World} {a:Addr} {u:TypeId} {k:Addr} {v:Value} {b:Bool} {r:World × List Addr} (h:w.viewStore p a u k v b=.ok r):r.1.drawn=w.drawn:=by
 unfold World.viewStore at h;simp only[bind,Except.bind,pure,Except.pure] at h;repeat' split at h
 all_goals first
  |(cases h;done)
  |(cases h;rfl)
theorem ZhT {p:Program} {w:World} {a:Addr} {v:Value} {b:Bool} {r:World × List Addr} (h:w.farStore p a v b=.ok r):r.1.drawn=w.drawn:=by
 unfold World.farStore at h;split at h
 ·grind [ZiI]
 ·cases h
theorem Z6S (w:World) (a:Addr) (n:Nat):(w.freeze a n).drawn=w.drawn:=by unfold World.freeze;grind
theorem Q5 {α:Type} (p:Program): ∀ (s:Sem α) (w:World),w.drawn<=(Res.w (s.run p w)).drawn:=by
 intro s;induction s with
 |pure a=>exactλw=>Nat.le_refl _
 |load m a k b =>
  intro w;simp only[Sem.run];split
  ·exact b _ w
  ·split
   ·exact b _ w
   ·exact Nat.le_refl _
 |store m a v k b =>
  intro w;cases v<;>simp only[Sem.run]<;>(repeat' split)<;>first
   |exact Nat.le_refl _
   |exact b (w.setCell a _)
   |(rename_i h;exact Nat.le_trans (Nat.le_of_eq (ZhT h).symm) (b _))
 |new o k b=>exactλw=>b _ {w with heap:=w.heap.push o}
 |shape r k b=>exactλw=>b _ w
 |freeze a n k b=>exactλw=>Nat.le_trans (Nat.le_of_eq (Z6S w a n).symm) (b _)
 |frozen a k b=>exactλw=>b _ w
 |getObj r k b =>
  intro w;simp only[Sem.run];repeat' split
  all_goals first
   |exact Nat.le_refl _
   |exact b _ w
 |setObj r o k b =>
  intro w;simp only[Sem.run];repeat' split
  all_goals first
   |exact Nat.le_refl _
   |exact b {w with heap:=w.heap.setIfInBounds r o}
 |choose q k b =>
  intro w;simp only[Sem.run];split
  ·exact b _ w
  ·grind
 |sys c k b=>exactλw=>Nat.le_trans (Zho w c) (b _ _)
 |program k b=>exactλw=>b _ w
 |mark m k b=>exactλw=>b w
 |halt h=>exactλw=>Nat.le_refl _
theorem Z5p {α:Type} (p:Program): ∀ (s:Sem α) (w:World) (es:Array Event),w.drawn<=(Res.w (s.runT p w es).1).drawn:=by
 intro s;induction s with
 |pure a=>exactλw _=>Nat.le_refl _
 |load m a k b =>
  intro w es;simp only[Sem.runT];split
  ·exact b _ w _
  ·split
   ·exact b _ w _
   ·exact Nat.le_refl _
 |store m a v k b =>
  intro w es;cases v<;>simp only[Sem.runT]<;>(repeat' split)<;>first
   |exact Nat.le_refl _
   |exact b (w.setCell a _) _
   |(rename_i h;exact Nat.le_trans (Nat.le_of_eq (ZhT h).symm) (b _ _))
 |new o k b=>exactλw es=>b _ {w with heap:=w.heap.push o} es
 |shape r k b=>exactλw es=>b _ w es
 |freeze a n k b=>exactλw es=>Nat.le_trans (Nat.le_of_eq (Z6S w a n).symm) (b _ es)
 |frozen a k b=>exactλw es=>b _ w es
 |getObj r k b =>
  intro w es;simp only[Sem.runT];repeat' split
  all_goals first
   |exact Nat.le_refl _
   |exact b _ w _
 |setObj r o k b =>
  intro w es;simp only[Sem.runT];repeat' split
  all_goals first
   |exact Nat.le_refl _
   |exact b {w with heap:=w.heap.setIfInBounds r o} _
 |choose q k b =>
  intro w es;simp only[Sem.runT];split
  ·exact b _ w es
  ·grind
 |sys c k b=>exactλw es=>Nat.le_trans (Zho w c) (b _ _ _)
 |program k b=>exactλw es=>b _ w es
 |mark m k b=>exactλw es=>b w _
 |halt h=>exactλw es=>Nat.le_refl _
def Gok (d:Nat):GStep->Prop
 |.go _ w _=>d<=w.drawn
 |.comm _ _ _ _ w _=>d<=w.drawn
 |.spawn _ _ w _=>d<=w.drawn
 |.count _ w _=>d<=w.drawn
 |.timer _ _ w _=>d<=w.drawn
 |.alone _ _ w _=>d<=w.drawn
 |.newcoro _ _ _ w _=>d<=w.drawn
 |.coroswitch _ _ _ w _=>d<=w.drawn
 |.collect _ w _=>d<=w.drawn
 |.watch _ w _=>d<=w.drawn
 |.ended .. =>True
theorem QH {d:Nat} {es:Array Event} {s:GStep} (h:Gok d s):Gok d (s.after es):=by cases s<;>exact h
theorem Z4R {d e:Nat} {s:GStep} (h:Gok d s) (a:e<=d):Gok e s:=by cases s<;>grind [Nat.le_trans,Gok]
theorem ZrG {d:Nat} (w:World) (a:Nat) (t:ByteArray) (o:Outcome):Gok d (endWith w a t o):=by
 unfold endWith;simp only;repeat' split
 all_goals trivial
theorem Zfr (fr:Frame) (m:String) (w:World):Gok w.drawn (endThrow fr m w):=Nat.le_refl _
theorem Z9h (p:Program) (fr:Frame) (v:Value) (w:World):Gok w.drawn (endPrinting p fr v w):=by
 unfold endPrinting;simp only;split
 ·exact Nat.le_refl _
 ·trivial
theorem Zgu (p:Program) (fr:Frame) (cs:List Frame) (a:Option Dying) (m:String) (w:World):Gok w.drawn (endFatal p fr cs a m w):=by
 unfold endFatal;simp only;split
 ·rename_i h
  have:=congrArg (λr=>(Res.w r).drawn) h;exact Nat.le_trans (Q5 p _ w) (Nat.le_of_eq this)
 ·trivial
 ·trivial
theorem gite {d:Nat} {c:Prop} [Decidable c] {a b:GStep} (ha:Gok d a) (e:Gok d b):Gok d (if c then a else b):=by split<;>assumption
theorem pair {α:Type} (p:Program) (s:Sem α) (w:World) (es:Array Event): ∃ r a,s.runT p w es=(r,a)/\w.drawn<=(Res.w r).drawn :=
 ⟨_,_,rfl,Z5p p s w es⟩
theorem Z9P {d:Nat} {fr:Frame} {m:String} {w:World} (h:d<=w.drawn):Gok d (endThrow fr m w):=Z4R (Zfr fr m w) h
theorem ZhN {d:Nat} {p:Program} {fr:Frame} {cs:List Frame} {a:Option Dying} {m:String} {w:World} (h:d<=w.drawn):Gok d (endFatal p fr cs a m w):=Z4R (Zgu p fr cs a m w) h
theorem Zqy {d:Nat} {p:Program} {fr:Frame} {v:Value} {w:World} (h:d<=w.drawn):Gok d (endPrinting p fr v w):=Z4R (Z9h p fr v w) h
theorem Zfc (p:Program) (fr:Frame) (d:Dying) (f:Fatal) (w:World):Gok w.drawn (writeOn p fr d f w):=by
 unfold writeOn;simp only;split
 ·trivial
 ·split
  ·rename_i h;exact Nat.le_trans (Z5p p _ w #[]) (Nat.le_of_eq (congrArg (λr=>(Res.w r.1).drawn) h))
  ·rename_i h;exact Nat.le_trans (Z5p p _ w #[]) (Nat.le_of_eq (congrArg (λr=>(Res.w r.1).drawn) h))
  ·trivial
  ·trivial
theorem ZrI (p:Program) (fr:Frame) (d:Dying) (w:World):Gok w.drawn (die p fr d w):=by
 unfold die;split
 ·exact Zfc _ _ _ _ _
 ·split
  ·split
   ·exact Nat.le_refl _
   ·exact ZrG _ _ _ _
  ·simp only;split
   ·exact Nat.le_refl _
   ·split
    ·rename_i h;exact Nat.le_trans (Q5 p _ w) (Nat.le_of_eq (congrArg (λr=>(Res.w r).drawn) h))
    ·trivial
   ·rename_i t recv name _;obtain⟨r,b,hr,a⟩:=pair p (invoke (.fn (.method name) #[]) #[.iface t recv]) w #[];rw[hr];refine QH ?_;try simp only
    split<;>first|exact a|trivial|exact Zqy a
   ·trivial
theorem Zhy (p:Program) (a:Bool) (fr:Frame) (cs:List Frame) (b:Option Dying) (v:Value) (w:World):Gok w.drawn (doReturn p a fr cs b v w):=by
 unfold doReturn;simp only;repeat' split
 all_goals first|exact Nat.le_refl _|trivial
theorem gret {d:Nat} {p:Program} {a:Bool} {fr:Frame} {cs:List Frame} {b:Option Dying} {v:Value} {w:World} (h:d<=w.drawn):Gok d (doReturn p a fr cs b v w):=Z4R (Zhy ..) h
theorem ZgD (p:Program) (fr:Frame) (cs:List Frame) (b:Option Dying) (d:Deferred) (w:World):Gok w.drawn (callDeferred p fr cs b d w):=by
 unfold callDeferred;refine gite ?_ ?_
 ·trivial
 ·obtain⟨r,c,hr,a⟩:=pair p (invoke d.target d.args) w #[];rw[hr];refine QH ?_;try simp only
  split<;>first|exact a|trivial|exact Z9P a|exact ZhN a|(split<;>exact a)
theorem ZbA (p:Program) (b:Bool) (fr:Frame) (cs:List Frame) (d:Option Dying) (w:World):Gok w.drawn (unwind p b fr cs d w):=by
 unfold unwind;split
 ·rename_i block _ ds _;obtain⟨r,c,hr,a⟩:=pair p (Instr.takeDeferred block) w #[];rw[hr];refine QH ?_;try simp only
  split
  ·exact a
  ·trivial
 ·exact ZgD _ _ _ _ _ _
 ·split
  ·trivial
  ·split
   ·trivial
   ·split
    ·exact Nat.le_refl _
    ·split
     ·split
      ·exact Nat.le_refl _
      ·split
       ·rename_i h;exact Nat.le_trans (Q5 p _ w) (Nat.le_of_eq (congrArg (λr=>(Res.w r).drawn) h))
       ·trivial
       ·trivial
     ·split
      ·exact Z9h _ _ _ _
      ·trivial
  ·split
   ·exact Zhy ..
   ·rename_i fn _;obtain⟨r,c,hr,a⟩:=pair p (results fn fr.tmps) w #[];rw[hr];refine QH ?_;try simp only
    split
    ·exact gret a
    ·trivial
    ·trivial
theorem ZgA (p:Program) (fr:Frame) (cs:List Frame) (b:Option Dying) (g:Nat) (w:World):Gok w.drawn (early p fr cs b g w):=by
 have a: ∀ (w':World) (d:String),w.drawn<=w'.drawn->Gok w.drawn (match w'.heap[g]? with
  |some (.pending c elem)=>.go {frame:=fr,callers:=cs,status:=.running,dying:=b} {w' with heap:=w'.heap.setIfInBounds g (.cells c elem)}
  |_=>.ended (.stuck d (fr.pos p)) w'):=λw' d h=>by
  split
  ·exact h
  ·trivial
 unfold early;simp only;split
 ·exact a w _ (Nat.le_refl _)
 ·split
  ·trivial
  ·split
   ·exact a w _ (Nat.le_refl _)
   ·split
    ·exact a w _ (Nat.le_refl _)
    ·split
     ·trivial
     ·exact Nat.le_refl _
     ·trivial
     ·exact a w _ (Nat.le_refl _)
     ·split
      ·exact Nat.le_refl _
      ·split
       ·exact a w _ (Nat.le_refl _)
       ·split
        ·rename_i h;exact a _ _ (Nat.le_trans (Q5 p _ w) (Nat.le_of_eq (congrArg (λr=>(Res.w r).drawn) h)))
        ·rename_i h;exact Nat.le_trans (Q5 p _ w) (Nat.le_of_eq (congrArg (λr=>(Res.w r).drawn) h))
        ·trivial
theorem ZqB {d:Nat} {p:Program} {fr:Frame} {cs:List Frame} {a:Option Dying} {g:Nat} {w:World} (h:d<=w.drawn):Gok d (early p fr cs a g w):=Z4R (ZgA ..) h
theorem Z1G (p:Program) (listen:Bool) (fr:Frame) (cs:List Frame) (b:Option Dying) (s:Sem Next) (w:World):Gok w.drawn (stepG.apply p listen fr cs b s w):=by
 unfold stepG.apply;simp only;have a:w.drawn<=(Res.w (if listen=true then s.runT p w #[] else (s.run p w,#[])).1).drawn:=by
  split
  ·exact Z5p p s w #[]
  ·exact Q5 p s w
 generalize (if listen=true then s.runT p w #[] else (s.run p w,#[]))=q at a ⊢;obtain⟨r,es⟩:=q;refine QH ?_;simp only at a ⊢;split<;>first
  |exact a
  |trivial
  |exact Z9P a
  |exact ZhN a
  |exact ZqB a
  |exact gite (Z9P a) a
  |(split<;>first|exact a|exact Z9P a)
theorem ZkB (p:Program) (listen:Bool) (fr:Frame) (cs:List Frame) (a:Option Dying) (w:World):Gok w.drawn (stepG.oper p listen fr cs a w):=by
 unfold stepG.oper;split
 ·trivial
 ·grind [Z1G]
theorem ZqC {d:Nat} {p:Program} {listen:Bool} {fr:Frame} {cs:List Frame} {a:Option Dying} {s:Sem Next} {w:World} (h:d<=w.drawn):Gok d (stepG.apply p listen fr cs a s w):=Z4R (Z1G ..) h
theorem Zlr (p:Program) (c listen:Bool) (fr:Frame) (cs:List Frame) (i:Option Dying) (w:World):Gok w.drawn (stepG.exec p c listen fr cs i w):=by
 have leave: ∀ (a:Option Code) (m n:String),Gok w.drawn (match fr.roundOf with
   |none=>if (match a with|none|some .ret=>true|_=>false)=true then GStep.go {frame:={fr with mode:=.returning},callers:=cs,status:=.running,dying:=i} w else .ended (.stuck m (fr.pos p)) w
   |some l =>
    match (Instr.endRound l a).runT p w #[] with
    |(r,es)=>GStep.after (seen p fr.fn es) (match r with
     |.ok v w=>doReturn p c fr cs i v w
     |.halt _ w=>.ended (.stuck n (fr.pos p)) w)):=λa m n=>by
  split
  ·exact gite (Nat.le_refl _) trivial
  ·rename_i l _;obtain⟨r,e,hr,b⟩:=pair p (Instr.endRound l a) w #[];rw[hr];refine QH ?_;try simp only
   split
   ·exact gret b
   ·trivial
 have d: ∀ (o:Option (List Item)) (j:Code) (f:List Item->GStep),(∀ k,Gok w.drawn (f k))-> ∀ g,Gok w.drawn g->Gok w.drawn (o.elim g f):=λo j f hf g q=>by
  cases o
  ·exact q
  ·exact hf _
 unfold stepG.exec;simp only;split
 ·exact leave none "" _
 ·exact leave (some .ret) "" _
 all_goals try exact Nat.le_refl _
 all_goals try trivial
 all_goals try exact Z1G ..
 ·split
  ·exact Nat.le_refl _
  ·trivial
 ·rename_i id k _;exact d _ .skip _ (λ_=>Nat.le_refl _) _ (leave (some (.exit id)) _ _)
 ·rename_i id k _;exact d _ .skip _ (λ_=>Nat.le_refl _) _ (leave (some (.goto id)) _ _)
 ·rename_i f ps asg body k _;obtain⟨r,e,hr,b⟩:=pair p (Instr.enterLoop fr.fn fr.tmps ps asg body fr.roundOf) w #[];rw[hr];refine QH ?_;try simp only
  split
  ·exact ZqC b
  ·trivial
 ·rename_i l k _;obtain⟨r,e,hr,b⟩:=pair p (Instr.endLoop l) w #[];rw[hr];refine QH ?_;try simp only
  split
  ·exact b
  ·exact b
  ·trivial
 ·rename_i row args _ _;cases Extern.next row
  ·trivial
  ·exact Z1G ..
 ·split
  ·exact Nat.le_refl _
  ·split
   ·rename_i h;exact Nat.le_trans (Q5 p _ w) (Nat.le_of_eq (congrArg (λr=>(Res.w r).drawn) h))
   ·trivial
 ·refine gite (ZkB ..) (Nat.le_refl _)
theorem ZfA (p:Program) (a:Bool) (g:Goroutine) (w:World) (listen:Bool):Gok w.drawn (stepG p a g w listen):=by
 unfold stepG;split;try simp only
 split
 ·exact ZrI ..
 ·exact Zlr ..
 ·exact ZbA ..
def Sok (d:Nat):Stepped->Prop
 |.next m=>d<=m.world.drawn
 |.ended .. =>True
theorem Z6p {d e:Nat} {s:Stepped} (h:Sok d s) (a:e<=d):Sok e s:=by cases s<;>grind [Nat.le_trans,Sok]
theorem Z5z (p:Program) (a:Array Goroutine) (rest:Rest) (w:World):Sok w.drawn (look p a rest w):=by
 unfold look;split
 ·simp only;split
  ·trivial
  ·split
   ·trivial
   ·split
    ·rename_i h;exact Nat.le_trans (Q5 p _ w) (Nat.le_of_eq (congrArg (λr=>(Res.w r).drawn) h))
    ·trivial
    ·trivial
 ·trivial
theorem ZiH {rest:Rest} {cases:Array CommCase} {w w':World} (h:waitingAt rest cases w=some w'):w'.drawn=w.drawn:=by unfold waitingAt at *;grind
theorem ZlF (p:Program) (rest:Rest) (c:Array Goroutine) (i:Nat) (g:Goroutine) (cases:Array CommCase) (b:Bool) (shape:CommShape) (w:World):Sok w.drawn (communicate p rest c i g cases b shape w).1:=by
 unfold communicate;simp only;split
 ·trivial
 ·split
  ·split
   ·split
    ·rename_i h;exact Nat.le_of_eq (ZiH h).symm
    ·trivial
   ·exact Nat.le_refl _
  ·split
   ·trivial
   ·rename_i h;have a:=Nat.le_trans (Q5 p _ w) (Nat.le_of_eq (congrArg (λr=>(Res.w r).drawn) h));simp only[Res.w] at a;split
    ·split
     ·rename_i h2;exact Nat.le_trans a (Nat.le_trans (Q5 p _ _) (Nat.le_of_eq (congrArg (λr=>(Res.w r).drawn) h2)))
     ·trivial
    ·exact a
    ·exact a
    ·split
     ·exact a
     ·split
      ·rename_i h2;exact Nat.le_trans a (Nat.le_trans (Q5 p _ _) (Nat.le_of_eq (congrArg (λr=>(Res.w r).drawn) h2)))
      ·trivial
    ·exact a
    ·exact a
    ·trivial
theorem ZfE (p:Program) (m:Machine) (k:Nat):Sok m.world.drawn (serve p m k):=by
 unfold serve;split
 ·trivial
 ·exact Nat.le_refl _
 ·simp only;split
  ·trivial
  ·exact Nat.le_refl _
theorem ZgC (w:World) (c:Nat):(drain w c).2.drawn=w.drawn:=by
 unfold drain;split<;>rfl
theorem Z6A (m:Machine) (k:Nat) (t:Timer) (a b:Nat):(retime m k t a b).2.world.drawn=m.world.drawn:=by
 unfold retime;simp only;split
 ·exact ZgC _ _
 ·rfl
theorem ZcB {m m':Machine} {a:Addr} (h:timerOp.opened m a=some m'):m'.world.drawn=m.world.drawn:=by unfold timerOp.opened at *;grind
theorem Z9r {m:Machine} {a:Addr} {f:Nat->Timer->Value × Machine} {d:Nat} (hf: ∀ k t,(f k t).2.world.drawn=d) {r:Value × Machine} (h:timerOp.named m a f=.ok r):r.2.world.drawn=d:=by unfold timerOp.named at *;grind
theorem Zfq {m:Machine} {op:TimerOp} {r:Value × Machine} (h:timerOp m op=.ok r):r.2.world.drawn=m.world.drawn:=by
 unfold timerOp at h;split at h
 ·split at h
  ·cases h;rfl
  ·grind
 ·exact Z9r (λk t=>Z6A ..) h
 ·split at h
  ·rename_i a;exact Z9r (λk t=>(Z6A ..).trans (ZcB a)) h
  ·cases h
 ·cases h;rfl
theorem ZkL (p:Program) (m:Machine) (i:Nat) (listen:Bool):Sok m.world.drawn (runT p m i listen).1:=by
 unfold runT;simp only;have h:=ZfA p (i == 0) (m.gs.swapAt! i {(default:Goroutine) with status:=.finished}).1 m.world listen;generalize stepG p (i == 0) (m.gs.swapAt! i {(default:Goroutine) with status:=.finished}).1 m.world listen=s at h ⊢;cases s with
 |ended o w es=>trivial
 |comm g cases b sh w es=>exact Z6p (ZlF ..) h
 |go g w es=>exact h
 |spawn g c w es=>exact h
 |count g w es =>
  simp only;split
  ·trivial
  ·exact h
 |alone g on w es=>exact h
 |collect g w es=>exact Z6p (Z5z ..) h
 |watch g w es=>exact h
 |newcoro g c d w es=>exact h
 |coroswitch g c ex w es =>
  simp only;split
  ·exact h
  ·split
   ·rename_i h2;unfold endThrow dieOf at h2;cases h2;exact h
   ·trivial
  ·trivial
 |timer g op w es =>
  simp only;split
  ·rename_i h2;exact Nat.le_trans h (Nat.le_of_eq (Zfq h2).symm)
  ·split
   ·rename_i h2;unfold endThrow dieOf at h2;cases h2;exact h
   ·trivial
  ·trivial
  ·trivial
def Mok (d:Nat):Move->Prop
 |.goroutine m _=>d<=m.world.drawn
 |.machine s _=>Sok d s
theorem ZhG {d e:Nat} {s:Move} (h:Mok d s) (a:e<=d):Mok e s:=by cases s<;>grind [Nat.le_trans,Z6p,Mok]
theorem Z65 (p:Program) (m:Machine):Mok m.world.drawn (askOn p m):=by
 unfold askOn;simp only;split
 ·trivial
 ·rename_i h1;have h1:=Nat.le_trans (Q5 p _ _) (Nat.le_of_eq (congrArg (λr=>(Res.w r).drawn) h1));simp only[Res.w] at h1;split
  ·exact Z6p (ZfE ..) h1
  ·split
   ·split
    ·exact h1
    ·split
     ·exact h1
     ·split
      ·trivial
      ·trivial
   ·split
    ·split
     ·trivial
     ·rename_i a;have a:=Nat.le_trans h1 (Nat.le_trans (Q5 p _ _) (Nat.le_of_eq (congrArg (λr=>(Res.w r).drawn) a)));split
      ·exact a
      ·split
       ·trivial
       ·rename_i b;exact Nat.le_trans a (Nat.le_trans (Q5 p _ _) (Nat.le_of_eq (congrArg (λr=>(Res.w r).drawn) b)))
    ·split
     ·trivial
     ·rename_i h2;have h2:=Nat.le_trans h1 (Nat.le_trans (Q5 p _ _) (Nat.le_of_eq (congrArg (λr=>(Res.w r).drawn) h2)));split
      ·trivial
      ·rename_i a;have a:=Nat.le_trans h2 (Nat.le_trans (Q5 p _ _) (Nat.le_of_eq (congrArg (λr=>(Res.w r).drawn) a)));split
       ·exact a
       ·split
        ·trivial
        ·rename_i b;exact Nat.le_trans a (Nat.le_trans (Q5 p _ _) (Nat.le_of_eq (congrArg (λr=>(Res.w r).drawn) b)))
     ·rename_i h2;exact Nat.le_trans h1 (Nat.le_trans (Q5 p _ _) (Nat.le_of_eq (congrArg (λr=>(Res.w r).drawn) h2)))
     ·rename_i h2;have h2:=Nat.le_trans h1 (Nat.le_trans (Q5 p _ _) (Nat.le_of_eq (congrArg (λr=>(Res.w r).drawn) h2)));split
      ·trivial
      ·rename_i a;have a:=Nat.le_trans (m:=(Machine.world (Machine.advanceTo {m with world:=_} _)).drawn) h2 (Nat.le_trans (Q5 p _ _) (Nat.le_of_eq (congrArg (λr=>(Res.w r).drawn) a)));split
       ·exact a
       ·split
        ·trivial
        ·rename_i b;exact Nat.le_trans a (Nat.le_trans (Q5 p _ _) (Nat.le_of_eq (congrArg (λr=>(Res.w r).drawn) b)))
theorem Zi2 (p:Program) (m:Machine):Mok m.world.drawn (ask p m):=by
 unfold ask;split
 ·split
  ·trivial
  ·rename_i world h1;have h1:=Nat.le_trans (Q5 p _ _) (Nat.le_of_eq (congrArg (λr=>(Res.w r).drawn) h1));have h2:=Z5z p m.gs m.rest world;split
   ·rename_i a;rw[a] at h2;exact ZhG (Z65 ..) (Nat.le_trans h1 h2)
   ·exact Z6p h2 h1
  ·rename_i h1;have h1:=Nat.le_trans (Q5 p _ _) (Nat.le_of_eq (congrArg (λr=>(Res.w r).drawn) h1));exact ZhG (Z65 p {m with world:=_}) h1
 ·exact Z65 ..
theorem ZkM (p:Program) (m:Machine):Mok m.world.drawn (move p m):=by
 unfold move;split
 ·split
  ·exact Nat.le_refl _
  ·trivial
 ·split
  ·split
   ·exact Nat.le_refl _
   ·exact Zi2 p {m with rest:=_}
  ·exact Zi2 ..
theorem ZiS {p:Program} {m m':Machine} (h:step p m=.next m'):m.world.drawn<=m'.world.drawn:=by
 have h1:=ZkM p m;unfold step stepT at h;generalize move p m=mv at h h1;cases mv with
 |goroutine a i =>
  have h2:=ZkL p a i true;simp only at h;rw[h] at h2;exact Nat.le_trans h1 h2
 |machine s ops =>
  simp only at h;subst h;exact h1
theorem Z95 {p:Program} {m m':Machine} (h:Steps p m m'):m.world.drawn<=m'.world.drawn:=by
 obtain⟨n,a⟩:=h;induction n generalizing m with
 |zero=>simp only[runN,Stepped.next.injEq] at a;subst a;exact Nat.le_refl _
 |succ n b =>
  simp only[runN] at a;cases hs:step p m with
  |next c=>rw[hs] at a;exact Nat.le_trans (ZiS hs) (b a)
  |ended o w=>rw[hs] at a;cases a
theorem calls_le {P:Program} {f:FuncId} {args:Array Value} {w:World} {R:Ending->World->Prop} (h:Calls P f args w R) (b: ∀ w',¬ R .outgrown w'):Calls P f args w λe w'=>R e w'/\w.drawn<=w'.drawn:=λcs=>by
 obtain⟨e,w',fr,a,hc,h1,h2⟩:=h cs;refine⟨e,w',fr,⟨a,?_⟩,hc,h1,h2⟩;cases e with
 |returned v=>exact Z95 (m:=lone _ cs w) (m':=lone fr cs w') hc
 |panicked c=>exact Z95 (m:=lone _ cs w) (m':=lone fr cs w') hc
 |outgrown=>exact absurd a (b _)
end Go.Sx.Dr
/- EXPANSIONS AT EVERY TERM,PLAIN. -/
namespace Go.Sx
def Z3a (x:Int):List Int->List Int
 |[]=>[x]
 |y::r=>if x<y then x::y::r else if x=y then y::r else y::Z3a x r
def Z2b (l:List Int):List Int:=l.foldr Z3a []
theorem Z3U {x z:Int}: ∀ {l:List Int},z∈Z3a x l ↔ z=x\/z∈l
 |[]=>by simp[Z3a]
 |y::r=>by
  unfold Z3a;split
  ·simp
  ·split
   ·rename_i h;subst h;simp
   ·rw[List.mem_cons,Z3U (l:=r),List.mem_cons];constructor
    ·rintro (h|h|h)
     ·exact .inr (.inl h)
     ·exact .inl h
     ·exact .inr (.inr h)
    ·rintro (h|h|h)
     ·exact .inr (.inl h)
     ·exact .inl h
     ·exact .inr (.inr h)
theorem Z9K {x:Int}: ∀ {l:List Int},l.Pairwise (· < ·)->(Z3a x l).Pairwise (· < ·)
 |[],_=>by simp[Z3a]
 |y::r,h=>by
  have hh:=List.pairwise_cons.1 h;unfold Z3a;split
  ·rename_i hx;refine List.pairwise_cons.2 ⟨λz a=>?_,h⟩;rcases List.mem_cons.1 a with rfl|a
   ·exact hx
   ·have:=hh.1 z a;omega
  ·split
   ·exact h
   ·refine List.pairwise_cons.2 ⟨λz a=>?_,Z9K hh.2⟩;rcases Z3U.1 a with rfl|a
    ·omega
    ·exact hh.1 z a
theorem Z2a: ∀ l:List Int,(Z2b l).Pairwise (· < ·)
 |[]=>List.Pairwise.nil
 |x::r=>Z9K (Z2a r)
theorem Z0s {z:Int}: ∀ {l:List Int},z∈Z2b l ↔ z∈l
 |[]=>Iff.rfl
 |x::r=>by
  show z∈Z3a x (Z2b r) ↔ _;rw[Z3U,Z0s (l:=r),List.mem_cons]
theorem Zcv: ∀ {a b:List Int},a.Pairwise (· < ·)->b.Pairwise (· < ·)->(∀ x,x∈a ↔ x∈b)->a=b
 |[],[],_,_,_=>rfl
 |[],y::b,_,_,h=>by have:=(h y).2 (List.mem_cons_self ..);cases this
 |x::a,[],_,_,h=>by have:=(h x).1 (List.mem_cons_self ..);cases this
 |x::a,y::b,ha,j,h=>by
  have c:=List.pairwise_cons.1 ha;have d:=List.pairwise_cons.1 j;have e:x=y:=by
   rcases List.mem_cons.1 ((h x).1 (List.mem_cons_self ..)) with e|h1
   ·exact e
   ·rcases List.mem_cons.1 ((h y).2 (List.mem_cons_self ..)) with e|h2
    ·exact e.symm
    ·have:=c.1 y h2;have:=d.1 x h1;omega
  subst e;rw[Zcv c.2 d.2 λz=>?_];constructor
  ·intro i;rcases List.mem_cons.1 ((h z).1 (List.mem_cons_of_mem _ i)) with e|h1
   ·have:=c.1 z i;omega
   ·exact h1
  ·intro i;rcases List.mem_cons.1 ((h z).2 (List.mem_cons_of_mem _ i)) with e|h1
   ·have:=d.1 z i;omega
   ·exact h1
theorem Zaz {l q:List Int} (hp:q.Perm l) (a:q.Pairwise (· < ·)):q=Z2b l:=by grind [Zcv,Z2a,Z0s]
theorem Z6L {x:Int}: ∀ {l:List Int},x ∉ l->(Z3a x l).length=l.length+1
 |[],_=>rfl
 |y::r,h=>by
  unfold Z3a;split
  ·rfl
  ·split
   ·rename_i h1 h2;subst h2;exact absurd (List.mem_cons_self ..) h
   ·rw[List.length_cons,Z6L λhm=>h (List.mem_cons_of_mem _ hm),List.length_cons]
theorem Z3F: ∀ {l:List Int},l.Nodup->(Z2b l).length=l.length
 |[],_=>rfl
 |x::r,h=>by
  have h':=List.nodup_cons.1 h;show (Z3a x (Z2b r)).length=_;rw[Z6L (λhm=>h'.1 (Z0s.1 hm)),Z3F h'.2,List.length_cons]
theorem Zl5 {n:Int} {a:List Int} (h:a.Nodup):(insI n a).Nodup:=by grind [insI]
theorem Zge {n x:Int} {a:List Int}:x∈insI n a ↔ x∈a\/x=n:=by grind [insI]
theorem Zq7 {s:List UInt8} {row a:List Int} (h:a.Nodup):(opB s row a).Nodup:=by grind [Zl5,opB]
theorem ZkF {s:List UInt8} {row a:List Int} {x:Int}:x∈opB s row a ↔ x∈a\/Z0p s row=some x:=by grind [Zge,opB]
def opF (s:List UInt8) (a:List (List Int)):List Int:=a.foldl (λb r=>opB s r b) []
theorem ZcC (s:List UInt8): ∀ (c:List (List Int)) {a:List Int},a.Nodup->(c.foldl (λb r=>opB s r b) a).Nodup
 |[],_,h=>h
 |r::l,_,h=>ZcC s l (Zq7 h)
theorem Zg1 (s:List UInt8) {x:Int}: ∀ (a:List (List Int)) {c:List Int},x∈a.foldl (λb r=>opB s r b) c ↔ x∈c\/ ∃ r∈a,Z0p s r=some x:=by intro a;induction a<;>grind [ZkF,List.mem_cons_self,List.mem_cons_of_mem]
theorem ZkE {s:List UInt8} {a:List (List Int)} {x:Int}:x∈opF s a ↔ ∃ r∈a,Z0p s r=some x:=by
 unfold opF;rw[Zg1];simp
def upto (a:Int):Nat->List Int
 |0=>[]
 |n+1=>a::upto (a+1) n
theorem Z8T {x:Int}: ∀ {n:Nat} {a:Int},x∈upto a n ↔ a<=x/\x<a+n
 |0,a=>by simp only[upto,List.not_mem_nil,false_iff];omega
 |n+1,a=>by
  rw[upto,List.mem_cons,Z8T (n:=n)];omega
theorem Z8U: ∀ {n:Nat} {a:Int},(upto a n).length=n
 |0,_=>rfl
 |n+1,a=>by rw[upto,List.length_cons,Z8U]
def minI:List Int->Int
 |[]=>0
 |a::r=>r.foldl min a
def maxI:List Int->Int
 |[]=>0
 |a::r=>r.foldl max a
def ivl (lo hi:List Int):Option (List Int) :=
 if lo.isEmpty=true\/hi.isEmpty=true then some [] else if maxI hi-minI lo+1<=1000 then some (upto (minI lo) (maxI hi-minI lo+1).toNat) else none
def opX (s:List UInt8) (parts:List (List Tm)):Option (List Tm) :=
 if (opF s (ZJ (parts.map Zl))).length<=1000 then some ((Z2b (opF s (ZJ (parts.map Zl)))).map numT) else none
def fnX (s:List UInt8) (parts:List (List Tm)):Option (List Tm) :=
 if parts.any List.isEmpty=true then some [] else if (ZJ parts).length<=1000 then some ((ZJ parts).map λr=>.mk 4 0 s r) else none
def xpK (k:Nat) (s:List UInt8) (o:Option (List (List Tm))):Option (List Tm):=match o with
 |none=>none
 |some ps=>if k=6 then (ivl (Zl (ps.getD 0 [])) (Zl (ps.getD 1 []))).map (List.map numT) else if k=5 then opX s ps else fnX s ps
def ZgJ (a:Option (List Tm)) (r:Option (List (List Tm))):Option (List (List Tm)):=match a,r with
 |some x,some l=>some (x::l)
 |_,_=>none
mutual
def Tm.xp:Tm->Option (List Tm)
 |.mk k n s l=>if l.isEmpty=true then some [.mk k n s []] else xpK k s (Tm.xpL l)
def Tm.xpL:List Tm->Option (List (List Tm))
 |[]=>some []
 |a::r=>ZgJ a.xp (Tm.xpL r)
end
theorem Z2x: ∀ {l:List Tm} {ps:List (List Tm)},Tm.xpL l=some ps->ps.length=l.length
 |[],_,h=>by cases h;rfl
 |a::r,ps,h=>by
  rw[Tm.xpL] at h;unfold ZgJ at h;split at h
  ·rename_i x q h1 h2;cases h;simp[Z2x h2]
  ·cases h
theorem Z7q: ∀ {l:List Tm} {ps:List (List Tm)},Tm.xpL l=some ps-> ∀ (i:Nat) (h:i<l.length) (h':i<ps.length),l[i].xp=some ps[i]
 |[],_,h,i,hi,_=>by simp at hi
 |a::r,ps,h,i,hi,b=>by
  rw[Tm.xpL] at h;unfold ZgJ at h;split at h
  ·rename_i x q h1 h2;cases h;cases i with
   |zero=>exact h1
   |succ i=>exact Z7q h2 i (by simpa using hi) (by simpa using b)
  ·cases h
theorem Z2w {l:List Tm} {ps:List (List Tm)} (h:Tm.xpL l=some ps) {p:List Tm} (hp:p∈ps): ∃ x∈l,x.xp=some p:=by
 obtain⟨i,hi,rfl⟩:=List.getElem_of_mem hp;have hl:=Z2x h;exact⟨l[i],List.getElem_mem _,Z7q h i (by omega) hi⟩
theorem Z6G {α:Type} {r:List α}: ∀ {L:List (List α)},r∈ZJ L ↔ r.length=L.length/\ ∀ (i:Nat) (h:i<r.length) (h':i<L.length),r[i]∈L[i]:=by
 intro L;induction L generalizing r with
 |nil =>
  grind [List.mem_singleton,ZJ,hx]
 |cons l ls b =>
  simp only[ZJ,List.mem_flatMap,List.mem_map];constructor
  ·grind
  ·rintro⟨h1,h2⟩;cases r with
   |nil=>simp at h1
   |cons x q =>
    exact⟨x,h2 0 (by simp) (by simp),q,b.2 ⟨by simpa using h1,λi hi a=>by have:=h2 (i+1) (by simpa using hi) (by simpa using a);simpa only[List.getElem_cons_succ] using this⟩,rfl⟩
theorem Zcw {α:Type} {r:List α} {L:List (List α)} (h:r∈ZJ L) {x:α} (hx:x∈r): ∃ p∈L,x∈p:=by
 obtain⟨h1,h2⟩:=Z6G.1 h;obtain⟨i,hi,rfl⟩:=List.getElem_of_mem hx;exact⟨L[i],List.getElem_mem (by omega),h2 i hi (by omega)⟩
theorem Z3S {l:List Tm} {n:Int}:n∈Zl l ↔ ∃ x∈l,x.int? = some n:=by
 unfold Zl;rw[List.mem_filterMap]
theorem Z5I: ∀ (l:List Int) (a:Int),l.foldl min a=a\/l.foldl min a∈l:=by intro l;induction l<;>grind [Int.le_total,Int.min_eq_left,Int.min_eq_right,List.mem_cons_self,List.mem_cons_of_mem]
theorem Z5w {l:List Int} (h:l≠[]):minI l∈l:=by cases l<;>grind [Z5I,List.mem_cons_self,List.mem_cons_of_mem,minI]
theorem Z5J: ∀ (l:List Int) (a:Int),l.foldl max a=a\/l.foldl max a∈l:=by intro l;induction l<;>grind [Int.le_total,Int.max_eq_right,List.mem_cons_self,Int.max_eq_left,List.mem_cons_of_mem]
theorem Z5x {l:List Int} (h:l≠[]):maxI l∈l:=by cases l<;>grind [Z5J,List.mem_cons_self,List.mem_cons_of_mem,maxI]
theorem Zda {lo hi L:List Int} (h:ivl lo hi=some L) {x:Int} (hx:x∈L): ∃ a∈lo,∃ b∈hi,a<=x/\x<=b:=by
 unfold ivl at h;split at h
 ·cases h;cases hx
 ·rename_i c;split at h
  ·cases h
   have:=Z8T.1 hx;have h1:lo≠[]:=λe=>c (.inl (by rw[e];rfl));have h2:hi≠[]:=λe=>c (.inr (by rw[e];rfl));exact⟨_,Z5w h1,_,Z5x h2,by omega,by omega⟩
  ·cases h
theorem Zl2 {lo hi L:List Int} (h:ivl lo hi=some L):L.length<=1000:=by grind [Z8U,ivl]
theorem ZiE {k:Nat} {s:List UInt8} {ps:List (List Tm)} {L:List Tm} (h:xpK k s (some ps)=some L) {v:Tm} (hv:v∈L) :
  (k=6/\ ∃ a∈Zl (ps.getD 0 []),∃ b∈Zl (ps.getD 1 []),∃ n,a<=n/\n<=b/\v=numT n)\/(k=5/\ ∃ r∈ZJ (ps.map Zl),∃ n,Z0p s r=some n/\v=numT n)\/(k≠5/\k≠6/\ ∃ r∈ZJ ps,v=.mk 4 0 s r):=by
 unfold xpK at h;simp only at h;split at h
 ·rename_i hk;cases hi:ivl (Zl (ps.getD 0 [])) (Zl (ps.getD 1 [])) with
  |none=>rw[hi] at h;cases h
  |some q =>
   rw[hi] at h;cases h;obtain⟨n,d,rfl⟩:=List.mem_map.1 hv;obtain⟨a,ha,b,e,h1,h2⟩:=Zda hi d;exact .inl ⟨hk,a,ha,b,e,n,h1,h2,rfl⟩
 ·rename_i hk;split at h
  ·rename_i c;unfold opX at h;split at h
   ·cases h;obtain⟨n,d,rfl⟩:=List.mem_map.1 hv;obtain⟨r,hr,hc⟩:=ZkE.1 (Z0s.1 d);exact .inr (.inl ⟨c,r,hr,n,hc,rfl⟩)
   ·cases h
  ·grind [Zda,xpK,ivl,Zl,opX,fnX]
theorem ZiF {k:Nat} {s:List UInt8} {ps:List (List Tm)} {L:List Tm} (h:xpK k s (some ps)=some L):L.length<=1000:=by
 unfold xpK at h;simp only at h;split at h
 ·cases hi:ivl (Zl (ps.getD 0 [])) (Zl (ps.getD 1 [])) with
  |none=>rw[hi] at h;cases h
  |some q =>
   rw[hi] at h;cases h;rw[List.length_map];exact Zl2 hi
 ·split at h
  ·unfold opX at h;split at h
   ·cases h;rename_i hl;have e:=Z3F (l:=opF s (ZJ (ps.map Zl))) (ZcC s _ List.nodup_nil);rw[List.length_map,e];exact hl
   ·cases h
  ·unfold fnX at h;split at h
   ·cases h;simp
   ·grind
theorem Zbr: ∀ {t:Tm} {L:List Tm},t.xp=some L->L.length<=1000
 |.mk k n s l,L,h=>by
  rw[Tm.xp] at h;split at h
  ·cases h;simp
  ·cases hp:Tm.xpL l with
   |none=>rw[hp] at h;cases h
   |some ps=>rw[hp] at h;exact ZiF h
theorem Z3T {x:Tm} {n:Int} (hs:x.all Tm.shape=true) (h:x.int? = some n):Zu n=true:=by
 obtain⟨k,m,s,l⟩:=x;have hs:=(ZI.1 hs).1;simp only[Tm.int?] at h;split at h
 ·grind [ZD,Tm.int?,Tm.shape,Qi]
 ·cases h
theorem Z6r {n:Int} {s:List UInt8} {l:List Tm} (h:Tm.shape (.mk 6 n s l)=true):l.length=2:=by grind [Tm.shape,Qi]
theorem Z1i: ∀ (t:Tm) (L:List Tm) (v:Tm),t.all Tm.shape=true->t.all Tm.gr=true->t.xp=some L->v∈L->v.all Tm.plain=true/\v.all Tm.shape=true/\v.depth<=t.depth
 |.mk k n s l,L,v,z,B,h,hv=>by
  rw[Tm.xp] at h;have hs:=ZI.1 z;have A:=ZI.1 B;split at h
  ·rename_i u;have u:l=[]:=List.isEmpty_iff.1 u;subst u;cases h;rw[List.mem_singleton] at hv;subst hv;refine⟨?_,z,Nat.le_refl _⟩;rw[ZI];refine⟨?_,λx hx=>by cases hx⟩;have h1:=hs.1;have h2:=A.1;simp only[Tm.gr,Tm.plain,Bool.not_eq_true',decide_eq_false_iff_not,Bool.or_eq_true,decide_eq_true_eq] at h2 ⊢;simp only[Tm.shape,Qi] at h1
   (repeat' split at h1)<;>simp_all<;>omega
  ·rename_i u;have u:l≠[]:=λe=>u (by rw[e];rfl);cases hp:Tm.xpL l with
   |none=>rw[hp] at h;cases h
   |some ps =>
    rw[hp] at h;have o: ∀ {m:Int},Zu m=true->v=numT m->v.all Tm.plain=true/\v.all Tm.shape=true/\v.depth<=(Tm.mk k n s l).depth:=λhm e=>by
     subst e;have q:=ZaT hm;exact⟨q.1,q.2.1,by rw[q.2.2];simp[Tm.depth]⟩
    have w:=Z2x hp;rcases ZiE h hv with⟨_,a,ha,b,J,m,h1,h2,e⟩|⟨_,r,hr,m,hc,e⟩|⟨H,I,r,hr,e⟩
    ·refine o (ZD.2 ?_) e;have key: ∀ {i:Nat} {c:Int},c∈Zl (ps.getD i [])->Zu c=true:=λ{i c} hc=>by
      obtain⟨x,hx,F⟩:=Z3S.1 hc;rw[List.getD_eq_getElem?_getD] at hx;cases D:ps[i]? with
      |none=>rw[D] at hx;cases hx
      |some p =>
       rw[D] at hx;obtain⟨y,j,G⟩:=Z2w hp (List.mem_of_getElem? D);exact Z3T (Z1i y p x (hs.2 y j) (A.2 y j) G hx).2.1 F
     have O:=ZD.1 (key ha);have Q:=ZD.1 (key J);omega
    ·exact o (Zbk hc) e
    ·subst e;rcases ZaA hs.1 u I with⟨rfl,rfl,N,M⟩|hk
     rotate_left
     ·exact absurd hk H
     have d: ∀ y∈r,∃ x∈l,y.all Tm.plain=true/\y.all Tm.shape=true/\y.depth<=x.depth:=λy j=>by
      obtain⟨p,C,hyp⟩:=Zcw hr j;obtain⟨x,hx,E⟩:=Z2w hp C;exact⟨x,hx,Z1i x p y (hs.2 x hx) (A.2 x hx) E hyp⟩
     refine⟨?_,?_,?_⟩
     ·rw[ZI];exact⟨rfl,λy j=>(d y j).elim λx hx=>hx.2.1⟩
     ·rw[ZI];refine⟨?_,λy j=>(d y j).elim λx hx=>hx.2.2.1⟩
      have:=hs.1;simp only[Tm.shape] at this ⊢;rw[(Z6G.1 hr).1,w];exact this
     ·simp only[Tm.depth];have:Tm.depthL r<=Tm.depthL l:=Z71 λy j=>by
       obtain⟨x,hx,_,_,K⟩:=d y j;exact Nat.le_trans K (Z8m hx)
      omega
termination_by t=>SizeOf.sizeOf t
decreasing_by
 all_goals
  first
   |(have:=List.sizeOf_lt_of_mem j;simp only[Tm.mk.sizeOf_spec];omega)
   |(have:=List.sizeOf_lt_of_mem hx;simp only[Tm.mk.sizeOf_spec];omega)
theorem Z5a: ∀ (v:Tm),v.all Tm.shape=true->v.all Tm.plain=true->v.few 8/\v.depth<=v.depth
 |.mk k n s l,hs,hp=>by
  have hs:=ZI.1 hs;have hp:=ZI.1 hp;refine⟨?_,Nat.le_refl _⟩;simp only[Tm.few];have IH: ∀ y∈l,y.few 8:=λy a=>(Z5a y (hs.2 y a) (hp.2 y a)).1;refine⟨?_,Qu.2 IH⟩;have h1:=hs.1;simp only[Tm.shape,Qi] at h1
  (repeat' split at h1)<;>simp_all<;>omega
termination_by v=>SizeOf.sizeOf v
decreasing_by
 have:=List.sizeOf_lt_of_mem a;simp only[Tm.mk.sizeOf_spec];omega
inductive XR where
 |ok (l:List Tm)
 |many
 |arg
def Tm.expd (t:Tm):XR:=if (t.valid && t.all Tm.gr)=true then (match t.xp with
 |some l=>.ok l
 |none=>.many) else .arg
end Go.Sx
/- OWN ROWS OF NUMBERS,SORTED IN PLACE BY THE LIBRARY,with a comparison that is the program's own. -/
namespace Go.Sx
open Go.RowKit Go.Sort Go.Proofs
variable [Globs] [Codes]
variable {P:Program} {f g:FuncId}
def NilV (v:Value):Prop:=v=.slice none 0 0\/ ∃ a c,v=.slice (some a) 0 c
abbrev NE:=Int × {v:Value // NilV v}
instance:Inhabited NE:=⟨(0,⟨.slice none 0 0,.inl rfl⟩)⟩
def encN (x:NE):List Value:=[.int .u8 1,.int .i64 x.1,.string ⟨#[]⟩,x.2.1]
def cfN (x y:NE):Int:=ncmp x.1 y.1
theorem Zg3 {φ:Mem} {v:Value} (h:Rep φ v (.slice [] [])):NilV v:=by
 cases h with
 |nil=>exact .inl rfl
 |nilA a c=>exact .inr ⟨a,c,rfl⟩
 |slice b off cap sz _ _ vals _ _ _ _=>exact .inr ⟨_,_,rfl⟩
theorem ZfQ {φ:Mem} {v:Value} (h:NilV v):Rep φ v (.slice [] []):=by
 rcases h with rfl|⟨a,c,rfl⟩
 ·exact .nil
 ·exact .nilA a c
theorem ltN (x y:NE):ltOf cfN x y=decide (x.1<y.1):=by unfold ltOf cfN ncmp;grind
theorem swoN:SWO (ltOf cfN) where
 irrefl x:=by rw[ltN];simp
 trans x y z h1 h2:=by rw[ltN] at *;simp at *;omega
 ntrans x y z h1 h2:=by rw[ltN] at *;simp at *;omega
open Classical in
noncomputable def mkN (n:Int) (v:Value):NE:=(n,if h:NilV v then⟨v,h⟩ else⟨.slice none 0 0,.inl rfl⟩)
theorem Zlw {n:Int} {v:Value} (h:NilV v):encN (mkN n v)=[.int .u8 1,.int .i64 n,.string ⟨#[]⟩,v]:=by
 unfold encN mkN;simp[h]
theorem Zgz (x:NE):(encN x).length=4:=rfl
theorem Zgy (x:NE): ∀ v∈encN x,v.oneCell'=true:=by
 intro v hv;obtain⟨n,u,b⟩:=x;simp only[encN,List.mem_cons,List.not_mem_nil,or_false] at hv;rcases hv with rfl|rfl|rfl|rfl
 ·rfl
 ·rfl
 ·rfl
 ·rcases b with rfl|⟨a,c,rfl⟩<;>rfl
theorem Z9V {φ:Mem} (x:NE) {j:Nat} {d:D} (h:[D.int .u8 1,D.int .i64 x.1,D.str [],D.slice [] []][j]? = some d):Rep φ ((encN x)[j]!) d:=by
 match j with
 |0=>cases h;exact .int _ _
 |1=>cases h;exact .int _ _
 |2=>cases h;exact .str []
 |3=>cases h;exact ZfQ x.2.2
 |j+4=>simp at h
theorem arrN {own:Nat->Prop} {ty:TypeId} {φ:Mem} {h:Nat->Value} {w:World} {hv:Value} {l:List Int} (x:ObR own φ h w hv (.arr false 4 ty (numC l))) (v:l≠[]) :
  ∃ (b cap:Nat) (cur:Array Value) (d:Array NE),hv=.slice (some ⟨b,0,none⟩) l.length cap/\own b/\w.heap[b]? = some (.cells cur ty (0,0))/\l.length<=cap/\cap<=maxLen/\cur.size=cap*4/\d.size=l.length/\d.toList.map Prod.fst=l ∧
   cur.toList.take (l.length*4)=(flatK encN 4 d).toList/\ ∀ o,φ b o=none:=by
 obtain⟨_,hsz,xs,a,hrep,p⟩:=x;have e:(numC l).length=l.length:=by simp[numC]
 rw[e] at a p;have key: ∀ i,i<l.length->xs.getD (i*4) undef=.int .u8 1/\xs.getD (i*4+1) undef=.int .i64 (l.getD i 0)/\xs.getD (i*4+2) undef=.string ⟨#[]⟩/\NilV (xs.getD (i*4+3) undef):=λi hi=>by
  have k:(numC l)[i]? = some [.int .u8 1,.int .i64 (l.getD i 0),.str [],.slice [] []]:=by simp[numC,hi]
  have h0:=(RV.pure (h:=h) (hrep i _ 0 _ k rfl)).int_inv;have h1:=(RV.pure (h:=h) (hrep i _ 1 _ k rfl)).int_inv;have h2:=(RV.pure (h:=h) (hrep i _ 2 _ k rfl)).str_inv;have q:=Zg3 (hrep i _ 3 _ k rfl);exact⟨h0,h1,h2,q⟩
 rcases a.2 with⟨_,h0⟩|⟨b,cap,cur,j,_,hblk,u,hcap,m,n⟩
 ·grind
 ·have c:=p b (by rw[j];rfl);refine⟨b,cap,cur,((List.range l.length).map λi=>mkN (l.getD i 0) (xs.getD (i*4+3) undef)).toArray,j,c.1,hblk,u,hcap,m,by simp,?_,?_,λo=>by rw[c.2 o];rfl⟩
  ·apply List.ext_getElem (by simp);intro i h1 h2;simp[mkN,h2]
  ·rw[n];apply List.ext_getElem (by rw[a.1];simp);intro t h1 h2;rw[a.1] at h1;have hi:t / 4<l.length:=by omega
   obtain⟨A,B,k2,y⟩:=key (t / 4) hi;have z: ∀ (s:Nat) (hs:s=t),xs[t]=xs.getD s undef:=λs hs=>by
    grind
   have hf:=get_flatK encN 4 ((List.range l.length).map λi=>mkN (l.getD i 0) (xs.getD (i*4+3) undef)).toArray t (by simpa using h1);rw[getElem!_pos _ t (by simpa using h2)] at hf;refine Eq.trans ?_ hf.symm;have r:((List.range l.length).map λi=>mkN (l.getD i 0) (xs.getD (i*4+3) undef)).toArray[t / 4]! = mkN (l.getD (t / 4) 0) (xs.getD (t / 4*4+3) undef):=by
    grind
   rw[r,Zlw y];have hm:t % 4=0\/t % 4=1\/t % 4=2\/t % 4=3:=by omega
   rcases hm with hm|hm|hm|hm
   ·grind
   ·grind
   ·grind
   ·grind
theorem ZlW {own:Nat->Prop} {ty:TypeId} {φ:Mem} {h:Nat->Value} {w:World} {b cap n:Nat} {cur:Array Value} {d:Array NE} (y:own b) (hblk:w.heap[b]? = some (.cells cur ty (0,0))) (r:d.size=n) (hcap:n<=cap) (hm:cap<=maxLen) (l:cur.size=cap*4)
  (p:cur.toList.take (n*4)=(flatK encN 4 d).toList) (q: ∀ o,φ b o=none):ObR own φ h w (.slice (some ⟨b,0,none⟩) n cap) (.arr false 4 ty (numC (d.toList.map Prod.fst))):=by
 have k:(numC (d.toList.map Prod.fst)).length=n:=by simp[numC,r]
 refine⟨by decide,λx hx=>?_,(flatK encN 4 d).toList,?_,λi x j e hi u=>?_,λc hc=>?_⟩
 ·unfold numC at hx;obtain⟨t,_,rfl⟩:=List.mem_map.1 hx;rfl
 ·rw[k];exact⟨by simp[r],.inr ⟨b,cap,cur,rfl,Nat.zero_le _,hblk,hcap,hm,l,p⟩⟩
 ·have a:i<d.size:=by
   grind
  have s:x=[D.int .u8 1,D.int .i64 (d[i]!).1,D.str [],D.slice [] []]:=by
   rw[getElem!_pos d i a];simp[numC,a] at hi;exact hi.symm
  subst s;have v:j<4:=by
   grind
  have m:i*4+j<d.size*4:=by omega
  have hf:=get_flatK encN 4 d (i*4+j) m;rw[show (i*4+j) / 4=i by omega,show (i*4+j) % 4=j by omega] at hf;rw[List.getD_eq_getElem?_getD,Array.getElem?_toList,Array.getElem?_eq_getElem (by simpa using m),Option.getD_some];rw[getElem!_pos _ _ (by simpa using m)] at hf;rw[hf];exact Z9V _ u
 ·cases hc;exact⟨y,λo=>by rw[q o];rfl⟩
theorem Z3g {w:World} {b m:Nat} {dk:Array NE} {os:Array Obj} {k:Nat} (hk:k<w.heap.size) (a:k≠b):(sortWorldK encN 4 w b 0 m dk os).heap[k]? = w.heap[k]? :=by
 unfold sortWorldK putRowK;rw[heap_grow_old _ _ (by simpa [putRow,mapBlock] using hk)];simp[putRow,mapBlock,Sort.ahead,Array.getElem?_modify,Ne.symm a]
theorem Zo8 {w:World} {b m:Nat} {dk:Array NE} {os:Array Obj} {cur:Array Value} {e:TypeId} {fr:Nat × Nat} (a:w.heap[b]? = some (.cells cur e fr)) :
  (sortWorldK encN 4 w b 0 m dk os).heap[b]? = some (.cells (putCells id 0 (flatK encN 4 dk) cur) e fr):=by
 unfold sortWorldK putRowK;rw[heap_grow_old _ _ (by simpa [putRow,mapBlock] using (Array.getElem?_eq_some_iff.1 a).1)];simp[putRow,mapBlock,Sort.ahead,Array.getElem?_modify,a,onCells]
theorem ZiQ {w:World} {b m:Nat} {dk:Array NE} {os:Array Obj}:w.heap.size<=(sortWorldK encN 4 w b 0 m dk os).heap.size:=by
 simp[sortWorldK,putRowK,putRow,mapBlock,Sort.ahead,grow]
theorem ZfV {cur:Array Value} {F:Array Value} (h:F.size<=cur.size):(putCells id 0 F cur).toList.take F.size=F.toList:=by
 apply List.ext_getElem?;intro j;by_cases a:j<F.size
 ·rw[List.getElem?_take_of_lt a,Array.getElem?_toList];simp[putCells,a,show j<cur.size by omega]
 ·grind
theorem ZaY {w:World} {b:Nat} {cur F:Array Value} {e:TypeId} (a:w.heap[b]? = some (.cells cur e (0,0))) (d:cur.toList.take F.size=F.toList):Holds id w b 0 F:=by
 intro j c;refine⟨?_,by simp[World.frozen?,a]⟩;have h1:(cur.toList.take F.size)[j]? = F.toList[j]? :=by rw[d]
 rw[List.getElem?_take_of_lt c] at h1;simp only[World.cell?,a,Nat.zero_add];simp only[Option.isSome_none,Bool.false_eq_true,if_false];rw[<- Array.getElem?_toList,h1];simp[c]
theorem Zlc {w w':World} (h1:w'.os=w.os) (h2:w'.tape=w.tape) (k:w'.output=w.output) (l:w.heap.size<=w'.heap.size) (m: ∀ b,b<w.heap.size->w'.heap[b]? = w.heap[b]?) (n:w.drawn<=w'.drawn) :
  ∃ q d,w'=grow (w.drewN q) d:=by
 refine⟨w'.drawn-w.drawn,w'.heap.extract w.heap.size w'.heap.size,?_⟩;obtain⟨heap,tape,c,os,output⟩:=w;obtain⟨h,j,a,d,e⟩:=w';simp only at h1 h2 k l m n;subst h1;subst h2;subst k;have o:c+(a-c)=a:=by omega
 simp only[grow,World.drewN,o,World.mk.injEq,and_true];apply Array.ext_getElem?;intro i;by_cases hi:i<heap.size
 ·grind
 ·grind
theorem ZfY {d a:Array NE} (h:PermIn 0 d.size d a):a.toList.Perm d.toList:=by
 obtain⟨h1,_,b⟩:=h;rw[show a.extract 0 d.size=a by rw[<- h1];simp,show d.extract 0 d.size=d by simp] at b;exact b
theorem Zaw {a:Array NE} {n:Nat} (h:SortedIn (ltOf cfN) 0 n a) (l:a.size=n) (e:(a.toList.map Prod.fst).Nodup):(a.toList.map Prod.fst).Pairwise (· < ·):=by
 rw[List.pairwise_iff_getElem];intro i j hi k b;have c:i<a.size:=by simpa using hi
 have d:j<a.size:=by simpa using k
 have h1:=h i j (Nat.zero_le _) b (by omega);rw[ltN,decide_eq_false_iff_not,getElem!_pos a j d,getElem!_pos a i c] at h1;have h2:(a.toList.map Prod.fst)[i]≠(a.toList.map Prod.fst)[j]:=List.pairwise_iff_getElem.1 e i j hi k b;simp only[List.getElem_map,Array.getElem_toList] at h2 ⊢;omega
theorem CallL.sortK (hpf:ZC P f=true) (hpg:ZC P g=true)
  (H: ∀ (blk cap:Nat) (d:Array NE) (w:World),CmpLays P g #[] encN 4 cfN blk 0 d.size w->HoldsK encN 4 w blk 0 d->blk<w.heap.size->d.size<4611686018427387904 →
   Calls P f #[.slice (some ⟨blk,0,none⟩) d.size cap,.func (.func g) #[] #[]] w λe w'=>e=.returned (.tuple #[])/\ ∃ t n os,PermIn 0 d.size d t/\SortedIn (ltOf cfN) 0 d.size t/\w'=sortWorldK encN 4 w blk 0 n t os)
  (HC: ∀ x y:Int,CallL P (.func (.func g) [] []) [.agg [.int .u8 1,.int .i64 x,.str [],.slice [] []],.agg [.int .u8 1,.int .i64 y,.str [],.slice [] []]] [] λr ob=>r=.int .i64 (ncmp x y)/\ob=[])
  (ty:TypeId) (l:List Int) (hnd:l.Nodup) (hne:l≠[]) (O:l.length<4611686018427387904):CallL P (.func (.func f) [] []) [.vec 0,.func (.func g) [] []] [(0,.arr false 4 ty (numC l))] λr ob=>r=.tuple []/\ob=[(0,.arr false 4 ty (numC (Z2b l)))]:=by
 intro F hF n φ h w v vs hp hv hvs;have T: ∀ {k:FuncId} {v:Value},RV φ h v (.func (.func k) [] [])->v=.func (.func k) #[] #[]:=λ{k v} hv=>by
  cases hv with
  |pure hr=>cases hr
  |func _ vf vc _ _ hf hc _ _ =>
   grind
 have hv':=T hv;subst hv';obtain⟨u,u2,rfl,I,hu2⟩: ∃ u u2,vs=#[u,u2]/\RV φ h u (.vec 0)/\RV φ h u2 (.func (.func g) [] []):=by
  obtain⟨l⟩:=vs
  match l,hvs with
  |[a,b],⟨h1,h2,_⟩=>exact⟨_,_,rfl,h1,h2⟩
 have hu':=I.vec_inv;subst hu';have R:=T hu2;subst R;rw[Zi hpf];simp only[Array.empty_append,Array.append_empty,DynOut];obtain⟨b,cap,cur,d,hh,_,hblk,hn,hcap,M,z,hdl,htk,B⟩:=arrN (hp.obj 0 _ rfl) hne;have V:ZOf [(0,Ob.arr false 4 ty (numC l))] h b:=⟨0,rfl,by rw[hh];rfl⟩;have C:b<w.heap.size:=(Array.getElem?_eq_some_iff.1 hblk).1;have A: ∀ {m:Nat} {dk:Array NE} {os:Array Obj},Sub φ (sortWorldK encN 4 w b 0 m dk os):=λ{m dk os}=>λU o u I=>by
  have hbg:U≠b:=λe=>by rw[e,B o] at I;cases I
  have O:U<w.heap.size:=Sub.lt (w:=w) hp.mem I;rw[World.cell?_of_block (a:=⟨U,o,none⟩) (Z3g O hbg)];exact hp.mem U o u I
 have N: ∀ {m:Nat} {dk:Array NE} {os:Array Obj} {Z:Nat->Prop},(∀ b,Z b->ZOf [(0,Ob.arr false 4 ty (numC l))] h b)->GlobC φ (sortWorldK encN 4 w b 0 m dk os) Z:=λ{m dk os Z} W=>by
  refine⟨hp.glob.ok,λX arr hx=>?_,λX hx=>?_⟩
  ·obtain⟨⟨E,fr,S⟩,s⟩:=hp.glob.x X arr hx;exact⟨⟨E,fr,by rw[Z3g (Array.getElem?_eq_some_iff.1 S).1 λe=>s (e ▸ V),S]⟩,λh=>s (W _ h)⟩
  ·obtain⟨⟨arr,E,fr,q,S,ha⟩,s⟩:=hp.glob.i X hx;exact⟨⟨arr,E,fr,q,by rw[Z3g (Array.getElem?_eq_some_iff.1 S).1 λe=>s (e ▸ V),S],ha⟩,λh=>s (W _ h)⟩
 have L:CmpLays P g #[] encN 4 cfN b 0 d.size w:=λm os dk _ x y=>by
  have hl:Loc (λ_=>True) [] φ h (sortWorldK encN 4 w b 0 m dk os):=⟨hp.one,N λb ⟨i,hi,_⟩=>by simp[lk] at hi,A,λi o ho=>by simp[lk] at ho,λi j b hi=>by simp[lk] at hi⟩;have K: ∀ x:NE,RV φ h (.agg (encN x).toArray) (.agg [.int .u8 1,.int .i64 x.1,.str [],.slice [] []]):=λx=>by
   refine .agg _ _ (by simp[encN]) λj d hd=>?_
   have:=Z9V (φ:=φ) x hd;have hj:j<4:=by
    grind
   match j,hj with
   |0,_=>exact .pure this
   |1,_=>exact .pure this
   |2,_=>exact .pure this
   |3,_=>exact .pure this
  have p:=HC x.1 y.1 Fence.wide Z2l 0 φ h (sortWorldK encN 4 w b 0 m dk os) (.func (.func g) #[] #[]) #[.agg (encN x).toArray,.agg (encN y).toArray] hl (.func _ _ _ _ _ rfl rfl (by simp) (by simp)) ⟨K x,K y,trivial⟩;rw[Zi hpg] at p;simp only[Array.empty_append,Array.append_empty,DynOut] at p ⊢;have hc:=Dr.calls_le (callsIn_wide.1 p) λw' ⟨r,ob',φ',h',he,hR,ha⟩=>by
   rcases he with⟨v,e,_⟩|⟨v,e,_⟩<;>cases e
  refine hc.mono ?_;rintro e w' ⟨G,hdr⟩;obtain⟨v,r,ob',φ',h',rfl,⟨rfl,rfl⟩,hv,ha⟩:=G.dest λr ob ⟨h1,_⟩=>by rw[h1];rfl
  refine⟨by rw[hv.int_inv];rfl,Zlc ha.os ha.tape ha.output ha.grow (λb C=>ha.frame b C λ⟨i,hi,_⟩=>by simp[lk] at hi) hdr⟩
 have hH:HoldsK encN 4 w b 0 d:=ZaY hblk (by rw[size_flatK,z];exact htk);have hS:=H b cap d w L hH C (by omega);rw[hh];rw[z] at hS;refine hF.calls (hS.mono ?_) n;rintro e w' ⟨rfl,t,m,os,G,J,rfl⟩;rw[<- z] at G J;have c:t.size=l.length:=by rw[G.1,z]
 have Q:(t.toList.map Prod.fst).Perm l:=by
  have:=(ZfY G).map Prod.fst;rwa [hdl] at this
 have hsl:t.toList.map Prod.fst=Z2b l:=Zaz Q (Zaw J G.1 (Q.nodup_iff.2 hnd));have hR:=Zo8 (m:=m) (dk:=t) (os:=os) hblk;have hT:=ZfV (cur:=cur) (F:=flatK encN 4 t) (by rw[size_flatK,c,M];omega);rw[size_flatK,c] at hT;have Y: ∀ b,ZOf [(0,Ob.arr false 4 ty (numC (Z2b l)))] h b->ZOf [(0,Ob.arr false 4 ty (numC l))] h b:=by
  rintro b ⟨i,hi,C⟩;cases i with
  |zero=>exact⟨0,rfl,C⟩
  |succ i=>simp[lk] at hi
 refine .ret ⟨rfl,rfl⟩ (.tuple _ _ rfl (by simp)) (φ':=φ) (h':=h) ⟨⟨hp.one,N Y,A,λi ob D=>?_,λi j b hi hj _ _=>?_⟩,λ_ _ _ h=>h,λb o u h1 h2=>(by rw[h1] at h2;cases h2),λb C W=>Z3g C λe=>W (e ▸ V),λ_ _=>rfl,rfl,rfl,rfl,ZiQ⟩
 ·cases i with
  |succ i=>simp[lk] at D
  |zero =>
   simp only[lk,if_true,Option.some.injEq] at D;subst D;rw[hh,<- hsl];exact ZlW (.inr V) hR c hn hcap (by simpa [putCells] using M) hT B
 ·cases i with
  |succ i=>simp[lk] at hi
  |zero=>cases j with
   |succ j=>simp[lk] at hj
   |zero=>rfl
end Go.Sx
