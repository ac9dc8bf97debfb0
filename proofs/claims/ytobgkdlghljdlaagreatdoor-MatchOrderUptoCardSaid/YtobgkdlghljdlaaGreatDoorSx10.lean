/- Own work: a layer over the kit: plain data,a walk over it,its soundness. -/
import Derived.Shelf.SlSortCmp.InsertionK
import Derived.Test.YtobgkdlghljdlaaGreatDoorSx9
import Derived.Test.YtobgkdlghljdlaaGreatDoorSx8
import Derived.Test.YtobgkdlghljdlaaGreatDoorSx7
set_option linter.unusedSectionVars false
set_option linter.unusedVariables false
set_option linter.unusedSimpArgs false
set_option linter.deprecated false
/- OWN ROWS OF NUMBERS,SORTED IN PLACE BY THE LIBRARY,with a comparison that is the program's own. -/
namespace Go.Sx
open Go.RowKit Go.Sort Go.Proofs
variable [Globs] [Codes]
variable {P:Program} {f g:FuncId}
def NilV (v:Value):Prop:=v= .slice none 0 0\/ ∃ a c,v= .slice (some a) 0 c
abbrev NE:=Int × { v:Value // NilV v }
instance:Inhabited NE:=⟨(0,⟨.slice none 0 0,.inl rfl⟩)⟩
def encN (x:NE):List Value:=[.int .u8 1,.int .i64 x.1,.string ⟨#[]⟩,x.2.1]
def cfN (x y:NE):Int:=ncmp x.1 y.1
theorem Zbp {φ:Mem} {v:Value} (h:Rep φ v (.slice [] [])):NilV v:=by
 cases h with
 | nil=>exact .inl rfl
 | nilA a c=>exact .inr ⟨a,c,rfl⟩
 | slice b off cap sz _ _ vals _ _ _ _=>exact .inr ⟨_,_,rfl⟩
theorem Zbf {φ:Mem} {v:Value} (h:NilV v):Rep φ v (.slice [] []):=by
 rcases h with rfl | ⟨a,c,rfl⟩
 ·exact .nil
 ·exact .nilA a c
theorem ltN (x y:NE):ltOf cfN x y=decide (x.1<y.1):=by
 unfold ltOf cfN ncmp
 by_cases h1:x.1<y.1
 ·simp[h1]
 ·by_cases h2:y.1<x.1 <;> simp[h1,h2]
theorem swoN:SWO (ltOf cfN) where
 irrefl x:=by rw[ltN]; simp
 trans x y z h1 h2:=by rw[ltN] at *; simp at *; omega
 ntrans x y z h1 h2:=by rw[ltN] at *; simp at *; omega
open Classical in
noncomputable def mkN (n:Int) (v:Value):NE:=(n,if h:NilV v then ⟨v,h⟩ else ⟨.slice none 0 0,.inl rfl⟩)
theorem Zgg {n:Int} {v:Value} (h:NilV v):encN (mkN n v)=[.int .u8 1,.int .i64 n,.string ⟨#[]⟩,v]:=by
 unfold encN mkN
 simp[h]
theorem ZbL (x:NE):(encN x).length=4:=rfl
theorem ZbK (x:NE): ∀ v∈encN x,v.oneCell'=true:=by
 intro v hv
 obtain⟨n,u,hu⟩:=x
 simp only[encN,List.mem_cons,List.not_mem_nil,or_false] at hv
 rcases hv with rfl | rfl | rfl | rfl
 ·rfl
 ·rfl
 ·rfl
 ·rcases hu with rfl | ⟨a,c,rfl⟩ <;> rfl
theorem Z6I {φ:Mem} (x:NE) {j:Nat} {d:D} (h:[D.int .u8 1,D.int .i64 x.1,D.str [],D.slice [] []][j]? = some d):Rep φ ((encN x)[j]!) d:=by
 match j with
 | 0=>cases h; exact .int _ _
 | 1=>cases h; exact .int _ _
 | 2=>cases h; exact .str []
 | 3=>cases h; exact Zbf x.2.2
 | j+4=>simp at h
theorem arrN {own:Nat->Prop} {ty:TypeId} {φ:Mem} {h:Nat->Value} {w:World} {hv:Value} {l:List Int} (ho:ObR own φ h w hv (.arr false 4 ty (numC l))) (hne:l≠[]) :
  ∃ (b cap:Nat) (cur:Array Value) (d:Array NE),hv= .slice (some ⟨b,0,none⟩) l.length cap/\own b/\w.heap[b]? = some (.cells cur ty (0,0))/\l.length<=cap/\cap<=maxLen/\cur.size=cap*4/\d.size=l.length/\d.toList.map Prod.fst=l ∧
   cur.toList.take (l.length*4)=(flatK encN 4 d).toList/\ ∀ o,φ b o=none:=by
 obtain⟨_,hsz,xs,hown,hrep,hb⟩:=ho
 have hlen:(numC l).length=l.length:=by simp[numC]
 rw[hlen] at hown hb
 have key: ∀ i,i<l.length->xs.getD (i*4) undef= .int .u8 1/\xs.getD (i*4+1) undef= .int .i64 (l.getD i 0)/\xs.getD (i*4+2) undef= .string ⟨#[]⟩/\NilV (xs.getD (i*4+3) undef):=fun i hi=>by
  have he:(numC l)[i]? = some [.int .u8 1,.int .i64 (l.getD i 0),.str [],.slice [] []]:=by simp[numC,hi]
  have h0:=(RV.pure (h:=h) (hrep i _ 0 _ he rfl)).int_inv
  have h1:=(RV.pure (h:=h) (hrep i _ 1 _ he rfl)).int_inv
  have h2:=(RV.pure (h:=h) (hrep i _ 2 _ he rfl)).str_inv
  have h3:=Zbp (hrep i _ 3 _ he rfl)
  exact⟨h0,h1,h2,h3⟩
 rcases hown.2 with ⟨_,h0⟩ | ⟨b,cap,cur,hv',_,hblk,hn,hcap,hcs,htk⟩
 ·exact absurd (List.length_eq_zero_iff.1 h0) hne
 ·have hb2:=hb b (by rw[hv']; rfl)
  refine⟨b,cap,cur,((List.range l.length).map fun i=>mkN (l.getD i 0) (xs.getD (i*4+3) undef)).toArray,hv',hb2.1,hblk,hn,hcap,hcs,by simp, ?_, ?_,fun o=>by rw[hb2.2 o]; rfl⟩
  ·apply List.ext_getElem (by simp)
   intro i h1 h2
   simp[mkN,h2]
  ·rw[htk]
   apply List.ext_getElem (by rw[hown.1]; simp)
   intro t h1 h2
   rw[hown.1] at h1
   have hi:t / 4<l.length:=by omega
   obtain⟨k0,k1,k2,k3⟩:=key (t / 4) hi
   have hg: ∀ (s:Nat) (hs:s=t),xs[t]=xs.getD s undef:=fun s hs=>by
    subst hs
    rw[List.getD_eq_getElem?_getD,List.getElem?_eq_getElem]; rfl
   have hf:=get_flatK encN 4 ((List.range l.length).map fun i=>mkN (l.getD i 0) (xs.getD (i*4+3) undef)).toArray t (by simpa using h1)
   rw[getElem!_pos _ t (by simpa using h2)] at hf
   refine Eq.trans ?_ hf.symm
   have hd:((List.range l.length).map fun i=>mkN (l.getD i 0) (xs.getD (i*4+3) undef)).toArray[t / 4]! = mkN (l.getD (t / 4) 0) (xs.getD (t / 4*4+3) undef):=by
    rw[getElem!_pos _ _ (by simpa using hi)]
    simp
   rw[hd,Zgg k3]
   have hm:t % 4=0\/t % 4=1\/t % 4=2\/t % 4=3:=by omega
   rcases hm with hm | hm | hm | hm
   ·rw[hm,hg (t / 4*4) (by omega),k0]; rfl
   ·rw[hm,hg (t / 4*4+1) (by omega),k1]; rfl
   ·rw[hm,hg (t / 4*4+2) (by omega),k2]; rfl
   ·rw[hm,hg (t / 4*4+3) (by omega)]; rfl
theorem ZgB {own:Nat->Prop} {ty:TypeId} {φ:Mem} {h:Nat->Value} {w:World} {b cap n:Nat} {cur:Array Value} {d:Array NE} (ho:own b) (hblk:w.heap[b]? = some (.cells cur ty (0,0))) (hn:d.size=n) (hcap:n<=cap) (hm:cap<=maxLen) (hcs:cur.size=cap*4)
  (htk:cur.toList.take (n*4)=(flatK encN 4 d).toList) (hφ: ∀ o,φ b o=none):ObR own φ h w (.slice (some ⟨b,0,none⟩) n cap) (.arr false 4 ty (numC (d.toList.map Prod.fst))):=by
 have hlen:(numC (d.toList.map Prod.fst)).length=n:=by simp[numC,hn]
 refine⟨by decide,fun x hx=> ?_,(flatK encN 4 d).toList, ?_,fun i x j e hi hj=> ?_,fun c hc=> ?_⟩
 ·unfold numC at hx
  obtain⟨t,_,rfl⟩:=List.mem_map.1 hx
  rfl
 ·rw[hlen]
  exact⟨by simp[hn],.inr ⟨b,cap,cur,rfl,Nat.zero_le _,hblk,hcap,hm,hcs,htk⟩⟩
 ·have hi2:i<d.size:=by
   rcases Nat.lt_or_ge i d.size with h | h
   ·exact h
   ·rw[List.getElem?_eq_none (by simp[numC,h])] at hi; cases hi
  have he:x=[D.int .u8 1,D.int .i64 (d[i]!).1,D.str [],D.slice [] []]:=by
   rw[getElem!_pos d i hi2]
   simp[numC,hi2] at hi
   exact hi.symm
  subst he
  have hj4:j<4:=by
   rcases Nat.lt_or_ge j 4 with h | h
   ·exact h
   ·rw[List.getElem?_eq_none (by simpa using h)] at hj; cases hj
  have ht:i*4+j<d.size*4:=by omega
  have hf:=get_flatK encN 4 d (i*4+j) ht
  rw[show (i*4+j) / 4=i by omega,show (i*4+j) % 4=j by omega] at hf
  rw[List.getD_eq_getElem?_getD,Array.getElem?_toList,Array.getElem?_eq_getElem (by simpa using ht),Option.getD_some]
  rw[getElem!_pos _ _ (by simpa using ht)] at hf
  rw[hf]
  exact Z6I _ hj
 ·cases hc
  exact⟨ho,fun o=>by rw[hφ o]; rfl⟩
theorem Z1C {w:World} {b m:Nat} {dk:Array NE} {os:Array Obj} {k:Nat} (hk:k<w.heap.size) (hne:k≠b):(sortWorldK encN 4 w b 0 m dk os).heap[k]? = w.heap[k]? := by
 unfold sortWorldK putRowK
 rw[heap_grow_old _ _ (by simpa [putRow,mapBlock] using hk)]
 simp[putRow,mapBlock,Sort.ahead,Array.getElem?_modify,Ne.symm hne]
theorem Zig {w:World} {b m:Nat} {dk:Array NE} {os:Array Obj} {cur:Array Value} {e:TypeId} {fr:Nat × Nat} (hb:w.heap[b]? = some (.cells cur e fr)) :
  (sortWorldK encN 4 w b 0 m dk os).heap[b]? = some (.cells (putCells id 0 (flatK encN 4 dk) cur) e fr):=by
 unfold sortWorldK putRowK
 rw[heap_grow_old _ _ (by simpa [putRow,mapBlock] using (Array.getElem?_eq_some_iff.1 hb).1)]
 simp[putRow,mapBlock,Sort.ahead,Array.getElem?_modify,hb,onCells]
theorem ZdS {w:World} {b m:Nat} {dk:Array NE} {os:Array Obj}:w.heap.size<=(sortWorldK encN 4 w b 0 m dk os).heap.size:=by
 simp[sortWorldK,putRowK,putRow,mapBlock,Sort.ahead,grow]
theorem Zbj {cur:Array Value} {F:Array Value} (h:F.size<=cur.size):(putCells id 0 F cur).toList.take F.size=F.toList:=by
 apply List.ext_getElem?
 intro j
 by_cases hj:j<F.size
 ·rw[List.getElem?_take_of_lt hj,Array.getElem?_toList]
  simp[putCells,hj,show j<cur.size by omega]
 ·rw[List.getElem?_take_eq_none (by omega),List.getElem?_eq_none (by simp; omega)]
theorem Z7C {w:World} {b:Nat} {cur F:Array Value} {e:TypeId} (hb:w.heap[b]? = some (.cells cur e (0,0))) (ht:cur.toList.take F.size=F.toList):Holds id w b 0 F:=by
 intro j hj
 refine⟨?_,by simp[World.frozen?,hb]⟩
 have h1:(cur.toList.take F.size)[j]? = F.toList[j]? := by rw[ht]
 rw[List.getElem?_take_of_lt hj] at h1
 simp only[World.cell?,hb,Nat.zero_add]
 simp only[Option.isSome_none,Bool.false_eq_true,if_false]
 rw[<- Array.getElem?_toList,h1]
 simp[hj]
theorem ZfU {w w':World} (h1:w'.os=w.os) (h2:w'.tape=w.tape) (h3:w'.output=w.output) (h4:w.heap.size<=w'.heap.size) (h5: ∀ b,b<w.heap.size->w'.heap[b]? = w.heap[b]?) (h6:w.drawn<=w'.drawn) :
  ∃ q os',w'=grow (w.drewN q) os':=by
 refine⟨w'.drawn-w.drawn,w'.heap.extract w.heap.size w'.heap.size, ?_⟩
 obtain⟨heap,tape,drawn,os,output⟩:=w
 obtain⟨heap',tape',drawn',os',output'⟩:=w'
 simp only at h1 h2 h3 h4 h5 h6
 subst h1; subst h2; subst h3
 have hd:drawn+(drawn'-drawn)=drawn':=by omega
 simp only[grow,World.drewN,hd,World.mk.injEq,and_true]
 apply Array.ext_getElem?
 intro i
 by_cases hi:i<heap.size
 ·rw[h5 i hi,Array.getElem?_append_left hi]
 ·by_cases hj:i<heap'.size
  ·rw[Array.getElem?_append_right (by omega),Array.getElem?_extract]
   have:i-heap.size<min heap'.size heap'.size-heap.size:=by omega
   rw[if_pos this]
   congr 1; omega
  ·rw[Array.getElem?_eq_none (by omega),Array.getElem?_eq_none (by simp; omega)]
theorem Zbm {d d':Array NE} (h:PermIn 0 d.size d d'):d'.toList.Perm d.toList:=by
 obtain⟨h1,_,h3⟩:=h
 rw[show d'.extract 0 d.size=d' by rw[<- h1]; simp,show d.extract 0 d.size=d by simp] at h3
 exact h3
theorem Z7a {d':Array NE} {n:Nat} (h:SortedIn (ltOf cfN) 0 n d') (hn:d'.size=n) (hnd:(d'.toList.map Prod.fst).Nodup):(d'.toList.map Prod.fst).Pairwise (· < ·):=by
 rw[List.pairwise_iff_getElem]
 intro i j hi hj hij
 have hi':i<d'.size:=by simpa using hi
 have hj':j<d'.size:=by simpa using hj
 have h1:=h i j (Nat.zero_le _) hij (by omega)
 rw[ltN,decide_eq_false_iff_not,getElem!_pos d' j hj',getElem!_pos d' i hi'] at h1
 have h2:(d'.toList.map Prod.fst)[i]≠(d'.toList.map Prod.fst)[j]:=List.pairwise_iff_getElem.1 hnd i j hi hj hij
 simp only[List.getElem_map,Array.getElem_toList] at h2 ⊢
 omega
theorem CallL.sortK (hpf:ZA P f=true) (hpg:ZA P g=true)
  (H: ∀ (blk cap:Nat) (d:Array NE) (w:World),CmpLays P g #[] encN 4 cfN blk 0 d.size w->HoldsK encN 4 w blk 0 d->blk<w.heap.size->d.size<4611686018427387904 →
   Calls P f #[.slice (some ⟨blk,0,none⟩) d.size cap,.func (.func g) #[] #[]] w fun e w'=>e= .returned (.tuple #[])/\ ∃ d' n os,PermIn 0 d.size d d'/\SortedIn (ltOf cfN) 0 d.size d'/\w'=sortWorldK encN 4 w blk 0 n d' os)
  (HC: ∀ x y:Int,CallL P (.func (.func g) [] []) [.agg [.int .u8 1,.int .i64 x,.str [],.slice [] []],.agg [.int .u8 1,.int .i64 y,.str [],.slice [] []]] [] fun r ob=>r= .int .i64 (ncmp x y)/\ob=[])
  (ty:TypeId) (l:List Int) (hnd:l.Nodup) (hne:l≠[]) (hlt:l.length<4611686018427387904):CallL P (.func (.func f) [] []) [.vec 0,.func (.func g) [] []] [(0,.arr false 4 ty (numC l))] fun r ob=>r= .tuple []/\ob=[(0,.arr false 4 ty (numC (Z0P l)))]:=by
 intro F hF n φ h w v vs hp hv hvs
 have inv: ∀ {k:FuncId} {v:Value},RV φ h v (.func (.func k) [] [])->v= .func (.func k) #[] #[]:=fun {k v} hv=>by
  cases hv with
  | pure hr=>cases hr
  | func _ vf vc _ _ hf hc _ _ =>
   have ea:vf= #[]:=by simpa using hf
   have ec:vc= #[]:=by simpa using hc
   subst ea; subst ec; rfl
 have hv':=inv hv
 subst hv'
 obtain⟨u,u2,rfl,hu,hu2⟩: ∃ u u2,vs= #[u,u2]/\RV φ h u (.vec 0)/\RV φ h u2 (.func (.func g) [] []):=by
  obtain⟨l⟩:=vs
  match l,hvs with
  | [a,b],⟨h1,h2,_⟩=>exact⟨_,_,rfl,h1,h2⟩
 have hu':=hu.vec_inv
 subst hu'
 have hu2':=inv hu2
 subst hu2'
 rw[Zr hpf]
 simp only[Array.empty_append,Array.append_empty,DynOut]
 obtain⟨b,cap,cur,d,hh,_,hblk,hn,hcap,hcs,hds,hdl,htk,hφ0⟩:=arrN (hp.obj 0 _ rfl) hne
 have hZ:ZOf [(0,Ob.arr false 4 ty (numC l))] h b:=⟨0,rfl,by rw[hh]; rfl⟩
 have hb:b<w.heap.size:=(Array.getElem?_eq_some_iff.1 hblk).1
 have hsub: ∀ {m:Nat} {dk:Array NE} {os:Array Obj},Sub φ (sortWorldK encN 4 w b 0 m dk os):=fun {m dk os}=>fun b' o u hu=>by
  have hbg:b'≠b:=fun e=>by rw[e,hφ0 o] at hu; cases hu
  have hlt:b'<w.heap.size:=Sub.lt (w:=w) hp.mem hu
  rw[World.cell?_of_block (a:=⟨b',o,none⟩) (Z1C hlt hbg)]
  exact hp.mem b' o u hu
 have hgl: ∀ {m:Nat} {dk:Array NE} {os:Array Obj} {Z:Nat->Prop},(∀ b,Z b->ZOf [(0,Ob.arr false 4 ty (numC l))] h b)->GlobC φ (sortWorldK encN 4 w b 0 m dk os) Z:=fun {m dk os Z} hz=>by
  refine⟨hp.glob.ok,fun g' arr hx=> ?_,fun g' hx=> ?_⟩
  ·obtain⟨⟨ty',fr,hw⟩,hz'⟩:=hp.glob.x g' arr hx
   exact⟨⟨ty',fr,by rw[Z1C (Array.getElem?_eq_some_iff.1 hw).1 fun e=>hz' (e ▸ hZ),hw]⟩,fun h=>hz' (hz _ h)⟩
  ·obtain⟨⟨arr,ty',fr,q,hw,ha⟩,hz'⟩:=hp.glob.i g' hx
   exact⟨⟨arr,ty',fr,q,by rw[Z1C (Array.getElem?_eq_some_iff.1 hw).1 fun e=>hz' (e ▸ hZ),hw],ha⟩,fun h=>hz' (hz _ h)⟩
 have hcmp:CmpLays P g #[] encN 4 cfN b 0 d.size w:=fun m os dk _ x y=>by
  have hl:Loc (fun _=>True) [] φ h (sortWorldK encN 4 w b 0 m dk os):=⟨hp.one,hgl fun b ⟨i,hi,_⟩=>by simp[lk] at hi,hsub,fun i o ho=>by simp[lk] at ho,fun i j b hi=>by simp[lk] at hi⟩
  have hag: ∀ x:NE,RV φ h (.agg (encN x).toArray) (.agg [.int .u8 1,.int .i64 x.1,.str [],.slice [] []]):=fun x=>by
   refine .agg _ _ (by simp[encN]) fun j d hd=> ?_
   have:=Z6I (φ:=φ) x hd
   have hj:j<4:=by
    rcases Nat.lt_or_ge j 4 with h | h
    ·exact h
    ·rw[List.getElem?_eq_none (by simpa using h)] at hd; cases hd
   match j,hj with
   | 0,_=>exact .pure this
   | 1,_=>exact .pure this
   | 2,_=>exact .pure this
   | 3,_=>exact .pure this
  have hout:=HC x.1 y.1 Fence.wide Z0W 0 φ h (sortWorldK encN 4 w b 0 m dk os) (.func (.func g) #[] #[]) #[.agg (encN x).toArray,.agg (encN y).toArray] hl (.func _ _ _ _ _ rfl rfl (by simp) (by simp)) ⟨hag x,hag y,trivial⟩
  rw[Zr hpg] at hout
  simp only[Array.empty_append,Array.append_empty,DynOut] at hout ⊢
  have hc:=Dr.calls_le (callsIn_wide.1 hout) fun w' ⟨r,ob',φ',h',he,hR,ha⟩=>by
   rcases he with ⟨v,e,_⟩ | ⟨v,e,_⟩ <;> cases e
  refine hc.mono ?_
  rintro e w' ⟨hP,hdr⟩
  obtain⟨v,r,ob',φ',h',rfl,⟨rfl,rfl⟩,hv,ha⟩:=hP.dest fun r ob ⟨h1,_⟩=>by rw[h1]; rfl
  refine⟨by rw[hv.int_inv]; rfl,ZfU ha.os ha.tape ha.output ha.grow (fun b hb=>ha.frame b hb fun ⟨i,hi,_⟩=>by simp[lk] at hi) hdr⟩
 have hH:HoldsK encN 4 w b 0 d:=Z7C hblk (by rw[size_flatK,hds]; exact htk)
 have hS:=H b cap d w hcmp hH hb (by omega)
 rw[hh]
 rw[hds] at hS
 refine hF.calls (hS.mono ?_) n
 rintro e w' ⟨rfl,d',m,os,hP,hSo,rfl⟩
 rw[<- hds] at hP hSo
 have hds':d'.size=l.length:=by rw[hP.1,hds]
 have hpl:(d'.toList.map Prod.fst).Perm l:=by
  have:=(Zbm hP).map Prod.fst
  rwa [hdl] at this
 have hsl:d'.toList.map Prod.fst=Z0P l:=Z7b hpl (Z7a hSo hP.1 (hpl.nodup_iff.2 hnd))
 have hR:=Zig (m:=m) (dk:=d') (os:=os) hblk
 have hT:=Zbj (cur:=cur) (F:=flatK encN 4 d') (by rw[size_flatK,hds',hcs]; omega)
 rw[size_flatK,hds'] at hT
 have hZe: ∀ b,ZOf [(0,Ob.arr false 4 ty (numC (Z0P l)))] h b->ZOf [(0,Ob.arr false 4 ty (numC l))] h b:=by
  rintro b ⟨i,hi,hb⟩
  cases i with
  | zero=>exact⟨0,rfl,hb⟩
  | succ i=>simp[lk] at hi
 refine .ret ⟨rfl,rfl⟩ (.tuple _ _ rfl (by simp)) (φ':=φ) (h':=h) ⟨⟨hp.one,hgl hZe,hsub,fun i ob hob=> ?_,fun i j b hi hj _ _=> ?_⟩,fun _ _ _ h=>h,fun b o u h1 h2=>(by rw[h1] at h2; cases h2),fun b hb hz=>Z1C hb fun e=>hz (e ▸ hZ),fun _ _=>rfl,rfl,rfl,rfl,ZdS⟩
 ·cases i with
  | succ i=>simp[lk] at hob
  | zero =>
   simp only[lk,if_true,Option.some.injEq] at hob
   subst hob
   rw[hh,<- hsl]
   exact ZgB (.inr hZ) hR hds' hn hcap (by simpa [putCells] using hcs) hT hφ0
 ·cases i with
  | succ i=>simp[lk] at hi
  | zero=>cases j with
   | succ j=>simp[lk] at hj
   | zero=>rfl
end Go.Sx
/- WHAT COMES IN WITH TERMS IN IT: structs and slices over terms,as plain data. -/
namespace Go.Sx
open Go.RowKit Go.Deep Go.ChangeShapes Go.WideShapes
inductive ShT where
 | bool
 | int (k:IntKind)
 | str
 | tms
 | slice (e:List ShT)
mutual
def ShT.fit (B:Nat):ShT->D->Prop
 | .bool,d=> ∃ b,d= .bool b
 | .int k,d=> ∃ n,d= .int k n/\(Lit.int k n).wf=true
 | .str,d=> ∃ s,d= .str s/\s.length<=B
 | .tms,d=> ∃ l,d= .slice (Tm.cellsL l) []/\l.length<=B/\Tm.wfL B l
 | .slice l,d=> ∃ es,d= .slice es []/\es.length<=B/\ ∀ e,e∈es->ShT.fits B l e
def ShT.fits (B:Nat):List ShT->List D->Prop
 | [],ds=>ds=[]
 | s::r,ds=> ∃ d t,ds=d::t/\ShT.fit B s d/\ShT.fits B r t
end
def fshT (P:Program) (sh:TypeId->Option (List ShT)):List Field->Nat->Option (List ShT)
 | [],_=>some []
 | f::r,off=>if f.offset=off then match sh f.type with
  | some l=>if l.length=P.cellsOf f.type then match fshT P sh r (off+l.length) with
   | some m=>some (l++m)
   | none=>none
   else none
  | none=>none
  else none
def shT (P:Program) (T:TypeId):Nat->TypeId->Option (List ShT)
 | 0,_=>none
 | n+1,t=>match P.underlying t with
  | some .bool=>some [.bool]
  | some (.int k)=>some [.int k]
  | some .string=>some [.str]
  | some (.slice e)=>if e == T then some [.tms] else if 0<P.bytesOf e then match shT P T n e with
   | some l=>if l.length=P.cellsOf e/\0<l.length then some [.slice l] else none
   | none=>none
   else none
  | some (.struct fs)=>match fshT P (shT P T n) fs.toList 0 with
   | some l=>if l.length=P.cellsOf t then some l else none
   | none=>none
  | _=>none
theorem Z4s {B:Nat}: ∀ {l:List ShT} {ds:List D},ShT.fits B l ds->ds.length=l.length
 | [],ds,h=>by simp only[ShT.fits] at h; simp[h]
 | s::r,ds,h=>by
  simp only[ShT.fits] at h
  obtain⟨d,t,rfl,_,h2⟩:=h
  simp[Z4s h2]
theorem Z1p {B:Nat}: ∀ {l m:List ShT} {ds es:List D},ShT.fits B l ds->ShT.fits B m es->ShT.fits B (l++m) (ds++es)
 | [],m,ds,es,h,k=>by simp only[ShT.fits] at h; simpa [h] using k
 | s::r,m,ds,es,h,k=>by
  simp only[ShT.fits] at h
  obtain⟨d,t,rfl,h1,h2⟩:=h
  simp only[List.cons_append,ShT.fits]
  exact⟨d,t++es,rfl,h1,Z1p h2 k⟩
variable {H:Type} {enc:TypeId × Value->H} {P:Program} {w:World}
theorem Z3p {T:TypeId} (hT:Z5m P T=true) (B:Nat): ∀ (n fuel:Nat) (t:TypeId) (cs:List Value) (x:DataW H × List MemPlace) (l:List ShT),shT P T n t=some l →
  DataW.trod enc P w 0 (fun _=>true) true fuel t cs=some x->wOK B (x.1.weights P t)-> ∃ ds,ShT.fits B l ds/\CRp (memW w) cs ds
 | 0,_,_,_,_,_,h,_,_=>by simp[shT] at h
 | n+1,fuel,t,cs,x,l,h,ht,hw=>by
  unfold shT at h
  split at h
  ·rename_i hu
   cases h
   obtain⟨b,rfl,_⟩:=DataW.trod_bool hu ht
   exact⟨[.bool b],⟨_,_,rfl,⟨b,rfl⟩,rfl⟩,rfl,fun j v d hv hd=>by
    cases j with
    | zero=>simp at hv hd; subst hv; subst hd; exact .bool b
    | succ j=>simp at hv⟩
  ·rename_i k hu
   cases h
   obtain⟨m,rfl,_,hwf⟩:=DataW.trod_int hu ht
   exact⟨[.int k m],⟨_,_,rfl,⟨m,rfl,hwf⟩,rfl⟩,rfl,fun j v d hv hd=>by
    cases j with
    | zero=>simp at hv hd; subst hv; subst hd; exact .int k m
    | succ j=>simp at hv⟩
  ·rename_i hu
   cases h
   obtain⟨s,rfl,rfl,_⟩:=DataW.trod_string hu ht
   refine⟨[.str s.data.toList],⟨_,_,rfl,⟨_,rfl, ?_⟩,rfl⟩,rfl,fun j v d hv hd=> ?_⟩
   ·exact hw _ (by simp[DataW.weights])
   ·cases j with
    | zero =>
     simp at hv hd; subst hv; subst hd
     have:=Rep.str (φ:=memW w) s.data.toList
     simpa using this
    | succ j=>simp at hv
  ·rename_i e hu
   split at h
   ·rename_i he
    have he:e=T:=by simpa using he
    subst he
    cases h
    obtain⟨fs,f0,f1,f2,f3,hT⟩:=Z2b hT
    obtain⟨es,hl,hq,hc⟩:=Z1g (B:=B) (Q:=fun ds=> ∃ t:Tm,t.wf B/\ds=t.cells) hu hT.b (by rw[hT.c]; decide) (fun ds ⟨t,_,h⟩=>by rw[h,QC,hT.c]) ht hw fun n cs' y _ hy hwy=>by
     obtain⟨t,h4,h5⟩:=Z8G hT _ n cs' y (Nat.le_refl _) hy hwy
     exact⟨t.cells,⟨t,h4,rfl⟩,h5⟩
    obtain⟨l,rfl,hwl⟩:=Z85 hq
    rw[Z1] at hl
    exact⟨_,⟨_,_,rfl,⟨l,rfl,hl,hwl⟩,rfl⟩,hc⟩
   split at h
   ·rename_i hby
    split at h
    ·rename_i le hle
     split at h
     ·rename_i hlen
      cases h
      rcases open_slice hu ht with ⟨rfl,rfl⟩ | ⟨a,len,cap,m,n',D',Pl,rfl,_,hlc,_,hm,rfl,hx⟩
      ·refine⟨[.slice [] []],⟨_,_,rfl,⟨[],rfl,Nat.zero_le _,fun _ h=>by cases h⟩,rfl⟩,rfl,fun j v d hv hd=> ?_⟩
       cases j with
       | zero=>simp at hv hd; subst hv; subst hd; exact .nil
       | succ j=>simp at hv
      ·by_cases hl0:len=0
       ·subst hl0
        refine⟨[.slice [] []],⟨_,_,rfl,⟨[],rfl,Nat.zero_le _,fun _ h=>by cases h⟩,rfl⟩,rfl,fun j v d hv hd=> ?_⟩
        cases j with
        | zero=>simp at hv hd; subst hv; subst hd; exact .nilA _ _
        | succ j=>simp at hv
       simp only[if_true] at hm
       subst hm
       have hspot:a.spot=none:=by
        obtain⟨cs',h1,_⟩:=hx 0 (by omega)
        obtain⟨_,hl',hc'⟩:=World.cells?_some h1
        have h3:=hc' 0 (by omega)
        rw[List.getElem?_eq_getElem (by omega)] at h3
        cases hs:a.spot with
        | none=>rfl
        | some q =>
         exfalso
         have e1:(a.add (0*P.cellsOf e)).add 0=a:=by simp[Addr.add]
         rw[e1] at h3
         unfold World.cell? at h3
         split at h3
         ·rw[hs] at h3; simp at h3
         ·cases h3
       obtain⟨b,off,spot⟩:=a
       simp only at hspot
       subst hspot
       have hwl:len<=B/\ ∀ i,i<len->wOK B ((D' i).weights P e):=by
        simp only[DataW.weights,hu] at hw
        refine⟨?_,fun i hi y hy=> ?_⟩
        ·have:=hw _ (List.mem_cons_self ..)
         simp only[List.length_map,List.length_range] at this
         have h2:len<=(len+(m-len))*P.bytesOf e:=Nat.le_trans (Nat.le_add_right _ _) (Nat.le_mul_of_pos_right _ hby)
         omega
        ·refine hw y (List.mem_cons_of_mem _ (List.mem_append_left _ ?_))
         have key: ∀ (l:List (DataW H)) (d:DataW H),d∈l-> ∀ y∈d.weights P e,y∈DataW.weightsAll P e l:=by
          intro l
          induction l with
          | nil=>intro d hd; cases hd
          | cons z r ih =>
           intro d hd y hy
           simp only[DataW.weightsAll]
           rcases List.mem_cons.1 hd with rfl | hd
           ·exact List.mem_append_left _ hy
           ·exact List.mem_append_right _ (ih d hd y hy)
         exact key _ _ (List.mem_map.2 ⟨i,List.mem_range.2 hi,rfl⟩) y hy
       have hone: ∀ i,i<len-> ∃ ds,ShT.fits B le ds/\ ∃ cs',w.cells? 0 (Addr.add ⟨b,off,none⟩ (i*P.cellsOf e)) (P.cellsOf e)=some cs'/\CRp (memW w) cs' ds:=fun i hi=>by
        obtain⟨cs',h1,h2⟩:=hx i (by omega)
        obtain⟨ds,h3,h4⟩:=Z3p hT B n n' e cs' _ le hle h2 (hwl.2 i hi)
        exact⟨ds,h3,cs',h1,h4⟩
       obtain⟨ds,hds⟩:=choose_lt (α:=List D) (p:=fun i ds=>ShT.fits B le ds/\ ∃ cs',w.cells? 0 (Addr.add ⟨b,off,none⟩ (i*P.cellsOf e)) (P.cellsOf e)=some cs'/\CRp (memW w) cs' ds) hone
       have hget: ∀ (i:Nat) (q:List D),((List.range len).map ds++[])[i]? = some q->i<len/\q=ds i:=by
        intro i q hq
        simp only[List.append_nil,List.getElem?_map,Option.map_eq_some_iff] at hq
        obtain⟨i',hi',rfl⟩:=hq
        have h1:=List.getElem?_eq_some_iff.1 hi'
        obtain⟨h2,h3⟩:=h1
        simp at h2 h3
        subst h3
        exact⟨h2,rfl⟩
       refine⟨[.slice ((List.range len).map ds) []],⟨_,_,rfl,⟨_,rfl,by simpa using hwl.1,fun q hq=> ?_⟩,rfl⟩,rfl,fun j v d hv hd=> ?_⟩
       ·obtain⟨i,hi,rfl⟩:=List.mem_map.1 hq
        exact (hds i (List.mem_range.1 hi)).1
       ·cases j with
        | succ j=>simp at hv
        | zero =>
         simp at hv hd
         subst hv; subst hd
         have hl:len=((List.range len).map ds).length:=by simp
         have hcell: ∀ i j x,i<len->(ds i)[j]? = some x-> ∃ v,w.cell? ⟨b,off+i*P.cellsOf e+j,none⟩=some v/\Rep (memW w) v x:=fun i j x hi hjx=>by
          obtain⟨_,cs',h1,h2⟩:=hds i hi
          obtain⟨_,hl',hc'⟩:=World.cells?_some h1
          have hj:j<cs'.length:=by
           rcases Nat.lt_or_ge j cs'.length with h | h
           ·exact h
           ·rw[List.getElem?_eq_none (by rw[<- h2.1]; exact h)] at hjx; cases hjx
          have h3:=hc' j (by omega)
          rw[List.getElem?_eq_getElem hj] at h3
          have h4:w.cell? ⟨b,off+i*P.cellsOf e+j,none⟩=some cs'[j]:=by rw[addP,addP] at h3; exact h3
          exact⟨_,h4,h2.2 j _ x (List.getElem?_eq_getElem hj) hjx⟩
         conv=>lhs; rw[hl]
         refine .slice b off m (P.cellsOf e) _ _ (fun i j=>(w.cell? ⟨b,off+i*P.cellsOf e+j,none⟩).getD Go.undef) (by simp; omega) (fun q hq=> ?_) (fun i q j x hq hjx=> ?_) (fun i q j x hq hjx=> ?_)
         ·simp only[List.append_nil] at hq
          obtain⟨i,hi,rfl⟩:=List.mem_map.1 hq
          rw[Z4s (hds i (List.mem_range.1 hi)).1,hlen.1]
         ·obtain⟨hi,rfl⟩:=hget i q hq
          obtain⟨v,h1,_⟩:=hcell i j x hi hjx
          show w.cell? _=_
          rw[h1]; rfl
         ·obtain⟨hi,rfl⟩:=hget i q hq
          obtain⟨v,h1,h2⟩:=hcell i j x hi hjx
          rw[h1]; exact h2
     ·cases h
    ·cases h
   ·cases h
  ·rename_i fs hu
   split at h
   ·rename_i lf hlf
    split at h
    ·rename_i hlen
     cases h
     obtain⟨xs,n',_,rfl,hcl,hxl,hx⟩:=DataW.trod_struct hu ht
     have key: ∀ (r:List Field) (i off:Nat) (m:List ShT),(∀ k f,r[k]? = some f->fs[i+k]? = some f)->fshT P (shT P T n) r off=some m->wOK B (DataW.weightsEach P (r.map (·.type)) ((xs.drop i).map (·.1))) →
       ∃ ds,ShT.fits B m ds/\((off+m.length<=cs.length)->CRp (memW w) ((cs.drop off).take m.length) ds):=by
      intro r
      induction r with
      | nil=>intro i off m _ hm _; simp only[fshT,Option.some.injEq] at hm; subst hm; exact⟨[],rfl,fun _=>⟨by simp,fun j v d hv=>by simp at hv⟩⟩
      | cons f r ih =>
       intro i off m hr hm hw'
       simp only[fshT] at hm
       split at hm
       ·rename_i hoff
        split at hm
        ·rename_i l1 hl1
         split at hm
         ·rename_i hl1c
          split at hm
          ·rename_i m1 hm1
           cases hm
           have hf:fs[i]? = some f:=by simpa using hr 0 f rfl
           have hxi:=hx i f hf
           have hil:i<xs.length:=by
            have:=(Array.getElem?_eq_some_iff.1 hf).1
            omega
           rw[List.getElem?_eq_getElem hil] at hxi
           have hdrop:xs.drop i=xs[i]::xs.drop (i+1):=List.drop_eq_getElem_cons hil
           rw[hdrop] at hw'
           simp only[List.map_cons,DataW.weightsEach] at hw'
           obtain⟨d1,hd1,hc1⟩:=Z3p hT B n n' f.type _ _ l1 hl1 hxi (fun y hy=>hw' y (List.mem_append_left _ hy))
           obtain⟨d2,hd2,hc2⟩:=ih (i+1) (off+l1.length) m1 (fun k g hg=>by have:=hr (k+1) g (by simpa using hg); rwa [show i+1+k=i+(k+1) by omega]) hm1 (fun y hy=>hw' y (List.mem_append_right _ hy))
           refine⟨d1++d2,Z1p hd1 hd2,fun hle=> ?_⟩
           rw[List.length_append] at hle
           have:=hc2 (by omega)
           have hsplit:(cs.drop off).take (l1++m1).length=(cs.drop off).take l1.length++(cs.drop (off+l1.length)).take m1.length:=by
            rw[List.length_append,List.take_add,List.drop_drop]
           rw[hsplit]
           rw[hoff,<- hl1c] at hc1
           exact hc1.append this
          ·cases hm
         ·cases hm
        ·cases hm
       ·cases hm
     obtain⟨ds,h1,h2⟩:=key fs.toList 0 0 l (fun k f hk=>by simpa using hk) hlf (by simpa [DataW.weights,hu] using hw)
     refine⟨ds,h1, ?_⟩
     have:=h2 (by omega)
     simpa [hlen,<- hcl] using this
    ·cases h
   ·cases h
  ·cases h
theorem ZdZ {T:TypeId} {n:Nat} {w:World} {r:Reach} {base:Nat} {t:TypeId} {v:Value} {l:List ShT} (hs:shT P T n t=some l) (h:Value.okWide P w r base t v) :
  (aggB P t=some true/\ ∃ cs,v= .agg cs)\/(aggB P t=some false/\v.cells= #[v]):=by
 cases n with
 | zero=>simp[shT] at hs
 | succ n =>
  unfold shT at hs
  unfold aggB
  unfold Value.okWide at h
  split at hs
  all_goals first
   | (cases hs; done)
   | (
    rename_i fs hu
    rw[hu] at h ⊢
    simp only at h
    obtain⟨cs,rfl,_⟩:=h
    exact .inl ⟨rfl,cs,rfl⟩)
   | (
    rename_i hu
    rw[hu] at h ⊢
    simp only[Cell.okWide,hu] at h
    refine .inr ⟨rfl, ?_⟩
    cases v <;> simp_all [Cell.ok,Value.cells])
section
variable [Globs] [Codes]
theorem Z7r {B:Nat} {T t:TypeId} {l:List ShT} {n:Nat} (hT:Z5m P T=true) (hs:shT P T n t=some l) (ha:aggB P t=some true):Reads P B t (fun a=> ∃ cs,ShT.fits B l cs/\a= .agg cs):=by
 intro H enc w r base fuel v x hx hw hok
 obtain⟨cs,h3,h4⟩:=Z3p hT B n fuel t _ _ l hs hx hw
 rcases ZdZ hs hok with ⟨_,vs2,rfl⟩ | ⟨ha',_⟩
 ·refine⟨.agg cs,.agg vs2 cs (by simpa [Value.cells] using h4.1) (fun j d hd=> ?_),cs,h3,rfl⟩
  simp only[Value.cells] at h4
  have hjl:j<vs2.size:=by
   have:=(List.getElem?_eq_some_iff.1 hd).1
   rw[<- h4.1] at this
   simpa using this
  have hj:vs2.toList[j]? = some (vs2.getD j Go.undef):=by
   rw[List.getElem?_eq_getElem (by simpa using hjl)]
   simp[Array.getD,hjl]
  exact .pure (h4.2 j _ d hj hd)
 ·rw[ha] at ha'; cases ha'
end
end Go.Sx
/- Sorted,made compact: what is in it,and in which order. -/
namespace Go.Sx
def Tm.V (x:Tm):List (List UInt8):=Lib.compact (srt x.vs)
end Go.Sx
/- SAFETY,PLAIN: sets of names,what literals bind,the closure. -/
namespace Go.Sx
abbrev Nm:=List UInt8
def insD (x:Nm):List Nm->List Nm
 | []=>[x]
 | y::r=>if x<y then x::y::r else if x=y then y::r else y::insD x r
def Znr (l:List Nm):List Nm:=l.foldr insD []
def Tm.W (x:Tm):List Nm:=Znr x.vs
def Tm.kd:Tm->Nat
 | .mk k _ _ _=>k
def Tm.nm:Tm->Nm
 | .mk _ _ s _=>s
structure Lt where
 k:Nat
 no:Bool
 p:Nm
 a:List Tm
 op:Nat
 l:Tm
 r:Tm
def Lt.c (x:Lt):List D:= .int .u8 x.k:: .bool x.no:: .str x.p:: .slice (Tm.cellsL x.a) []:: .int .u8 x.op::(x.l.cells++x.r.cells)
def ltL (l:List Lt):List (List D):=l.map Lt.c
def Lt.wf (B:Nat) (x:Lt):Prop:=x.k<=255/\x.p.length<=B/\x.a.length<=B/\Tm.wfL B x.a/\x.op<=255/\x.l.wf B/\x.r.wf B
end Go.Sx
/- A term and its parts. -/
namespace Go.Sx
end Go.Sx
/- SAFETY,PLAIN: sizes of literals. -/
namespace Go.Sx
def Lt.few (N:Int) (x:Lt):Prop:=((Tm.vsL x.a).length:Int)<=N/\(x.l.vs.length:Int)<=N/\(x.r.vs.length:Int)<=N
end Go.Sx
/- RULES,PLAIN: their variables,those that are not bound. -/
namespace Go.Sx
structure El where
 t:List Tm
 c:List Lt
structure He where
 p:Nm
 a:List Tm
 c:List Lt
structure Bo where
 k:Nat
 l:Lt
 c:List Lt
 no:Bool
 f:Nat
 e:List El
 op:Nat
 b:Tm
structure Ru where
 k:Nat
 h:List He
 lo:Tm
 up:Tm
 b:List Bo
 w:Tm
 lv:Tm
 t:List Tm
def El.cs (x:El):List D:=[.slice (Tm.cellsL x.t) [],.slice (ltL x.c) []]
def He.cs (x:He):List D:=[.str x.p,.slice (Tm.cellsL x.a) [],.slice (ltL x.c) []]
def elL (l:List El):List (List D):=l.map El.cs
def heL (l:List He):List (List D):=l.map He.cs
def Bo.cs (x:Bo):List D:= .int .u8 x.k::(x.l.c++ .slice (ltL x.c) []:: .bool x.no:: .int .u8 x.f:: .slice (elL x.e) []:: .int .u8 x.op::x.b.cells)
def boL (l:List Bo):List (List D):=l.map Bo.cs
def Ru.cs (x:Ru):List D:= .int .u8 x.k:: .slice (heL x.h) []::(x.lo.cells++(x.up.cells++ .slice (boL x.b) []::(x.w.cells++(x.lv.cells++[.slice (Tm.cellsL x.t) []]))))
def Z1c (l:List Lt):List Tm:=l.flatMap fun x=>x.a++[x.l,x.r]
end Go.Sx
/- LITERALS AND TEXTS ARE READ. -/
namespace Go.Sx
open Go.RowKit Go.Deep Go.ChangeShapes Go.WideShapes
variable {P:Program}
section
variable [Globs] [Codes]
end
end Go.Sx
/- RULES,PLAIN: what is in the sets; a literal added. -/
namespace Go.Sx
end Go.Sx
/- RULES,PLAIN: sizes. -/
namespace Go.Sx
def fewC (N:Int) (l:List Lt):Prop:=(l.length:Int)<=N/\(∀ x∈l,x.few N)/\((Z1c l).length:Int)<=N/\((Tm.vsL (Z1c l)).length:Int)<=N
def fewT (N:Int) (l:List Tm):Prop:=(l.length:Int)<=N/\((Tm.vsL l).length:Int)<=N
def fewB (N:Int) (x:Bo):Prop:=fewC N [x.l]/\fewC N x.c/\(x.b.vs.length:Int)<=N/\(x.e.length:Int)<=N/\ ∀ y∈x.e,fewT N y.t/\fewC N y.c
structure fewR (N:Int) (r:Ru):Prop where
 t4:(r.lo.vs.length:Int)<=N/\(r.up.vs.length:Int)<=N/\(r.w.vs.length:Int)<=N/\(r.lv.vs.length:Int)<=N
 tt:fewT N r.t
 hl:(r.h.length:Int)<=N
 h: ∀ x∈r.h,fewT N x.a/\fewC N x.c
 bl:(r.b.length:Int)<=N
 b: ∀ x∈r.b,fewB N x
end Go.Sx
/- RULES ARE READ; the sizes' Qr. -/
namespace Go.Sx
open Go.RowKit Go.Deep Go.ChangeShapes Go.WideShapes
structure El.wf (B:Nat) (x:El):Prop where
 tl:x.t.length<=B
 t:Tm.wfL B x.t
 cl:x.c.length<=B
 c: ∀ y∈x.c,y.wf B
structure He.wf (B:Nat) (x:He):Prop where
 al:x.a.length<=B
 a:Tm.wfL B x.a
 cl:x.c.length<=B
 c: ∀ y∈x.c,y.wf B
structure Bo.wf (B:Nat) (x:Bo):Prop where
 l:x.l.wf B
 cl:x.c.length<=B
 c: ∀ y∈x.c,y.wf B
 el:x.e.length<=B
 e: ∀ y∈x.e,y.wf B
 b:x.b.wf B
structure Ru.wf (B:Nat) (x:Ru):Prop where
 lo:x.lo.wf B
 up:x.up.wf B
 w:x.w.wf B
 lv:x.lv.wf B
 tl:x.t.length<=B
 t:Tm.wfL B x.t
 hl:x.h.length<=B
 h: ∀ y∈x.h,y.wf B
 bl:x.b.length<=B
 b: ∀ y∈x.b,y.wf B
variable {P:Program}
section
variable [Globs] [Codes]
end
end Go.Sx
/- RULES,PLAIN: all names of a rule; how many unsafe ones there are,how long they are. -/
namespace Go.Sx
def elT (y:El):List Tm:=y.t++Z1c y.c
def heT (y:He):List Tm:=y.a++Z1c y.c
def boT (b:Bo):List Tm:=Z1c [b.l]++(Z1c b.c++(b.b::b.e.flatMap elT))
def allT (r:Ru):List Tm:=[r.lo,r.up,r.w,r.lv]++(r.t++(r.h.flatMap heT++r.b.flatMap boT))
end Go.Sx
/- RULES,PLAIN: another order of the body,of the heads,of the conditions. -/
namespace Go.Sx
def revE (e:El):El:={ e with c:=e.c.reverse }
def revB (b:Bo):Bo:={ b with c:=b.c.reverse,e:=b.e.reverse.map revE }
def revH (h:He):He:={ h with c:=h.c.reverse }
def rotB (l:List Bo) (k:Nat):List Bo:=l.drop k++l.take k
def Ru.turn (r:Ru) (k:Nat):Ru:={ r with b:=(rotB r.b k).map revB,h:=r.h.reverse.map revH }
end Go.Sx
/- A row of our own that a function hands back is plain data. -/
namespace Go.Sx
open Go.RowKit
variable [Globs] [Codes]
variable {P:Program}
theorem FnOK.freezeG {f:FuncId} {args:List D} {sz:Nat} {e:TypeId} {es:List (List D)} (h:FnOK P f args (.own sz e es)):FnOK P f args (.slice es []):=by
 intro φ hh w vs h1 h2 h3 h4 h5
 refine (h φ hh w vs h1 h2 h3 h4 h5).mono ?_
 rintro e' w' ⟨v,φ',rfl,hR,rest⟩
 refine⟨v,φ',rfl, ?_,rest⟩
 intro h'
 have hR0:ObR (w.heap.size<= ·) φ' noH w' v (.arr true sz e es):=hR
 have hR1:ObR (w.heap.size<= ·) φ' (fun _=>v) w' v (.arr true sz e es):=hR0
 have hl:live v=true:=by
  obtain⟨_,_,xs,hown,_⟩:=hR0
  rcases hown.2 with ⟨rfl,_⟩ | ⟨g,cap,cur,rfl,_⟩
  ·rfl
  ·rfl
 have r0:RV φ' (fun _=>v) v (.vec 0):=RV.vec (φ:=φ') (h:=fun _=>v) 0 hl
 have r1:=Z16 (obs:=lk [(0,Ob.arr true sz e es)]) (h:=fun _=>v) (w:=w') (own:=(w.heap.size<= ·)) (fun i o hi _=>by
  simp only[lk] at hi
  split at hi
  ·cases hi; exact hR1
  ·cases hi) r0
 have e1:dvt (lk [(0,Ob.arr true sz e es)]) (.vec 0)= .slice es []:=rfl
 rw[e1] at r1
 cases r1 with
 | pure r=>exact .pure r
end Go.Sx
