/- Own work: a layer over the kit: plain data,a walk over it,its soundness. -/
import Derived.Lib.Join
import Derived.Lib.Fields
import Derived.Lib.Atoi
import Derived.Lib.ConvBytes
import Derived.Lib.AtoiErrMem
import Derived.Lib.Bytealg
import Derived.Lib.ItoaNum
import Derived.Lib.LaidTab
import Derived.Shelf.Strconv.Itoa3
import Derived.Sort.Grow
import Derived.Deep.Slices
import Derived.ChangeArms
import Derived.WalkKit
import Derived.OpenShut
import Derived.SevenTiedAt
import Derived.Carry
import Derived.Test.YtobgkdlghljdlaaGreatDoorSx6
set_option linter.unusedSectionVars false
set_option linter.unusedVariables false
set_option linter.unusedSimpArgs false
set_option linter.deprecated false
namespace Go.Sx
open Go.RowKit
variable [Globs] [Codes]
variable {P:Program} {f:FuncId}
/- CONTRACTS OF LIBRARY FUNCTIONS,TURNED INTO THIS LAYER's. -/
theorem FnOK.quiet {args:List D} {r:D} (hr: ∀ sz e es,r≠ .own sz e es)
  (hc: ∀ (φ:Mem) (h:Nat->Value) (w:World) (vs:Array Value),GlobC φ w (fun _=>False)->Sub φ w->RVL φ h vs.toList args →
   Calls P f vs w fun e w'=> ∃ v,e= .returned v/\(∀ h',RV φ h' v r)/\Below w.heap.size w w'):FnOK P f args r:=by
 intro φ h w vs hone hgl hsub hsz hargs
 have hvs:RVL φ h vs.toList args:=Zq _ _ (by simpa using hsz) fun j d hd=>by have:=hargs j d hd; simpa [Array.getD_eq_getD_getElem?,List.getD] using this
 refine (hc φ h w vs hgl hsub hvs).mono ?_
 rintro e w' ⟨v,rfl,hrv,hb⟩
 refine⟨v,φ,rfl, ?_,hb,fun _ _ _ h=>h,fun b o u hu=> ?_,fun b o u h1 h2=>by rw[h1] at h2; cases h2⟩
 ·cases r with
  | own sz e es=>exact absurd rfl (hr sz e es)
  | _=>exact hrv
 ·have hlt:b<w.heap.size:=Sub.lt (w:=w) hsub hu
  have:=hb.cell (p:=⟨b,o,none⟩) hlt
  rw[this]
  exact hsub b o u hu
theorem vs2 {φ:Mem} {h:Nat->Value} {vs:Array Value} {a b:D} (hv:RVL φ h vs.toList [a,b]): ∃ u v,vs= #[u,v]/\RV φ h u a/\RV φ h v b:=by
 match hl:vs.toList,hv with
 | [u,v],hv=>exact⟨u,v,by rw[<- hl],hv.1,hv.2.1⟩
 | [],hv=>exact hv.elim
 | [_],hv=>exact hv.2.elim
 | _::_::_::_,hv=>exact hv.2.2.elim
theorem FnOK.contains {g:Nat} (hI:Globs.I g=true) (H: ∀ (s sub:ByteArray) (m:Int) (w:World),s.size<4294967281->w.cell? ⟨g,0,none⟩=some (.int .i64 m)->Calls P f #[.string s,.string sub] w fun e w'=>e= .returned (.bool (Lib.contains s.data.toList sub.data.toList))/\w'=w)
  (s sub:List UInt8) (hs:s.length<4294967281):FnOK P f [.str s,.str sub] (.bool (Lib.contains s sub)):=by
 refine FnOK.quiet (by intros; simp) fun φ h w vs hgl hsub hv=> ?_
 obtain⟨u,v,rfl,hu,hv⟩:=vs2 hv
 rw[hu.str_inv,hv.str_inv]
 obtain⟨⟨arr,ty,fr,m,h1,h2⟩,_⟩:=hgl.i g hI
 refine (H ⟨s.toArray⟩ ⟨sub.toArray⟩ m w (by simpa [ByteArray.size] using hs) (by simp[World.cell?,h1,h2])).mono ?_
 rintro e w' ⟨rfl,rfl⟩
 exact⟨_,rfl,fun h'=> .pure (.bool _),Below.refl _ _⟩
theorem FnOK.strcmp (H: ∀ (a b:ByteArray) (w:World),Calls P f #[.string a,.string b] w fun e w'=>e= .returned (.int .i64 (Lib.compareBytes a.data.toList b.data.toList))/\w'=w) (a b:List UInt8) :
  FnOK P f [.str a,.str b] (.int .i64 (Lib.compareBytes a b)):=by
 refine FnOK.quiet (by intros; simp) fun φ h w vs hgl hsub hv=> ?_
 obtain⟨u,v,rfl,hu,hv⟩:=vs2 hv
 rw[hu.str_inv,hv.str_inv]
 refine (H ⟨a.toArray⟩ ⟨b.toArray⟩ w).mono ?_
 rintro e w' ⟨rfl,rfl⟩
 exact⟨_,rfl,fun h'=> .pure (.int _ _),Below.refl _ _⟩
end Go.Sx
namespace Go.Sx
open Go.RowKit Go.Deep
/- WHAT COMES IN: a value that a row's reading goes through,as plain data. -/
inductive Sh where
 | bool
 | int (k:IntKind)
 | str
 | slice (e:List Sh)
mutual
def Sh.fit (B:Nat):Sh->D->Prop
 | .bool,d=> ∃ b,d= .bool b
 | .int k,d=> ∃ n,d= .int k n/\(Lit.int k n).wf=true
 | .str,d=> ∃ s,d= .str s/\s.length<=B
 | .slice l,d=> ∃ es,d= .slice es []/\es.length<=B/\ ∀ e,e∈es->Sh.fits B l e
def Sh.fits (B:Nat):List Sh->List D->Prop
 | [],ds=>ds=[]
 | s::r,ds=> ∃ d t,ds=d::t/\Sh.fit B s d/\Sh.fits B r t
end
def fsh (P:Program) (sh:TypeId->Option (List Sh)):List Field->Nat->Option (List Sh)
 | [],_=>some []
 | f::r,off=>if f.offset=off then match sh f.type with
  | some l=>if l.length=P.cellsOf f.type then match fsh P sh r (off+l.length) with
   | some m=>some (l++m)
   | none=>none
   else none
  | none=>none
  else none
def shOf (P:Program):Nat->TypeId->Option (List Sh)
 | 0,_=>none
 | n+1,t=>match P.underlying t with
  | some .bool=>some [.bool]
  | some (.int k)=>some [.int k]
  | some .string=>some [.str]
  | some (.slice e)=>if 0<P.bytesOf e then match shOf P n e with
   | some l=>if l.length=P.cellsOf e/\0<l.length then some [.slice l] else none
   | none=>none
   else none
  | some (.struct fs)=>match fsh P (shOf P n) fs.toList 0 with
   | some l=>if l.length=P.cellsOf t then some l else none
   | none=>none
  | _=>none
theorem Z6D {B:Nat}: ∀ {l:List Sh} {ds:List D},Sh.fits B l ds->ds.length=l.length
 | [],ds,h=>by simp only[Sh.fits] at h; simp[h]
 | s::r,ds,h=>by
  simp only[Sh.fits] at h
  obtain⟨d,t,rfl,_,h2⟩:=h
  simp[Z6D h2]
theorem Z2h {B:Nat}: ∀ {l m:List Sh} {ds es:List D},Sh.fits B l ds->Sh.fits B m es->Sh.fits B (l++m) (ds++es)
 | [],m,ds,es,h,k=>by simp only[Sh.fits] at h; simpa [h] using k
 | s::r,m,ds,es,h,k=>by
  simp only[Sh.fits] at h
  obtain⟨d,t,rfl,h1,h2⟩:=h
  simp only[List.cons_append,Sh.fits]
  exact⟨d,t++es,rfl,h1,Z2h h2 k⟩
def memW (w:World):Mem:=fun b o=>w.cell? ⟨b,o,none⟩
def CRp (φ:Mem) (cs:List Value) (ds:List D):Prop:=cs.length=ds.length/\ ∀ (j:Nat) (v:Value) (d:D),cs[j]? = some v->ds[j]? = some d->Rep φ v d
theorem CRp.append {φ:Mem} {a b:List Value} {d e:List D} (h:CRp φ a d) (k:CRp φ b e):CRp φ (a++b) (d++e):=by
 refine⟨by simp[h.1,k.1],fun j v x hv hx=> ?_⟩
 rcases Nat.lt_or_ge j a.length with hj | hj
 ·rw[List.getElem?_append_left hj] at hv
  rw[List.getElem?_append_left (by rw[<- h.1]; exact hj)] at hx
  exact h.2 j v x hv hx
 ·rw[List.getElem?_append_right hj] at hv
  rw[List.getElem?_append_right (by rw[<- h.1]; exact hj),<- h.1] at hx
  exact k.2 _ v x hv hx
theorem addP (b off n:Nat):Addr.add ⟨b,off,none⟩ n=⟨b,off+n,none⟩:=by
 unfold Addr.add
 split
 ·rename_i h; subst h; rfl
 ·rfl
def ZoP (v:Value):Prop:= ∀ a n c,v= .slice (some a) n c->a.spot=none
variable {H:Type} {enc:TypeId × Value->H} {P:Program} {w:World}
def wOK (B:Nat) (l:List Nat):Prop:= ∀ x∈l,x<=B
theorem Z57 (B:Nat): ∀ (n fuel:Nat) (t:TypeId) (cs:List Value) (x:DataW H × List MemPlace) (l:List Sh),shOf P n t=some l →
  DataW.trod enc P w 0 (fun _=>true) true fuel t cs=some x->wOK B (x.1.weights P t)-> ∃ ds,Sh.fits B l ds/\CRp (memW w) cs ds
 | 0,_,_,_,_,_,h,_,_=>by simp[shOf] at h
 | n+1,fuel,t,cs,x,l,h,ht,hw=>by
  unfold shOf at h
  split at h
  ·rename_i hu
   cases h
   obtain⟨b,rfl,_⟩:=DataW.trod_bool hu ht
   exact⟨[.bool b],⟨_,_,rfl,⟨b,rfl⟩,rfl⟩,rfl,fun j v d hv hd=>by
    cases j with
    | zero=>simp at hv hd; subst hv; subst hd; exact .bool b
    | succ j=>simp at hv⟩
  ·rename_i k hu
   cases h
   obtain⟨m,rfl,_,hwf⟩:=DataW.trod_int hu ht
   exact⟨[.int k m],⟨_,_,rfl,⟨m,rfl,hwf⟩,rfl⟩,rfl,fun j v d hv hd=>by
    cases j with
    | zero=>simp at hv hd; subst hv; subst hd; exact .int k m
    | succ j=>simp at hv⟩
  ·rename_i hu
   cases h
   obtain⟨s,rfl,rfl,_⟩:=DataW.trod_string hu ht
   refine⟨[.str s.data.toList],⟨_,_,rfl,⟨_,rfl, ?_⟩,rfl⟩,rfl,fun j v d hv hd=> ?_⟩
   ·exact hw _ (by simp[DataW.weights])
   ·cases j with
    | zero =>
     simp at hv hd; subst hv; subst hd
     have:=Rep.str (φ:=memW w) s.data.toList
     simpa using this
    | succ j=>simp at hv
  ·rename_i e hu
   split at h
   ·rename_i hby
    split at h
    ·rename_i le hle
     split at h
     ·rename_i hlen
      cases h
      rcases open_slice hu ht with ⟨rfl,rfl⟩ | ⟨a,len,cap,m,n',D',Pl,rfl,_,hlc,_,hm,rfl,hx⟩
      ·refine⟨[.slice [] []],⟨_,_,rfl,⟨[],rfl,Nat.zero_le _,fun _ h=>by cases h⟩,rfl⟩,rfl,fun j v d hv hd=> ?_⟩
       cases j with
       | zero=>simp at hv hd; subst hv; subst hd; exact .nil
       | succ j=>simp at hv
      ·by_cases hl0:len=0
       ·subst hl0
        refine⟨[.slice [] []],⟨_,_,rfl,⟨[],rfl,Nat.zero_le _,fun _ h=>by cases h⟩,rfl⟩,rfl,fun j v d hv hd=> ?_⟩
        cases j with
        | zero=>simp at hv hd; subst hv; subst hd; exact .nilA _ _
        | succ j=>simp at hv
       simp only[if_true] at hm
       subst hm
       have hspot:a.spot=none:=by
        obtain⟨cs',h1,_⟩:=hx 0 (by omega)
        obtain⟨_,hl',hc'⟩:=World.cells?_some h1
        have h3:=hc' 0 (by omega)
        rw[List.getElem?_eq_getElem (by omega)] at h3
        cases hs:a.spot with
        | none=>rfl
        | some q =>
         exfalso
         have e1:(a.add (0*P.cellsOf e)).add 0=a:=by simp[Addr.add]
         rw[e1] at h3
         unfold World.cell? at h3
         split at h3
         ·rw[hs] at h3; simp at h3
         ·cases h3
       obtain⟨b,off,spot⟩:=a
       simp only at hspot
       subst hspot
       have hwl:len<=B/\ ∀ i,i<len->wOK B ((D' i).weights P e):=by
        simp only[DataW.weights,hu] at hw
        refine⟨?_,fun i hi y hy=> ?_⟩
        ·have:=hw _ (List.mem_cons_self ..)
         simp only[List.length_map,List.length_range] at this
         have h2:len<=(len+(m-len))*P.bytesOf e:=Nat.le_trans (Nat.le_add_right _ _) (Nat.le_mul_of_pos_right _ hby)
         omega
        ·refine hw y (List.mem_cons_of_mem _ (List.mem_append_left _ ?_))
         have key: ∀ (l:List (DataW H)) (d:DataW H),d∈l-> ∀ y∈d.weights P e,y∈DataW.weightsAll P e l:=by
          intro l
          induction l with
          | nil=>intro d hd; cases hd
          | cons z r ih =>
           intro d hd y hy
           simp only[DataW.weightsAll]
           rcases List.mem_cons.1 hd with rfl | hd
           ·exact List.mem_append_left _ hy
           ·exact List.mem_append_right _ (ih d hd y hy)
         exact key _ _ (List.mem_map.2 ⟨i,List.mem_range.2 hi,rfl⟩) y hy
       have hone: ∀ i,i<len-> ∃ ds,Sh.fits B le ds/\ ∃ cs',w.cells? 0 (Addr.add ⟨b,off,none⟩ (i*P.cellsOf e)) (P.cellsOf e)=some cs'/\CRp (memW w) cs' ds:=fun i hi=>by
        obtain⟨cs',h1,h2⟩:=hx i (by omega)
        obtain⟨ds,h3,h4⟩:=Z57 B n n' e cs' _ le hle h2 (hwl.2 i hi)
        exact⟨ds,h3,cs',h1,h4⟩
       obtain⟨ds,hds⟩:=choose_lt (α:=List D) (p:=fun i ds=>Sh.fits B le ds/\ ∃ cs',w.cells? 0 (Addr.add ⟨b,off,none⟩ (i*P.cellsOf e)) (P.cellsOf e)=some cs'/\CRp (memW w) cs' ds) hone
       have hget: ∀ (i:Nat) (q:List D),((List.range len).map ds++[])[i]? = some q->i<len/\q=ds i:=by
        intro i q hq
        simp only[List.append_nil,List.getElem?_map,Option.map_eq_some_iff] at hq
        obtain⟨i',hi',rfl⟩:=hq
        have h1:=List.getElem?_eq_some_iff.1 hi'
        obtain⟨h2,h3⟩:=h1
        simp at h2 h3
        subst h3
        exact⟨h2,rfl⟩
       refine⟨[.slice ((List.range len).map ds) []],⟨_,_,rfl,⟨_,rfl,by simpa using hwl.1,fun q hq=> ?_⟩,rfl⟩,rfl,fun j v d hv hd=> ?_⟩
       ·obtain⟨i,hi,rfl⟩:=List.mem_map.1 hq
        exact (hds i (List.mem_range.1 hi)).1
       ·cases j with
        | succ j=>simp at hv
        | zero =>
         simp at hv hd
         subst hv; subst hd
         have hl:len=((List.range len).map ds).length:=by simp
         have hcell: ∀ i j x,i<len->(ds i)[j]? = some x-> ∃ v,w.cell? ⟨b,off+i*P.cellsOf e+j,none⟩=some v/\Rep (memW w) v x:=fun i j x hi hjx=>by
          obtain⟨_,cs',h1,h2⟩:=hds i hi
          obtain⟨_,hl',hc'⟩:=World.cells?_some h1
          have hj:j<cs'.length:=by
           rcases Nat.lt_or_ge j cs'.length with h | h
           ·exact h
           ·rw[List.getElem?_eq_none (by rw[<- h2.1]; exact h)] at hjx; cases hjx
          have h3:=hc' j (by omega)
          rw[List.getElem?_eq_getElem hj] at h3
          have h4:w.cell? ⟨b,off+i*P.cellsOf e+j,none⟩=some cs'[j]:=by rw[addP,addP] at h3; exact h3
          exact⟨_,h4,h2.2 j _ x (List.getElem?_eq_getElem hj) hjx⟩
         conv=>lhs; rw[hl]
         refine .slice b off m (P.cellsOf e) _ _ (fun i j=>(w.cell? ⟨b,off+i*P.cellsOf e+j,none⟩).getD Go.undef) (by simp; omega) (fun q hq=> ?_) (fun i q j x hq hjx=> ?_) (fun i q j x hq hjx=> ?_)
         ·simp only[List.append_nil] at hq
          obtain⟨i,hi,rfl⟩:=List.mem_map.1 hq
          rw[Z6D (hds i (List.mem_range.1 hi)).1,hlen.1]
         ·obtain⟨hi,rfl⟩:=hget i q hq
          obtain⟨v,h1,_⟩:=hcell i j x hi hjx
          show w.cell? _=_
          rw[h1]; rfl
         ·obtain⟨hi,rfl⟩:=hget i q hq
          obtain⟨v,h1,h2⟩:=hcell i j x hi hjx
          rw[h1]; exact h2
     ·cases h
    ·cases h
   ·cases h
  ·rename_i fs hu
   split at h
   ·rename_i lf hlf
    split at h
    ·rename_i hlen
     cases h
     obtain⟨xs,n',_,rfl,hcl,hxl,hx⟩:=DataW.trod_struct hu ht
     have key: ∀ (r:List Field) (i off:Nat) (m:List Sh),(∀ k f,r[k]? = some f->fs[i+k]? = some f)->fsh P (shOf P n) r off=some m->wOK B (DataW.weightsEach P (r.map (·.type)) ((xs.drop i).map (·.1))) →
       ∃ ds,Sh.fits B m ds/\((off+m.length<=cs.length)->CRp (memW w) ((cs.drop off).take m.length) ds):=by
      intro r
      induction r with
      | nil=>intro i off m _ hm _; simp only[fsh,Option.some.injEq] at hm; subst hm; exact⟨[],rfl,fun _=>⟨by simp,fun j v d hv=>by simp at hv⟩⟩
      | cons f r ih =>
       intro i off m hr hm hw'
       simp only[fsh] at hm
       split at hm
       ·rename_i hoff
        split at hm
        ·rename_i l1 hl1
         split at hm
         ·rename_i hl1c
          split at hm
          ·rename_i m1 hm1
           cases hm
           have hf:fs[i]? = some f:=by simpa using hr 0 f rfl
           have hxi:=hx i f hf
           have hil:i<xs.length:=by
            have:=(Array.getElem?_eq_some_iff.1 hf).1
            omega
           rw[List.getElem?_eq_getElem hil] at hxi
           have hdrop:xs.drop i=xs[i]::xs.drop (i+1):=List.drop_eq_getElem_cons hil
           rw[hdrop] at hw'
           simp only[List.map_cons,DataW.weightsEach] at hw'
           obtain⟨d1,hd1,hc1⟩:=Z57 B n n' f.type _ _ l1 hl1 hxi (fun y hy=>hw' y (List.mem_append_left _ hy))
           obtain⟨d2,hd2,hc2⟩:=ih (i+1) (off+l1.length) m1 (fun k g hg=>by have:=hr (k+1) g (by simpa using hg); rwa [show i+1+k=i+(k+1) by omega]) hm1 (fun y hy=>hw' y (List.mem_append_right _ hy))
           refine⟨d1++d2,Z2h hd1 hd2,fun hle=> ?_⟩
           rw[List.length_append] at hle
           have:=hc2 (by omega)
           have hsplit:(cs.drop off).take (l1++m1).length=(cs.drop off).take l1.length++(cs.drop (off+l1.length)).take m1.length:=by
            rw[List.length_append,List.take_add,List.drop_drop]
           rw[hsplit]
           rw[hoff,<- hl1c] at hc1
           exact hc1.append this
          ·cases hm
         ·cases hm
        ·cases hm
       ·cases hm
     obtain⟨ds,h1,h2⟩:=key fs.toList 0 0 l (fun k f hk=>by simpa using hk) hlf (by simpa [DataW.weights,hu] using hw)
     refine⟨ds,h1, ?_⟩
     have:=h2 (by omega)
     simpa [hlen,<- hcl] using this
    ·cases h
   ·cases h
  ·cases h
end Go.Sx
/- From a law's walk to its contract,for any parameters that are read. -/
namespace Go.Sx
open Go.RowKit Go.ChangeShapes Go.WideShapes
theorem Z7s {H:Type} {enc:TypeId × Value->H} {P:Program} {f:Func} {s:ChangeSpec} {apart fresh handsOn:Bool} {W W':World} {args:Array Value} {v:Value} {ds gs:List (DataW H)} {before pa pv:List MemPlace}
  (hW:DataW.Whole enc P f.params.toList s.vars apart W args.toList ds gs before)
  (hres: ∀ (b:Nat) (sp:Nat->Bool) (hd:Bool),DataW.TrodAll enc P W' b sp hd f.resultTypes.toList (v.resultList f.resultTypes.size) (s.fn H (ds++gs)).results [])
  (hargs:DataW.TrodAll enc P W' 0 (fun b=>decide (b<W.heap.size)) true f.params.toList args.toList (s.fn H (ds++gs)).args pa)
  (hvars:DataW.TrodVars enc P W' (fun b=>decide (b<W.heap.size)) s.vars (s.fn H (ds++gs)).vars pv)
  (hps:before=pa++pv) (hb:Below W.heap.size W W'):s.post enc P f apart fresh handsOn false W args v W':=by
 refine⟨ds,gs,before,[],pa,pv,hW,hres _ _ _,hargs,hvars,World.keptBut_mono (fun p hp=>⟨hp, ?_⟩) (hb.frame (· ∈ before)),fun h=>by cases h⟩
 rw[hps,List.mem_append] at hp
 exact Or.inr hp
variable {P:Program}
theorem Z7u {w:World} {r:Reach} {base n:Nat} {t:TypeId} {v:Value} {l:List Sh} (hs:shOf P n t=some l) (h:Value.okWide P w r base t v) :
  (aggB P t=some true/\ ∃ cs,v= .agg cs)\/(aggB P t=some false/\v.cells= #[v]):=by
 cases n with
 | zero=>simp[shOf] at hs
 | succ n =>
  unfold shOf at hs
  unfold aggB
  unfold Value.okWide at h
  split at hs
  ·rename_i hu
   rw[hu] at h ⊢
   simp only[Cell.okWide,hu] at h
   refine .inr ⟨rfl, ?_⟩
   cases v <;> simp_all [Cell.ok,Value.cells]
  ·rename_i k hu
   rw[hu] at h ⊢
   simp only[Cell.okWide,hu] at h
   refine .inr ⟨rfl, ?_⟩
   cases v <;> simp_all [Cell.ok,Value.cells]
  ·rename_i hu
   rw[hu] at h ⊢
   simp only[Cell.okWide,hu] at h
   refine .inr ⟨rfl, ?_⟩
   cases v <;> simp_all [Cell.ok,Value.cells]
  ·rename_i e hu
   rw[hu] at h ⊢
   simp only[Cell.okWide,hu] at h
   refine .inr ⟨rfl, ?_⟩
   cases v <;> simp_all [Cell.ok,Value.cells]
  ·rename_i fs hu
   rw[hu] at h ⊢
   simp only at h
   obtain⟨cs,rfl,_⟩:=h
   exact .inl ⟨rfl,cs,rfl⟩
  ·cases hs
variable {H:Type} {enc:TypeId × Value->H} {w:World}
variable [Globs] [Codes]
end Go.Sx
namespace Go.Sx
variable {P:Program}
def intC (k:IntKind) (l:List Int):List (List D):=l.map fun n=>[D.int k n]
theorem Zi4 {n:Int} (h:(Lit.int .i64 n).wf=true): -9223372036854775808<=n/\n<=9223372036854775807:=by
 simp only[Lit.wf,Bool.and_eq_true,decide_eq_true_eq] at h
 have e1:IntKind.i64.min= -9223372036854775808:=rfl
 have e2:IntKind.i64.max=9223372036854775807:=rfl
 omega
theorem Znn {n:Int} (h:(Lit.int .u8 n).wf=true):0<=n/\n<=255:=by
 simp only[Lit.wf,Bool.and_eq_true,decide_eq_true_eq] at h
 have e1:IntKind.u8.min=0:=rfl
 have e2:IntKind.u8.max=255:=rfl
 omega
end Go.Sx
/- TERMS: A TYPE THAT RECURS,AS PLAIN DATA. -/
namespace Go.Sx
open Go.RowKit Go.Deep Go.ChangeShapes Go.WideShapes
inductive Tm where
 | mk (k:Nat) (n:Int) (s:List UInt8) (l:List Tm)
 deriving Inhabited
mutual
def Tm.cells:Tm->List D
 | .mk k n s l=>[.int .u8 (k:Int),.int .i64 n,.str s,.slice (Tm.cellsL l) []]
def Tm.cellsL:List Tm->List (List D)
 | []=>[]
 | a::r=>a.cells::Tm.cellsL r
end
mutual
def Tm.wf (B:Nat):Tm->Prop
 | .mk k n s l=>k<=255/\ -9223372036854775808<=n/\n<=9223372036854775807/\s.length<=B/\l.length<=B/\Tm.wfL B l
def Tm.wfL (B:Nat):List Tm->Prop
 | []=>True
 | a::r=>a.wf B/\Tm.wfL B r
end
theorem Zp: ∀ l:List Tm,Tm.cellsL l=l.map Tm.cells
 | []=>rfl
 | a::r=>by rw[Tm.cellsL,Zp r]; rfl
theorem Z1 (l:List Tm):(Tm.cellsL l).length=l.length:=by rw[Zp]; simp
theorem QC (t:Tm):t.cells.length=4:=by cases t; rfl
theorem QQ {B:Nat}: ∀ {l:List Tm},Tm.wfL B l ↔ ∀ t∈l,t.wf B
 | []=>by simp[Tm.wfL]
 | a::r=>by simp[Tm.wfL,QQ (l:=r)]
def Z5m (P:Program) (T:TypeId):Bool:=match P.underlying T with
 | some (.struct fs)=>match fs.toList with
  | [f0,f1,f2,f3]=>f0.offset == 0 && f1.offset == 1 && f2.offset == 2 && f3.offset == 3 && P.cellsOf f0.type == 1 && P.cellsOf f1.type == 1 && P.cellsOf f2.type == 1 && P.cellsOf f3.type == 1 && P.cellsOf T == 4 && decide (0<P.bytesOf T) &&
   (match P.underlying f0.type,P.underlying f1.type,P.underlying f2.type,P.underlying f3.type with
    | some (.int .u8),some (.int .i64),some .string,some (.slice e)=>e == T
    | _,_,_,_=>false)
  | _=>false
 | _=>false
structure IsTm (P:Program) (T:TypeId) (fs:Array Field) (f0 f1 f2 f3:Field):Prop where
 u:P.underlying T=some (.struct fs)
 l:fs.toList=[f0,f1,f2,f3]
 o0:f0.offset=0
 o1:f1.offset=1
 o2:f2.offset=2
 o3:f3.offset=3
 c0:P.cellsOf f0.type=1
 c1:P.cellsOf f1.type=1
 c2:P.cellsOf f2.type=1
 c3:P.cellsOf f3.type=1
 c:P.cellsOf T=4
 b:0<P.bytesOf T
 u0:P.underlying f0.type=some (.int .u8)
 u1:P.underlying f1.type=some (.int .i64)
 u2:P.underlying f2.type=some .string
 u3:P.underlying f3.type=some (.slice T)
theorem Z2b {P:Program} {T:TypeId} (h:Z5m P T=true): ∃ fs f0 f1 f2 f3,IsTm P T fs f0 f1 f2 f3:=by
 unfold Z5m at h
 split at h
 ·rename_i fs hu
  split at h
  ·rename_i f0 f1 f2 f3 hl
   simp only[Bool.and_eq_true,beq_iff_eq,decide_eq_true_eq] at h
   obtain⟨⟨⟨⟨⟨⟨⟨⟨⟨⟨h1,h2⟩,h3⟩,h4⟩,h5⟩,h6⟩,h7⟩,h8⟩,h9⟩,h10⟩,h11⟩:=h
   split at h11
   ·rename_i e g0 g1 g2 g3
    have:e=T:=by simpa using h11
    subst this
    exact⟨fs,f0,f1,f2,f3,hu,hl,h1,h2,h3,h4,h5,h6,h7,h8,h9,h10,g0,g1,g2,g3⟩
   ·cases h11
  ·cases h
 ·cases h
variable {H:Type} {enc:TypeId × Value->H} {P:Program} {w:World}
theorem Z1g {B:Nat} {t e:TypeId} {Q:List D->Prop} {fuel:Nat} {cs:List Value} {x:DataW H × List MemPlace} (hu:P.underlying t=some (.slice e)) (hby:0<P.bytesOf e) (hpos:0<P.cellsOf e) (hQ: ∀ ds,Q ds->ds.length=P.cellsOf e)
  (ht:DataW.trod enc P w 0 (fun _=>true) true fuel t cs=some x) (hw:wOK B (x.1.weights P t))
  (hel: ∀ (n:Nat) (cs':List Value) (y:DataW H × List MemPlace),SizeOf.sizeOf y.1<SizeOf.sizeOf x.1->DataW.trod enc P w 0 (fun _=>true) true n e cs'=some y->wOK B (y.1.weights P e)-> ∃ ds,Q ds/\CRp (memW w) cs' ds) :
  ∃ es,es.length<=B/\(∀ q∈es,Q q)/\CRp (memW w) cs [.slice es []]:=by
 rcases open_slice hu ht with ⟨rfl,rfl⟩ | ⟨a,len,cap,m,n',D',Pl,rfl,_,hlc,_,hm,rfl,hx⟩
 ·refine⟨[],Nat.zero_le _,(fun _ h=>by cases h),rfl,fun j v d hv hd=> ?_⟩
  cases j with
  | zero=>simp at hv hd; subst hv; subst hd; exact .nil
  | succ j=>simp at hv
 ·by_cases hl0:len=0
  ·subst hl0
   refine⟨[],Nat.zero_le _,(fun _ h=>by cases h),rfl,fun j v d hv hd=> ?_⟩
   cases j with
   | zero=>simp at hv hd; subst hv; subst hd; exact .nilA _ _
   | succ j=>simp at hv
  simp only[if_true] at hm
  subst hm
  have hspot:a.spot=none:=by
   obtain⟨cs',h1,_⟩:=hx 0 (by omega)
   obtain⟨_,hl',hc'⟩:=World.cells?_some h1
   have h3:=hc' 0 (by omega)
   rw[List.getElem?_eq_getElem (by omega)] at h3
   cases hs:a.spot with
   | none=>rfl
   | some q =>
    exfalso
    have e1:(a.add (0*P.cellsOf e)).add 0=a:=by simp[Addr.add]
    rw[e1] at h3
    unfold World.cell? at h3
    split at h3
    ·rw[hs] at h3; simp at h3
    ·cases h3
  obtain⟨b,off,spot⟩:=a
  simp only at hspot
  subst hspot
  have hwl:len<=B/\ ∀ i,i<len->wOK B ((D' i).weights P e):=by
   simp only[DataW.weights,hu] at hw
   refine⟨?_,fun i hi y hy=> ?_⟩
   ·have:=hw _ (List.mem_cons_self ..)
    simp only[List.length_map,List.length_range] at this
    have h2:len<=(len+(m-len))*P.bytesOf e:=Nat.le_trans (Nat.le_add_right _ _) (Nat.le_mul_of_pos_right _ hby)
    omega
   ·refine hw y (List.mem_cons_of_mem _ (List.mem_append_left _ ?_))
    have key: ∀ (l:List (DataW H)) (d:DataW H),d∈l-> ∀ y∈d.weights P e,y∈DataW.weightsAll P e l:=by
     intro l
     induction l with
     | nil=>intro d hd; cases hd
     | cons z r ih =>
      intro d hd y hy
      simp only[DataW.weightsAll]
      rcases List.mem_cons.1 hd with rfl | hd
      ·exact List.mem_append_left _ hy
      ·exact List.mem_append_right _ (ih d hd y hy)
    exact key _ _ (List.mem_map.2 ⟨i,List.mem_range.2 hi,rfl⟩) y hy
  have hone: ∀ i,i<len-> ∃ ds,Q ds/\ ∃ cs',w.cells? 0 (Addr.add ⟨b,off,none⟩ (i*P.cellsOf e)) (P.cellsOf e)=some cs'/\CRp (memW w) cs' ds:=fun i hi=>by
   obtain⟨cs',h1,h2⟩:=hx i (by omega)
   have hsz:SizeOf.sizeOf (D' i)<SizeOf.sizeOf (DataW.slice ((List.range len).map D') ((List.range (m-len)).map fun j=>D' (len+j))):=by
    have:=List.sizeOf_lt_of_mem (List.mem_map.2 ⟨i,List.mem_range.2 hi,rfl⟩:D' i∈(List.range len).map D')
    simp only[DataW.slice.sizeOf_spec]
    omega
   obtain⟨ds,h3,h4⟩:=hel n' cs' _ hsz h2 (hwl.2 i hi)
   exact⟨ds,h3,cs',h1,h4⟩
  obtain⟨ds,hds⟩:=choose_lt (α:=List D) (p:=fun i ds=>Q ds/\ ∃ cs',w.cells? 0 (Addr.add ⟨b,off,none⟩ (i*P.cellsOf e)) (P.cellsOf e)=some cs'/\CRp (memW w) cs' ds) hone
  have hget: ∀ (i:Nat) (q:List D),((List.range len).map ds++[])[i]? = some q->i<len/\q=ds i:=by
   intro i q hq
   simp only[List.append_nil,List.getElem?_map,Option.map_eq_some_iff] at hq
   obtain⟨i',hi',rfl⟩:=hq
   have h1:=List.getElem?_eq_some_iff.1 hi'
   obtain⟨h2,h3⟩:=h1
   simp at h2 h3
   subst h3
   exact⟨h2,rfl⟩
  refine⟨(List.range len).map ds,by simpa using hwl.1,fun q hq=> ?_,rfl,fun j v d hv hd=> ?_⟩
  ·obtain⟨i,hi,rfl⟩:=List.mem_map.1 hq
   exact (hds i (List.mem_range.1 hi)).1
  ·cases j with
   | succ j=>simp at hv
   | zero =>
    simp at hv hd
    subst hv; subst hd
    have hl:len=((List.range len).map ds).length:=by simp
    have hcell: ∀ i j x,i<len->(ds i)[j]? = some x-> ∃ v,w.cell? ⟨b,off+i*P.cellsOf e+j,none⟩=some v/\Rep (memW w) v x:=fun i j x hi hjx=>by
     obtain⟨_,cs',h1,h2⟩:=hds i hi
     obtain⟨_,hl',hc'⟩:=World.cells?_some h1
     have hj:j<cs'.length:=by
      rcases Nat.lt_or_ge j cs'.length with h | h
      ·exact h
      ·rw[List.getElem?_eq_none (by rw[<- h2.1]; exact h)] at hjx; cases hjx
     have h3:=hc' j (by omega)
     rw[List.getElem?_eq_getElem hj] at h3
     have h4:w.cell? ⟨b,off+i*P.cellsOf e+j,none⟩=some cs'[j]:=by rw[addP,addP] at h3; exact h3
     exact⟨_,h4,h2.2 j _ x (List.getElem?_eq_getElem hj) hjx⟩
    conv=>lhs; rw[hl]
    refine .slice b off m (P.cellsOf e) _ _ (fun i j=>(w.cell? ⟨b,off+i*P.cellsOf e+j,none⟩).getD Go.undef) (by simp; omega) (fun q hq=> ?_) (fun i q j x hq hjx=> ?_) (fun i q j x hq hjx=> ?_)
    ·simp only[List.append_nil] at hq
     obtain⟨i,hi,rfl⟩:=List.mem_map.1 hq
     exact hQ _ (hds i (List.mem_range.1 hi)).1
    ·obtain⟨hi,rfl⟩:=hget i q hq
     obtain⟨v,h1,_⟩:=hcell i j x hi hjx
     show w.cell? _=_
     rw[h1]; rfl
    ·obtain⟨hi,rfl⟩:=hget i q hq
     obtain⟨v,h1,h2⟩:=hcell i j x hi hjx
     rw[h1]; exact h2
theorem Z85 {B:Nat}: ∀ {es:List (List D)},(∀ q∈es, ∃ t:Tm,t.wf B/\q=t.cells)-> ∃ l:List Tm,es=Tm.cellsL l/\Tm.wfL B l
 | [],_=>⟨[],rfl,trivial⟩
 | e::r,h=>by
  obtain⟨t,h1,rfl⟩:=h e (List.mem_cons_self ..)
  obtain⟨l,rfl,h2⟩:=Z85 (es:=r) fun x hx=>h x (List.mem_cons_of_mem _ hx)
  exact⟨t::l,rfl,h1,h2⟩
theorem len4 {α:Type} {l:List α} (h:l.length=4): ∃ a b c d,l=[a,b,c,d]:=by
 match l,h with
 | [a,b,c,d],_=>exact⟨a,b,c,d,rfl⟩
theorem Z8G {B:Nat} {T:TypeId} {fs:Array Field} {f0 f1 f2 f3:Field} (hT:IsTm P T fs f0 f1 f2 f3): ∀ (k fuel:Nat) (cs:List Value) (x:DataW H × List MemPlace),SizeOf.sizeOf x.1<=k->DataW.trod enc P w 0 (fun _=>true) true fuel T cs=some x →
  wOK B (x.1.weights P T)-> ∃ t:Tm,t.wf B/\CRp (memW w) cs t.cells:=by
 intro k
 induction k with
 | zero=>intro fuel cs x hk; exact absurd hk (by cases x.1 <;> simp)
 | succ k ih =>
  intro fuel cs x hk ht hw
  obtain⟨xs,n',_,rfl,hcl,hxl,hx⟩:=DataW.trod_struct hT.u ht
  have hsz:fs.size=4:=by rw[<- Array.length_toList,hT.l]; rfl
  have g: ∀ (i:Nat) (f:Field),fs.toList[i]? = some f->fs[i]? = some f:=fun i f h=>by simpa using h
  rw[hT.l] at g
  rw[hsz] at hxl
  obtain⟨x0,x1,x2,x3,rfl⟩:=len4 hxl
  have h0:=hx 0 f0 (g 0 f0 rfl)
  have h1:=hx 1 f1 (g 1 f1 rfl)
  have h2:=hx 2 f2 (g 2 f2 rfl)
  have h3:=hx 3 f3 (g 3 f3 rfl)
  rw[hT.o0,hT.c0] at h0
  rw[hT.o1,hT.c1] at h1
  rw[hT.o2,hT.c2] at h2
  rw[hT.o3,hT.c3] at h3
  rw[hT.c] at hcl
  obtain⟨v0,v1,v2,v3,rfl⟩:=len4 hcl
  simp only[List.drop_zero,List.drop_succ_cons,List.take_succ_cons,List.take_zero,List.getElem?_cons_zero,List.getElem?_cons_succ] at h0 h1 h2 h3
  have hws:wOK B (DataW.weightsEach P [f0.type,f1.type,f2.type,f3.type] [x0.1,x1.1,x2.1,x3.1]):=by
   simp only[DataW.weights,hT.u,hT.l,List.map_cons,List.map_nil] at hw
   exact hw
  simp only[DataW.weightsEach] at hws
  obtain⟨a0,e0,rfl,w0⟩:=DataW.trod_int hT.u0 h0
  obtain⟨a1,e1,rfl,w1⟩:=DataW.trod_int hT.u1 h1
  obtain⟨s2,e2,rfl,_⟩:=DataW.trod_string hT.u2 h2
  cases e0; cases e1; cases e2
  have hs2:s2.data.toList.length<=B:=hws _ (by simp[DataW.weights])
  have hk3:SizeOf.sizeOf x3.1<=k:=by
   simp only[List.map_cons,List.map_nil,DataW.agg.sizeOf_spec,List.cons.sizeOf_spec,List.nil.sizeOf_spec] at hk
   omega
  obtain⟨es,hl,hq,hc⟩:=Z1g (B:=B) (Q:=fun ds=> ∃ t:Tm,t.wf B/\ds=t.cells) hT.u3 hT.b (by rw[hT.c]; decide) (fun ds ⟨t,_,h⟩=>by rw[h,QC,hT.c]) h3 (fun y hy=>hws y (by simp[hy])) fun n cs' y hlt hy hwy=>by
   obtain⟨t,h4,h5⟩:=ih n cs' y (by omega) hy hwy
   exact⟨t.cells,⟨t,h4,rfl⟩,h5⟩
  obtain⟨l,rfl,hwl⟩:=Z85 hq
  have wa:=Znn w0
  have wb:=Zi4 w1
  rw[Z1] at hl
  refine⟨.mk a0.toNat a1 s2.data.toList l,⟨by omega,wb.1,wb.2,hs2,hl,hwl⟩,rfl,fun j v d hv hd=> ?_⟩
  match j,hv,hd with
  | 0,hv,hd =>
   simp only[List.getElem?_cons_zero,Option.some.injEq,Tm.cells] at hv hd
   subst hv; subst hd
   rw[Int.toNat_of_nonneg wa.1]
   exact .int _ _
  | 1,hv,hd =>
   simp only[List.getElem?_cons_zero,List.getElem?_cons_succ,Option.some.injEq,Tm.cells] at hv hd
   subst hv; subst hd
   exact .int _ _
  | 2,hv,hd =>
   simp only[List.getElem?_cons_zero,List.getElem?_cons_succ,Option.some.injEq,Tm.cells] at hv hd
   subst hv; subst hd
   have:=Rep.str (φ:=memW w) s2.data.toList
   simpa using this
  | 3,hv,hd =>
   simp only[List.getElem?_cons_zero,List.getElem?_cons_succ,Option.some.injEq,Tm.cells] at hv hd
   subst hv; subst hd
   exact hc.2 0 _ _ rfl rfl
  | j+4,hv,hd=>simp at hv
def Reads (P:Program) (B:Nat) (t:TypeId) (Q:D->Prop):Prop:= ∀ {H:Type} {enc:TypeId × Value->H} {w:World} {r:Reach} {base fuel:Nat} {v:Value} {x:DataW H × List MemPlace},
 DataW.trod enc P w 0 (fun _=>true) true fuel t v.cells.toList=some x->wOK B (x.1.weights P t)->Value.okWide P w r base t v-> ∃ a,RV (memW w) noH v a/\Q a
def FitQ:List (TypeId × (D->Prop))->List D->Prop
 | [],[]=>True
 | q::qs,a::l=>q.2 a/\FitQ qs l
 | _,_=>False
section
variable [Globs] [Codes]
theorem Z2O (B:Nat) {r:Reach} {base:Nat}: ∀ (qs:List (TypeId × (D->Prop))) (vs:List Value) (ds:List (DataW H)) (ps:List MemPlace),DataW.TrodAll enc P w 0 (fun _=>true) true (qs.map (·.1)) vs ds ps->wOK B (DataW.weightsEach P (qs.map (·.1)) ds) →
  (∀ q∈qs,Reads P B q.1 q.2)->(∀ (j:Nat) t v,(qs.map (·.1))[j]? = some t->vs[j]? = some v->Value.okWide P w r base t v)-> ∃ l,RVL (memW w) noH vs l/\FitQ qs l
 | [],vs,ds,ps,h,_,_,_=>by
  obtain⟨rfl,rfl,rfl⟩:=trodAll_nil h
  exact⟨[],trivial,trivial⟩
 | q::qs,vs,ds,ps,h,hw,hs,hv=>by
  rw[List.map_cons] at h hw
  obtain⟨v,vs',d,ds',p,q',rfl,rfl,rfl,h0,hr⟩:=trodAll_cons h
  simp only[DataW.weightsEach] at hw
  obtain⟨l,h1,h2⟩:=Z2O B qs vs' ds' q' hr (fun x hx=>hw x (List.mem_append_right _ hx)) (fun t ht=>hs t (List.mem_cons_of_mem _ ht)) (fun j t v hj hv'=>hv (j+1) t v (by simpa using hj) (by simpa using hv'))
  obtain⟨fuel,hf⟩:=h0
  obtain⟨a,h3,h4⟩:=hs q (List.mem_cons_self ..) hf (fun x hx=>hw x (List.mem_append_left _ hx)) (hv 0 q.1 v rfl rfl)
  exact⟨a::l,⟨h3,h1⟩,h4,h2⟩
end
theorem Zbi {B:Nat} {t:TypeId} {l:Sh} {n:Nat} (hs:shOf P n t=some [l]) (ha:aggB P t=some false):Reads P B t (fun a=>Sh.fit B l a):=by
 intro H enc w r base fuel v x hx hw hok
 obtain⟨cs,h3,h4⟩:=Z57 B n fuel t _ _ [l] hs hx hw
 rcases Z7u hs hok with ⟨ha',_⟩ | ⟨_,hc⟩
 ·rw[ha] at ha'; cases ha'
 ·rw[hc] at h4
  simp only[Sh.fits] at h3
  obtain⟨d,ds,rfl,hd,rfl⟩:=h3
  exact⟨d,.pure (h4.2 0 v d rfl rfl),hd⟩
theorem Z3G {q:TypeId × (D->Prop)} {qs:List (TypeId × (D->Prop))} {l:List D} (h:FitQ (q::qs) l): ∃ a r,l=a::r/\q.2 a/\FitQ qs r:=by
 cases l with
 | nil=>exact h.elim
 | cons a r=>exact⟨a,r,rfl,h.1,h.2⟩
theorem ZkG {l:List D} (h:FitQ [] l):l=[]:=by
 cases l with
 | nil=>rfl
 | cons a r=>exact h.elim
end Go.Sx
namespace Go.Sx
open Go.RowKit
variable [Globs] [Codes]
/- THE WALK BY TREES: all ways through a text at once,up to the heads of loops; calls by contracts. -/
inductive RT where
 | ok (p:Prop) (r:D) (ob:Obs)
 | br (b:Bool) (x y:RT)
def RT.says (C:D->Obs->Prop):RT->Prop
 | .ok p r ob=>p->C r ob
 | .br b x y=>match b with
  | true=>x.says C
  | false=>y.says C
structure Ctr where
 F:Nat->FuncId->List D->Option RT:=fun _ _ _=>none
 C:Nat->D->List D->Obs->Option RT:=fun _ _ _ _=>none
 E:Nat->Int->List D:=fun _ _=>[]
structure Ctr.OK (tb:Ctr) (P:Program):Prop where
 F: ∀ t f az rt,tb.F t f az=some rt->rt.says fun r _=>FnOK P f az r
 C: ∀ t d az ob rt,tb.C t d az ob=some rt->rt.says fun r ob'=>CallL P d az ob fun r0 ob0=>r0=r/\ob0=ob'
inductive Tr where
 | ret (r:D) (ob:Obs)
 | jmp (K:List Fr) (s:St)
 | owe (p:Prop) (x:Tr)
 | bad
def brT (b:Bool) (x y:Tr):Tr:=match b with
 | true=>x
 | false=>y
def Tr.ok (R:D->Obs->Prop) (J:List Fr->St->Prop):Tr->Prop
 | .ret r ob=>R r ob
 | .jmp K s=>J K s
 | .owe p x=>p/\x.ok R J
 | .bad=>False
section
variable {R:D->Obs->Prop} {J:List Fr->St->Prop}
theorem Ze {r:D} {ob:Obs}:(Tr.ret r ob).ok R J=R r ob:=rfl
theorem Z9 {K:List Fr} {s:St}:(Tr.jmp K s).ok R J=J K s:=rfl
theorem Zh {p:Prop} {x:Tr}:(Tr.owe p x).ok R J=(p/\x.ok R J):=rfl
theorem Qt {b:Bool} {x y:Tr}:(brT b x y).ok R J=((b=true->x.ok R J)/\(b=false->y.ok R J)):=by
 cases b <;> simp[brT]
theorem ZZ {x y:Tr}:(brT true x y)=x:=rfl
theorem ZK {x y:Tr}:(brT false x y)=y:=rfl
end
theorem SS:(∀ {R:D->Obs->Prop} {J:List Fr->St->Prop} {b:Bool} {x y:Tr},(brT b x y).ok R J=((b=true->x.ok R J)/\(b=false->y.ok R J))) ∧
  (∀ {R:D->Obs->Prop} {J:List Fr->St->Prop} {p:Prop} {x:Tr},(Tr.owe p x).ok R J=(p/\x.ok R J)) ∧
  (∀ {R:D->Obs->Prop} {J:List Fr->St->Prop} {r:D} {ob:Obs},(Tr.ret r ob).ok R J=R r ob) ∧
  (∀ {R:D->Obs->Prop} {J:List Fr->St->Prop} {K:List Fr} {s:St},(Tr.jmp K s).ok R J=J K s) ∧
  (∀ {p:Prop} [Decidable p],(decide p=true)=p)/\(∀ {p:Prop} [Decidable p],decide p=false ↔ ¬ p)/\(∀ n:Nat,(n:Int).toNat=n) ∧
  (∀ p:Prop,(True/\p)=p)/\(∀ p:Prop,(p/\True)=p)/\(∀ b:Bool,((!b)=true)=(b=false))/\(∀ b:Bool,((!b)=false)=(b=true)) ∧
  (∀ {α:Type} {l:List α},l.drop 0=l)/\(∀ {α:Type} {l:List α},l.take l.length=l) ∧
  (∀ {a b:Bool},(D.bool a=D.bool b)=(a=b))/\(∀ {k l:IntKind} {a b:Int},(D.int k a=D.int l b)=(k=l/\a=b))/\(∀ {a b:List UInt8},(D.str a=D.str b)=(a=b)) ∧
  (∀ p:Prop,(True->p)=p)/\(∀ a:Int,a<=a) :=
 ⟨Qt,Zh,Ze,Z9,decide_eq_true_eq,decide_eq_false_iff_not,Int.toNat_natCast,true_and,and_true,Bool.not_eq_true',Bool.not_eq_false',List.drop_zero,List.take_length,by simp only[D.bool.injEq,implies_true],by simp only[D.int.injEq,implies_true],by simp only[D.str.injEq,implies_true],fun p=>true_implies p,Int.le_refl⟩
def Zc (sz:Nat) (es:List (List D)):Prop:= ∀ q∈es,q.length=sz
theorem Z7R {α:Type} {sz:Nat} {f:α->List D} (hf: ∀ a,(f a).length=sz) (l:List α):Zc sz (l.map f):=fun q hq=>by
 obtain⟨a,_,rfl⟩:=List.mem_map.1 hq
 exact hf a
def arT (k:IntKind) (n:Int) (K:D->Tr):Tr:=match k with
 | .i64=> .owe (-9223372036854775808<=n/\n<=9223372036854775807) (K (.int .i64 n))
 | k=>K (.int k (k.wrap n))
def oneT (d:Option D) (K:D->Tr):Tr:=match d with
 | some d=>K d
 | none=> .bad
def binT (op:BinOp) (k:IntKind) (a b:Int) (K:D->Tr):Tr:=match op with
 | .add=>arT k (a+b) K
 | .sub=>arT k (a-b) K
 | .mul=>arT k (a*b) K
 | .quo=> .owe (b≠0) (arT k (a.tdiv b) K)
 | .rem=> .owe (b≠0) (K (.int k (a.tmod b)))
 | op=>oneT (Zc6 op k a b) K
def Zgw (op:BinOp) (a b:List UInt8) (K:D->Tr):Tr:=match op with
 | .add=> .owe (a.length+b.length<=4611686018427387904) (K (.str (a++b)))
 | op=>oneT (Zc4 op a b) K
def iaT (c:List D) (sz:Nat) (es:List (List D)) (n:Int) (K:D->Tr):Tr:=match c with
 | []=> .owe (0<=n/\n<es.length/\(es.getD n.toNat []).length=sz) (K (.fptr (es.getD n.toNat [])))
 | c::cs=>if (c::cs).length=sz then .owe (0<=n/\es[n.toNat]? = some (c::cs)) (K (.fptr (c::cs))) else .bad
def rtT:RT->(D->Obs->Tr)->Tr
 | .ok p r ob,K=> .owe p (K r ob)
 | .br b x y,K=>brT b (rtT x K) (rtT y K)
def mfT (key:D):List D->List D->(Option D->Tr)->Tr
 | [],[],K=>K none
 | k::ks,d::ds,K=>match keqD key k with
  | some b=>brT b (K (some d)) (mfT key ks ds K)
  | none=> .bad
 | _,_,_=> .bad
def evT (tb:Ctr) (t dst:Nat) (o:AOp) (xs:List D) (obs:Nat->Option Ob) (K:D->Option Ob->Tr):Tr :=
 match o,xs with
 | .pick,[.bool c,a,b]=>brT c (K a none) (K b none)
 | .bin op,[.int k a,.int k' b]=>if k=k' then binT op k a b (fun d=>K d none) else .bad
 | .bin op,[.str a,.str b]=>Zgw op a b (fun d=>K d none)
 | .un .neg,[.int k a]=>arT k (0-a) (fun d=>K d none)
 | .conv k,[.int _ n]=>arT k n (fun d=>K d none)
 | .iaddr sz,[.slice es _,.int _ n]=>iaT (tb.E t n) sz es n (fun d=>K d none)
 | .iaddr sz,[.vec id,.int _ n]=>match obs id with
  | some (.arr true _ _ es)=>iaT (tb.E t n) sz es n (fun d=>K d none)
  | some (.arr false sz' _ es)=>if sz'=sz then .owe (0<=n/\n<es.length) (K (.vptr id n.toNat 0 sz) none) else .bad
  | _=> .bad
 | .index,[.str s,.int _ n]=> .owe (0<=n/\n<s.length) (K (.int .u8 (s.getD n.toNat 0).toNat) none)
 | .sliceS lo hi,.str s::bs=>match Qr lo hi s.length bs with
  | some (a,b)=> .owe (0<=a/\a<=b/\b<=s.length) (K (.str ((s.take b.toNat).drop a.toNat)) none)
  | none=> .bad
 | .slice sz lo hi,d::bs=>match Qj obs d with
  | some (es,ext)=>match Qr lo hi es.length bs with
   | some (a,b)=> .owe (Zc sz (es++ext)/\0<=a/\a<=b/\b<=(es++ext).length) (match tb.E t 0 with
    | [.slice A X]=> .owe (((es++ext).take b.toNat).drop a.toNat=A/\(es++ext).drop b.toNat=X) (K (.slice A X) none)
    | _=>K (.slice (((es++ext).take b.toNat).drop a.toNat) ((es++ext).drop b.toNat)) none)
   | none=> .bad
  | none=>(match d,bs with
   | .vec id,[.int _ n]=>(match lo,hi with
    | true,false=>(match obs id with
     | some (.arr false sz' _ es)=>if sz'=sz then .owe (es≠[]/\0<=n/\n<=es.length) (K (.vwin id n.toNat sz) none) else .bad
     | _=> .bad)
    | _,_=> .bad)
   | _,_=> .bad)
 | .call f,ds=>match tb.F t f (ds.map (dv obs)) with
  | some rt=>rtT rt fun r _=>K (ZbW dst r).1 (ZbW dst r).2
  | none=> .bad
 | .iaddrA len sz,[.fptr cs,.int _ n]=> .owe (0<=n/\n<len) (K (.fptr (cs.drop (n.toNat*sz))) none)
 | .iaddrA len sz,[.ptr id off,.int _ n]=> .owe (0<=n/\n<len) (K (.ptr id (off+n.toNat*sz)) none)
 | .sh left,[.int k a,.int _ b]=> .owe (0<=b) (K (.int k (shI left k a b)) none)
 | .b2s,[d]=>match Z1f obs d with
  | some es=> .owe (es=byC (ZX es)) (K (.str (ZX es)) none)
  | none=> .bad
 | .mks fz sz e z bt,[.int _ n]=>if z.all D.pur=true then .owe (0<=n/\n*bt<=281474976710656/\n<=1073741824) (K (.vec dst) (some (.arr fz sz e (List.replicate n.toNat z)))) else .bad
 | .mlook kd z,[.map id,key]=>match obs id with
  | some (.gen (.map ks) ds)=>if isKD kd key=true then mfT key ks ds (fun r=>K (r.getD z) none) else .bad
  | _=> .bad
 | .load agg sz,[.vptr id i j sz']=>match tb.E t (i:Int) with
  | []=>(match evE (fun _ _=>none) dst (.load agg sz) [.vptr id i j sz'] obs with
   | some (d,nb)=>K d nb
   | none=> .bad)
  | c::cs=>match obs id with
   | some (.arr false sz2 _ es)=>if sz2=sz'/\j+sz<=sz' then .owe (es[i]? = some (c::cs)) (match agg with
    | true=>K (.agg (((c::cs).drop j).take sz)) none
    | false=>oneT ((c::cs)[j]?) fun d=>K d none) else .bad
   | _=> .bad
 | .ext (.eqs3 ng),xs=>(match extD (.eqs3 ng) xs obs with
  | some d=>K d none
  | none=> .bad)
 | .ext k,xs=>match tb.E t 0 with
  | d::_=> .owe (extD k xs obs=some d) (K d none)
  | []=>(match extD k xs obs with
   | some d=>K d none
   | none=> .bad)
 | .mm big,.int k a::ds=>match mmI big k a ds with
  | some r=>(match tb.E t 0 with
   | [.int .i64 q]=> .owe (k= .i64/\r=q) (K (.int .i64 q) none)
   | _=>K (.int k r) none)
  | none=> .bad
 | o,xs=>match evE (fun _ _=>none) dst o xs obs with
  | some (d,nb)=>K d nb
  | none=> .bad
theorem ZaE {n:Int} (h: -9223372036854775808<=n/\n<=9223372036854775807):IntKind.i64.wrap n=n:=by
 rw[IntKind.wrap_i64]; omega
section
variable {R:D->Obs->Prop} {J:List Fr->St->Prop} {P:Program}
theorem Z3b {k:IntKind} {n:Int} {K:D->Tr} (h:(arT k n K).ok R J):(K (.int k (k.wrap n))).ok R J:=by
 unfold arT at h
 split at h
 ·rw[ZaE h.1]; exact h.2
 ·exact h
theorem Z5b {d:Option D} {K:D->Tr} (h:(oneT d K).ok R J): ∃ r,d=some r/\(K r).ok R J:=by
 cases d with
 | none=>exact h.elim
 | some d=>exact⟨d,rfl,h⟩
theorem Zgv {op:BinOp} {k:IntKind} {a b:Int} {K:D->Tr} (h:(binT op k a b K).ok R J):binI op k a b fun d=>(K d).ok R J:=by
 unfold binT at h
 split at h
 ·exact Z3b h
 ·exact Z3b h
 ·exact Z3b h
 ·exact⟨h.1,Z3b h.2⟩
 ·exact⟨h.1,h.2⟩
 ·obtain⟨r,hr,hk⟩:=Z5b h
  exact Z2u hr hk
theorem Zc3 {op:BinOp} {a b:List UInt8} {K:D->Tr} (h:(Zgw op a b K).ok R J):binS op a b fun d=>(K d).ok R J:=by
 unfold Zgw at h
 split at h
 ·exact⟨h.1,h.2⟩
 ·obtain⟨r,hr,hk⟩:=Z5b h
  exact Z2t hr hk
theorem ZcU {c:List D} {sz:Nat} {es:List (List D)} {n:Int} {K:D->Tr} (h:(iaT c sz es n K).ok R J):0<=n/\n<es.length/\(es.getD n.toNat []).length=sz/\(K (.fptr (es.getD n.toNat []))).ok R J:=by
 unfold iaT at h
 split at h
 ·exact⟨h.1.1,h.1.2.1,h.1.2.2,h.2⟩
 ·rename_i c cs
  split at h
  ·rename_i hsz
   obtain⟨⟨h0,h1⟩,h2⟩:=h
   have hlt:=(List.getElem?_eq_some_iff.1 h1).1
   have hg:es.getD n.toNat []=c::cs:=by simp[List.getD,h1]
   rw[hg]
   exact⟨h0,by omega,hsz,h2⟩
  ·exact h.elim
theorem Z1X {C:D->Obs->Prop} {K:D->Obs->Tr}: ∀ {rt:RT},rt.says C->(rtT rt K).ok R J-> ∃ r ob,C r ob/\(K r ob).ok R J
 | .ok p r ob,hs,h=>⟨r,ob,hs h.1,h.2⟩
 | .br b x y,hs,h=>by
  cases b
  ·exact Z1X (rt:=y) hs h
  ·exact Z1X (rt:=x) hs h
theorem Z4E {b:Bool} {x y:Tr} (h:(brT b x y).ok R J):(b=true/\x.ok R J)\/(b=false/\y.ok R J):=by
 cases b
 ·exact .inr ⟨rfl,h⟩
 ·exact .inl ⟨rfl,h⟩
theorem ZcS {key:D}: ∀ {ks ds:List D} {K:Option D->Tr},(mfT key ks ds K).ok R J-> ∃ r,Z1y key ks ds=some r/\(K r).ok R J
 | [],[],K,h=>⟨none,rfl,h⟩
 | [],_::_,K,h=>h.elim
 | _::_,[],K,h=>h.elim
 | k::ks,d::ds,K,h=>by
  simp only[mfT] at h
  simp only[Z1y]
  cases hq:keqD key k with
  | none=>rw[hq] at h; exact h.elim
  | some b =>
   rw[hq] at h
   rcases Z4E h with ⟨rfl,h⟩ | ⟨rfl,h⟩
   ·exact⟨some d,rfl,h⟩
   ·exact ZcS h
theorem Zd2 {tb:Ctr} (htb:tb.OK P) {t dst:Nat} {op:AOp} {xs:List D} {obs:Nat->Option Ob} {K:D->Option Ob->Tr} (h:(evT tb t dst op xs obs K).ok R J):evl P dst op xs obs fun d nb=>(K d nb).ok R J:=by
 unfold evT at h
 split at h
 case h_1=> 
  rcases Z4E h with ⟨rfl,h⟩ | ⟨rfl,h⟩
  ·exact h
  ·exact h
 case h_2 =>
  split at h
  ·rename_i hk; exact⟨hk,Zgv h⟩
  ·exact h.elim
 case h_3=>exact Zc3 h
 case h_4=>exact Z3b h
 case h_5=>exact Z3b h
 case h_6=>exact ZcU h
 case h_7 =>
  simp only[evl]
  split at h
  ·rename_i heq; rw[heq]; exact ZcU h
  ·rename_i heq
   rw[heq]
   split at h
   ·rename_i hs; exact⟨hs,h.1.1,h.1.2,h.2⟩
   ·exact h.elim
  ·exact h.elim
 case h_8=>exact⟨h.1.1,h.1.2,h.2⟩
 case h_9 =>
  simp only[evl]
  split at h
  ·rename_i heq; simp only[heq]; exact⟨h.1.1,h.1.2.1,h.1.2.2,h.2⟩
  ·exact h.elim
 case h_10 =>
  simp only[evl]
  split at h
  ·rename_i heq
   rw[heq]
   simp only
   split at h
   ·rename_i heq2
    simp only[heq2]
    have h2:=h.2
    refine⟨h.1.1,h.1.2.1,h.1.2.2.1,h.1.2.2.2, ?_⟩
    split at h2
    ·rw[h2.1.1,h2.1.2]; exact h2.2
    ·exact h2
   ·exact h.elim
  ·rename_i heq
   rw[heq]
   simp only
   split at h
   ·split at h
    ·split at h
     ·rename_i heq2
      simp only[heq2]
      split at h
      ·rename_i hc
       exact⟨hc,h.1.1,h.1.2.1,h.1.2.2,h.2⟩
      ·exact h.elim
     ·exact h.elim
    ·exact h.elim
   ·exact h.elim
 case h_11 =>
  split at h
  ·rename_i rt hrt
   obtain⟨r,ob,hf,hk⟩:=Z1X (htb.F _ _ _ _ hrt) h
   refine⟨r,hf, ?_⟩
   cases r <;> exact hk
  ·exact h.elim
 case h_12=>exact⟨h.1.1,h.1.2,h.2⟩
 case h_13=>exact⟨h.1.1,h.1.2,h.2⟩
 case h_14=>exact⟨h.1,h.2⟩
 case h_15 =>
  simp only[evl]
  split at h
  ·rename_i heq; simp only[heq]; exact⟨h.1,h.2⟩
  ·exact h.elim
 case h_16 =>
  split at h
  ·rename_i hp; exact⟨hp,h.1.1,h.1.2.1,h.1.2.2,h.2⟩
  ·exact h.elim
 case h_17 =>
  simp only[evl]
  split at h
  ·rename_i heq
   rw[heq]
   split at h
   ·rename_i hc
    obtain⟨r,hr,hk⟩:=ZcS h
    simp only[hr]
    exact⟨hc,hk⟩
   ·exact h.elim
  ·exact h.elim
 case h_18 =>
  split at h
  ·split at h
   ·rename_i heq; exact QM (fn:=fun _ _=>none) (P:=P) (fun _ _ _ h=>by cases h) heq h
   ·exact h.elim
  ·rename_i c cs _
   simp only[evl]
   split at h
   ·rename_i heq
    rw[heq]
    split at h
    ·rename_i hc
     refine⟨hc.1,hc.2, ?_⟩
     rw[h.1]
     have h2:=h.2
     split at h2
     ·exact h2
     ·obtain⟨d,hd,hk⟩:=Z5b h2
      simp only[Bool.false_eq_true,if_false,hd]
      exact hk
    ·exact h.elim
   ·exact h.elim
 case h_19 =>
  split at h
  ·rename_i heq
   show evl P dst (.ext _) _ obs _
   unfold evl
   simp only[heq]
   exact h
  ·exact h.elim
 case h_20 =>
  split at h
  ·rename_i d _ _
   show evl P dst (.ext _) _ obs _
   unfold evl
   simp only[h.1]
   exact h.2
  ·unfold evl
   split at h
   ·rename_i heq; simp only[heq]; exact h
   ·exact h.elim
 case h_21 =>
  simp only[evl]
  split at h
  ·rename_i heq
   simp only[heq]
   split at h
   ·obtain⟨⟨rfl,rfl⟩,h⟩:=h; exact h
   ·exact h
  ·exact h.elim
 case h_22 =>
  split at h
  ·rename_i heq; exact QM (fn:=fun _ _=>none) (P:=P) (fun _ _ _ h=>by cases h) heq h
  ·exact h.elim
end
end Go.Sx
namespace Go.Sx
open Go.RowKit
variable [Globs] [Codes]
/- AN OPERATION COMES TO ONE END. -/
section
variable {P:Program} {dst:Nat} {obs:Nat->Option Ob} {K:D->Option Ob->Prop}
theorem Z9U {op:BinOp} {k:IntKind} {a b:Int} {K:D->Prop} (h:binI op k a b K): ∃ d,K d/\ ∀ K':D->Prop,K' d->binI op k a b K':=by
 cases op <;> simp only[binI] at h <;> first | exact h.elim | exact⟨_,h,fun K' hk=>hk⟩ | exact⟨_,h.2,fun K' hk=>⟨h.1,hk⟩⟩
theorem Z9S {op:BinOp} {a b:List UInt8} {K:D->Prop} (h:binS op a b K): ∃ d,K d/\ ∀ K':D->Prop,K' d->binS op a b K':=by
 cases op <;> simp only[binS] at h <;> first | exact h.elim | exact⟨_,h,fun K' hk=>hk⟩ | exact⟨_,h.2,fun K' hk=>⟨h.1,hk⟩⟩
theorem Zc9 {d:D} (h:evl P dst .b2s [d] obs K): ∃ d' nb,K d' nb/\ ∀ K':D->Option Ob->Prop,K' d' nb->evl P dst .b2s [d] obs K':=by
 simp only[evl] at h ⊢
 cases hq:Z1f obs d with
 | none=>rw[hq] at h; exact h.elim
 | some es=>rw[hq] at h; exact⟨_,_,h.2,fun K' hk=>⟨h.1,hk⟩⟩
theorem ZaL {agg:Bool} {sz id i j sz':Nat} (h:evl P dst (.load agg sz) [.vptr id i j sz'] obs K): ∃ d' nb,K d' nb/\ ∀ K':D->Option Ob->Prop,K' d' nb->evl P dst (.load agg sz) [.vptr id i j sz'] obs K':=by
 simp only[evl] at h ⊢
 cases hq:obs id with
 | none=>rw[hq] at h; exact h.elim
 | some o =>
  rw[hq] at h
  cases o with
  | cells _=>exact h.elim
  | gen _ _=>exact h.elim
  | arr fz sz2 e es =>
   cases fz with
   | true=>exact h.elim
   | false =>
    simp only at h ⊢
    have h2:=h.2.2
    cases hi:es[i]? with
    | none=>rw[hi] at h2; exact h2.elim
    | some cs =>
     rw[hi] at h2
     cases agg with
     | true=>exact⟨_,_,h2,fun K' hk=>⟨h.1,h.2.1,hk⟩⟩
     | false =>
      simp only[Bool.false_eq_true,if_false] at h2 ⊢
      cases hj:cs[j]? with
      | none=>rw[hj] at h2; exact h2.elim
      | some d=>rw[hj] at h2; exact⟨_,_,h2,fun K' hk=>⟨h.1,h.2.1,hk⟩⟩
theorem Z7x {kd:Option IntKind} {z key:D} {id:Nat} (h:evl P dst (.mlook kd z) [.map id,key] obs K): ∃ d' nb,K d' nb/\ ∀ K':D->Option Ob->Prop,K' d' nb->evl P dst (.mlook kd z) [.map id,key] obs K':=by
 simp only[evl] at h ⊢
 cases hq:obs id with
 | none=>rw[hq] at h; exact h.elim
 | some o =>
  rw[hq] at h
  cases o with
  | cells _=>exact h.elim
  | arr _ _ _ _=>exact h.elim
  | gen g ds =>
   cases g with
   | loop=>exact h.elim
   | mapC=>exact h.elim
   | mapB=>exact h.elim
   | mapS=>exact h.elim
   | iter=>exact h.elim
   | map ks =>
    simp only at h ⊢
    cases hf:Z1y key ks ds with
    | none=>rw[hf] at h; exact h.2.elim
    | some r=>rw[hf] at h; exact⟨_,_,h.2,fun K' hk=>⟨h.1,hk⟩⟩
theorem Z6G {op:AOp} {xs:List D} (h:evl P dst op xs obs K): ∃ d nb,K d nb/\ ∀ K':D->Option Ob->Prop,K' d nb->evl P dst op xs obs K':=by
 by_cases hb:op= .b2s/\ ∃ d,xs=[d]
 ·obtain⟨rfl,d,rfl⟩:=hb; exact Zc9 h
 by_cases hl:(∃ a s,op= .load a s)/\ ∃ a b c d,xs=[.vptr a b c d]
 ·obtain⟨⟨_,_,rfl⟩,_,_,_,_,rfl⟩:=hl; exact ZaL h
 by_cases hlm:(∃ a s,op= .mlook a s)/\ ∃ a b,xs=[.map a,b]
 ·obtain⟨⟨_,_,rfl⟩,_,_,rfl⟩:=hlm; exact Z7x h
 unfold evl at h
 split at h
 all_goals try exact absurd ⟨rfl,_,rfl⟩ hb
 all_goals try exact absurd ⟨⟨_,_,rfl⟩,_,_,_,_,rfl⟩ hl
 all_goals try exact absurd ⟨⟨_,_,rfl⟩,_,_,rfl⟩ hlm
 all_goals clear hb hl hlm
 all_goals try simp only[evl]
 all_goals first
  | exact h.elim
  | (obtain⟨d,hk,hK⟩:=Z9U h.2; exact⟨d,none,hk,fun K' hk'=>⟨h.1,hK _ hk'⟩⟩)
  | (obtain⟨d,hk,hK⟩:=Z9S h; exact⟨d,none,hk,fun K' hk'=>hK _ hk'⟩)
  | exact⟨_,_,h,fun K' hk=>hk⟩
  | exact⟨_,_,h.2,fun K' hk=>⟨h.1,hk⟩⟩
  | exact⟨_,_,h.2.2,fun K' hk=>⟨h.1,h.2.1,hk⟩⟩
  | exact⟨_,_,h.2.2.2,fun K' hk=>⟨h.1,h.2.1,h.2.2.1,hk⟩⟩
  | skip
 all_goals first
  | (obtain⟨r,hr,hk'⟩:=h; cases r <;> exact⟨_,_,hk',fun K' hk=>⟨_,hr,hk⟩⟩)
  | skip
 all_goals
  repeat' split at h
 all_goals first
  | exact h.elim
  | exact⟨_,_,h,fun K' hk=>by simp only[*]; exact hk⟩
  | exact⟨_,_,h,fun K' hk=>by simp[*]⟩
  | exact⟨_,_,h.2,fun K' hk=>by simp only[*]; exact⟨h.1,hk⟩⟩
  | exact⟨_,_,h.2,fun K' hk=>by simp only[*]; exact⟨trivial,hk⟩⟩
  | exact⟨_,_,h.2.2,fun K' hk=>by simp only[*]; exact⟨h.1,h.2.1,hk⟩⟩
  | exact⟨_,_,h.2.2.2,fun K' hk=>by simp only[*]; exact⟨h.1,h.2.1,h.2.2.1,hk⟩⟩
  | exact⟨_,_,h.2.2.2.2,fun K' hk=>by simp only[*]; exact⟨h.1,h.2.1,h.2.2.1,h.2.2.2.1,hk⟩⟩
  | skip
 all_goals first
  | exact⟨_,_,h.2,fun K' hk=>⟨h.1,hk⟩⟩
  | exact⟨_,_,h.2.2.2,fun K' hk=>⟨h.1,h.2.1,h.2.2.1,hk⟩⟩
  | exact⟨_,_,h.2.2.2.2,fun K' hk=>⟨h.1,h.2.1,h.2.2.1,h.2.2.2.1,hk⟩⟩
  | (rename_i hag; subst hag; exact⟨_,_,h.2,fun K' hk=>⟨h.1,hk⟩⟩)
end
def repl (t:Nat) (d:D):Env->Env
 | []=>[]
 | (j,x)::r=>if t=j then (j,d)::r else (j,x)::repl t d r
theorem Z0f {t:Nat} {d:D}: ∀ {l:Env},lk l t=some d->repl t d l=l
 | [],h=>by cases h
 | (j,x)::r,h=>by
  simp only[lk] at h
  simp only[repl]
  split at h
  ·rename_i hj; cases h; rw[if_pos hj]
  ·rename_i hj; rw[if_neg hj,Z0f h]
def gudT (g:Option (Nat × Bool)) (s:St) (body skip:St->Tr):Tr:=match g with
 | none=>body s
 | some (t,want)=>match lk s.tm t with
  | some (.bool b)=>match want with
   | true=>brT b (body ⟨repl t (.bool true) s.tm,s.ob⟩) (skip ⟨repl t (.bool false) s.tm,s.ob⟩)
   | false=>brT b (skip ⟨repl t (.bool true) s.tm,s.ob⟩) (body ⟨repl t (.bool false) s.tm,s.ob⟩)
  | some (.tuple [])=>skip s
  | _=> .bad
section
variable {R:D->Obs->Prop} {J:List Fr->St->Prop} {P:Program}
theorem QD {g:Option (Nat × Bool)} {s:St} {body skip:St->Tr} (h:(gudT g s body skip).ok R J):((body s).ok R J/\ ∀ p q:Prop,p->gud g s p q)\/((skip s).ok R J/\ ∀ p q:Prop,q->gud g s p q):=by
 cases g with
 | none=>exact .inl ⟨h,fun p q hp=>hp⟩
 | some gw =>
  obtain⟨t,w⟩:=gw
  simp only[gudT] at h
  simp only[gud]
  split at h
  ·rename_i b heq
   rw[heq]
   split at h
   ·rcases Z4E h with ⟨rfl,h⟩ | ⟨rfl,h⟩
    ·rw[Z0f heq] at h; exact .inl ⟨h,fun p q hp=>by simpa using hp⟩
    ·rw[Z0f heq] at h; exact .inr ⟨h,fun p q hp=>by simpa using hp⟩
   ·rcases Z4E h with ⟨rfl,h⟩ | ⟨rfl,h⟩
    ·rw[Z0f heq] at h; exact .inr ⟨h,fun p q hp=>by simpa using hp⟩
    ·rw[Z0f heq] at h; exact .inl ⟨h,fun p q hp=>by simpa using hp⟩
  ·rename_i heq; rw[heq]; exact .inr ⟨h,fun p q hp=>hp⟩
  ·exact h.elim
end
def stT0 (sz:SK) (x y:D) (obs:Nat->Option Ob) (K:Nat->Ob->Tr):Tr:=match stO sz x y obs with
 | some (a,b,id,o)=>match x with
  | .ptr .. => K id o
  | .map .. => K id o
  | _=> .owe (a<b) (K id o)
 | none=> .bad
theorem ZdV {sz:SK} {a b id i off:Nat} {y:D} {o:Ob} {obs:Nat->Option Ob} (h:stO sz (.ptr i off) y obs=some (a,b,id,o)):a<b:=by
 unfold stO at h
 cases sz with
 | m key=>cases h
 | k kd x=>cases h
 | cp _ _=>cases h
 | c sz =>
 simp only at h
 split at h
 ·split at h
  ·cases h; decide
  ·cases h
 ·cases h
theorem ZdW {sz:SK} {a b id i:Nat} {y:D} {o:Ob} {obs:Nat->Option Ob} (h:stO sz (.map i) y obs=some (a,b,id,o)):a<b:=by
 unfold stO at h
 cases sz with
 | c sz=>cases h
 | k kd x=>cases h
 | cp _ _=>cases h
 | m key =>
 simp only at h
 split at h
 ·split at h
  ·cases h; decide
  ·cases h
 ·split at h
  ·split at h
   ·cases h; decide
   ·cases h
  ·cases h
 ·cases h
theorem Z8f {sz:SK} {x y:D} {obs:Nat->Option Ob} {K:Nat->Ob->Tr} {R:D->Obs->Prop} {J:List Fr->St->Prop} (h:(stT0 sz x y obs K).ok R J): ∃ a b id o,stO sz x y obs=some (a,b,id,o)/\a<b/\(K id o).ok R J:=by
 unfold stT0 at h
 split at h
 ·rename_i a b id o hst
  split at h
  ·exact⟨_,_,id,o,hst,ZdV hst,h⟩
  ·exact⟨_,_,id,o,hst,ZdW hst,h⟩
  ·exact⟨_,_,id,o,hst,h.1,h.2⟩
 ·exact h.elim
def xN:X->Nat
 | .t n=>n
 | .c _=>0
def stT (tb:Ctr) (n:Nat) (sz:SK) (x y:D) (obs:Nat->Option Ob) (K:Nat->Ob->Tr):Tr:=match tb.E n (-1) with
 | [.agg ks',.agg ds']=>(match x with
  | .map id=>match sz with
   | .m key=>match obs id with
    | some (.gen (.map ks) ds)=> .owe (mput key y ks ds=some (ks',ds')) (K id (.gen (.map ks') ds'))
    | some (.gen (.mapC ks cs) [])=>if Z0B y=true then .owe (mput key y ks cs=some (ks',ds')) (K id (.gen (.mapC ks' ds') [])) else .bad
    | _=> .bad
   | _=> .bad
  | _=>stT0 sz x y obs K)
 | _=>stT0 sz x y obs K
theorem Zcw {tb:Ctr} {n:Nat} {sz:SK} {x y:D} {obs:Nat->Option Ob} {K:Nat->Ob->Tr} {R:D->Obs->Prop} {J:List Fr->St->Prop} (h:(stT tb n sz x y obs K).ok R J): ∃ a b id o,stO sz x y obs=some (a,b,id,o)/\a<b/\(K id o).ok R J:=by
 unfold stT at h
 split at h
 ·split at h
  ·split at h
   ·split at h
    ·rename_i heq
     refine⟨0,1,_,_, ?_,by decide,h.2⟩
     simp only[stO,heq,h.1]
    ·rename_i heq
     split at h
     ·rename_i hv
      refine⟨0,1,_,_, ?_,by decide,h.2⟩
      simp only[stO,heq,if_pos hv,h.1]
     ·exact h.elim
    ·exact h.elim
   ·exact h.elim
  ·exact Z8f h
 ·exact Z8f h
def panT (r:D) (Kp:Value->Tr) (K:Tr):Tr:=match r with
 | .pan v=>Kp v
 | _=>K
theorem Z3t {R:D->Obs->Prop} {J:List Fr->St->Prop} {r:D} {Kp:Value->Tr} {K:Tr} (h:(panT r Kp K).ok R J):(r.isPan=false/\K.ok R J)\/ ∃ v,r= .pan v/\(Kp v).ok R J:=by
 cases r <;> first | exact .inl ⟨rfl,h⟩ | exact .inr ⟨_,rfl,h⟩
def opT (tb:Ctr) (b:Nat) (o:SOp) (s:St) (K:St->Tr):Tr :=
 match o with
 | .a dst g op xs=>gudT g s (fun s=>evT tb (dst.getD 0) (b+dst.getD 0) op (xs.map s.get) (lk s.ob) fun d nb=>match nb with
   | none=>K (s.put dst d)
   | some ob=>match dst with
    | some t=>if s.clean (b+t)=true then K (s.put2 t (b+t) d ob) else .bad
    | none=> .bad) (fun s=>K (s.put dst .nov))
 | .st g sz x y=>gudT g s (fun s=>stT tb (xN x) (sz.at s) (s.get x) (s.get y) (lk s.ob) fun id o=>K { s with ob:=(id,o)::Z6 id s.ob }) (fun s=>K s)
 | .app dst g fz sz et x y=>gudT g s (fun s=>match Z2y (lk s.ob) (s.get y) with
   | some (ys,_)=>(match s.get x with
    | .nils=>if s.clean (b+dst)=true then .owe (Zc sz ys/\ys.length<=1073741824) (K (s.put2 dst (b+dst) (.vec (b+dst)) (.arr fz sz et ys))) else .bad
    | .vec id=>match lk s.ob id with
     | some (.arr fz' sz' e' es)=>if sz'=sz/\e'=et/\s.clean (b+dst)=true then .owe (Zc sz ys/\es.length+ys.length<=1073741824) (K (St.put2 ⟨s.tm,Z6 id s.ob⟩ dst (b+dst) (.vec (b+dst)) (.arr fz' sz et (es++ys)))) else .bad
     | _=> .bad
    | _=> .bad)
   | none=> .bad) (fun s=>K (s.put (some dst) .nov))
 | .cd dst g x xs=>gudT g s
   (fun s =>
     let az:=xs.map fun y=>dva (s.get x) (lk s.ob) (s.get y)
     let nm:=Z10 s (s.get x::az)
     if Z03 nm=true then (match tb.C (dst.getD 0) ((s.get x).ren (idx · nm)) (az.map (D.ren (idx · nm))) (ZI s.ob (idx · nm) 0 nm) with
      | some rt=>rtT rt fun r ob'=>panT r (fun _=> .bad) (K ((s.back (s.base b) nm ob').put dst (r.ren (bkN (s.base b) nm))))
      | none=> .bad) else .bad)
   (fun s=>K (s.put dst .nov))
section
variable {R:D->Obs->Prop} {J:List Fr->St->Prop} {P:Program}
theorem ZcK {tb:Ctr} (htb:tb.OK P) {b:Nat} {o:SOp} {s:St} {K:St->Tr} (h:(opT tb b o s K).ok R J): ∃ s',(∀ K':St->Prop,K' s'->stp P b o s K')/\(K s').ok R J:=by
 cases o with
 | a dst g op xs =>
  simp only[opT] at h
  rcases QD h with ⟨h,hg⟩ | ⟨h,hg⟩
  ·obtain⟨d,nb,hk,hK⟩:=Z6G (Zd2 htb h)
   cases nb with
   | none=>exact⟨s.put dst d,fun K' hk'=>hg _ _ (hK _ hk'),hk⟩
   | some ob =>
    cases dst with
    | none=>exact hk.elim
    | some t =>
     simp only at hk
     split at hk
     ·rename_i hc; exact⟨_,fun K' hk'=>hg _ _ (hK _ ⟨hc,hk'⟩),hk⟩
     ·exact hk.elim
  ·exact⟨_,fun K' hk'=>hg _ _ hk',h⟩
 | st g sz x y =>
  simp only[opT] at h
  rcases QD h with ⟨h,hg⟩ | ⟨h,hg⟩
  ·obtain⟨a1,b1,id,ob,hst,hab,h⟩:=Zcw h
   exact⟨_,fun K' hk'=>hg _ _ (by simp only[hst]; exact⟨hab,hk'⟩),h⟩
  ·exact⟨_,fun K' hk'=>hg _ _ hk',h⟩
 | app dst g fz sz et x y =>
  simp only[opT] at h
  rcases QD h with ⟨h,hg⟩ | ⟨h,hg⟩
  ·split at h
   ·rename_i ys ext hso
    split at h
    ·rename_i hx
     split at h
     ·rename_i hc
      exact⟨_,fun K' hk'=>hg _ _ (by simp only[hx,hso]; exact⟨h.1.1,h.1.2,hc,hk'⟩),h.2⟩
     ·exact h.elim
    ·rename_i id hx
     split at h
     ·rename_i fz' sz' e' es hl
      split at h
      ·rename_i hc
       exact⟨_,fun K' hk'=>hg _ _ (by simp only[hx,hso,hl]; exact⟨h.1.1,hc.1,hc.2.1,h.1.2,hc.2.2,hk'⟩),h.2⟩
      ·exact h.elim
     ·exact h.elim
    ·exact h.elim
   ·exact h.elim
  ·exact⟨_,fun K' hk'=>hg _ _ hk',h⟩
 | cd dst g x xs =>
  simp only[opT] at h
  rcases QD h with ⟨h,hg⟩ | ⟨h,hg⟩
  ·split at h
   ·rename_i hnd
    split at h
    ·rename_i rt hrt
     obtain⟨r,ob',hc,hk⟩:=Z1X (htb.C _ _ _ _ _ hrt) h
     have hb:b+4096<=s.base b:=Nat.le_max_left ..
     have ht:s.top<=s.base b:=Nat.le_max_right ..
     rcases Z3t hk with ⟨hpn,hk⟩ | ⟨_,_,hk⟩
     ·exact⟨_,fun K' hk'=>hg _ _ ⟨_,_,s.base b,Zm hnd,fun i hi=>ZB i hi,hb,ht,hc,fun r0 ob0 hr=>by rw[hr.1,hr.2]; exact⟨hpn,hk'⟩⟩,hk⟩
     ·exact hk.elim
    ·exact h.elim
   ·exact h.elim
  ·exact⟨_,fun K' hk'=>hg _ _ hk',h⟩
end
def opsT (tb:Ctr) (b:Nat):List SOp->St->(St->Tr)->Tr
 | [],s,K=>K s
 | o::l,s,K=>opT tb b o s fun s=>opsT tb b l s K
def hasT (tb:Ctr) (b:Nat) (o:SOp) (s:St) (K:St->Eff->Tr):Tr :=
 match o with
 | .a dst g op xs=>gudT g s (fun s=>evT tb (dst.getD 0) (b+dst.getD 0) op (xs.map s.get) (lk s.ob) fun d nb=>match nb with
   | none=>K s ⟨rdA (lk s.ob) op (xs.map s.get),dst.map (·,d),[],none⟩
   | some ob=>if dst.isSome then K s ⟨rdA (lk s.ob) op (xs.map s.get),dst.map (·,d),[(b+dst.getD 0,some ob)],none⟩ else .bad) (fun s=>K s ⟨[],dst.map (·,.nov),[],none⟩)
 | .st g sz x y=>gudT g s (fun s=>stT tb (xN x) (sz.at s) (s.get x) (s.get y) (lk s.ob) fun id o=>K s ⟨[id],none,[(id,some o)],none⟩) (fun s=>K s ⟨[],none,[],none⟩)
 | .app dst g fz sz et x y=>gudT g s (fun s=>match Z2y (lk s.ob) (s.get y) with
   | some (ys,_)=>(match s.get x with
    | .nils=> .owe (Zc sz ys/\ys.length<=1073741824) (K s ⟨vids [s.get y],some (dst,.vec (b+dst)),[(b+dst,some (.arr fz sz et ys))],none⟩)
    | .vec id=>match lk s.ob id with
     | some (.arr fz' sz' e' es)=>if sz'=sz/\e'=et then .owe (Zc sz ys/\es.length+ys.length<=1073741824) (K s ⟨id::vids [s.get y],some (dst,.vec (b+dst)),[(b+dst,some (.arr fz' sz et (es++ys))),(id,none)],none⟩) else .bad
     | _=> .bad
    | _=> .bad)
   | none=> .bad) (fun s=>K s ⟨[],some (dst,.nov),[],none⟩)
 | .cd dst g x xs=>gudT g s
   (fun s =>
     let az:=xs.map fun y=>dva (s.get x) (lk s.ob) (s.get y)
     let nm:=Z10 s (s.get x::az)
     if Z03 nm=true then (match tb.C (dst.getD 0) ((s.get x).ren (idx · nm)) (az.map (D.ren (idx · nm))) (ZI s.ob (idx · nm) 0 nm) with
      | some rt=>rtT rt fun r ob'=>panT r (fun _=> .bad) (K s ⟨nm++vids (xs.map s.get),dst.map (·,r.ren (bkN (s.base b) nm)),(renO (fun j=>match nm[j]? with | some i=>i | none=>s.base b+j) (bkN (s.base b) nm) ob').map (fun p=>(p.1,some p.2))++nm.map (·,none),some (s.base b)⟩)
      | none=> .bad) else .bad)
   (fun s=>K s ⟨[],dst.map (·,.nov),[],none⟩)
def caT (tb:Ctr) (b:Nat):List SOp->St->(List Eff->St->Tr)->Tr
 | [],s,K=>K [] s
 | o::l,s,K=>hasT tb b o s fun s e=>caT tb b l (s.app e) fun es s=>K (e::es) s
section
variable {R:D->Obs->Prop} {J:List Fr->St->Prop} {P:Program}
theorem Z22 {tb:Ctr} (htb:tb.OK P) {b:Nat} {K:St->Tr}: ∀ {ops:List SOp} {s:St},(opsT tb b ops s K).ok R J-> ∃ s',(∀ K':St->Prop,K' s'->stps P b ops s K')/\(K s').ok R J
 | [],s,h=>⟨s,fun K' hk=>hk,h⟩
 | o::l,s,h=>by
  obtain⟨s1,h1,hk1⟩:=ZcK htb h
  obtain⟨s2,h2,hk2⟩:=Z22 htb hk1
  exact⟨s2,fun K' hk=>h1 _ (h2 _ hk),hk2⟩
theorem ZfS {tb:Ctr} (htb:tb.OK P) {b:Nat} {o:SOp} {s:St} {K:St->Eff->Tr} (h:(hasT tb b o s K).ok R J): ∃ e,Has P b o s e/\(K s e).ok R J:=by
 cases o with
 | a dst g op xs =>
  simp only[hasT] at h
  rcases QD h with ⟨h,hg⟩ | ⟨h,hg⟩
  ·obtain⟨d,nb,hk,hK⟩:=Z6G (Zd2 htb h)
   cases nb with
   | none=>exact⟨_,hg _ _ ⟨rfl,rfl,hK _ ⟨rfl,rfl⟩⟩,hk⟩
   | some ob =>
    simp only at hk
    split at hk
    ·rename_i hc; exact⟨_,hg _ _ ⟨rfl,rfl,hK _ ⟨rfl,hc,rfl⟩⟩,hk⟩
    ·exact hk.elim
  ·exact⟨_,hg _ _ rfl,h⟩
 | st g sz x y =>
  simp only[hasT] at h
  rcases QD h with ⟨h,hg⟩ | ⟨h,hg⟩
  ·obtain⟨a1,b1,id,ob,hst,hab,h⟩:=Zcw h
   exact⟨_,hg _ _ (by simp only[HasB,hst]; exact⟨hab,trivial⟩),h⟩
  ·exact⟨_,hg _ _ rfl,h⟩
 | app dst g fz sz et x y =>
  simp only[hasT] at h
  rcases QD h with ⟨h,hg⟩ | ⟨h,hg⟩
  ·split at h
   ·rename_i ys ext hso
    split at h
    ·rename_i hx
     exact⟨_,hg _ _ (by simp only[HasB,hx,hso]; exact⟨h.1.1,h.1.2,trivial⟩),h.2⟩
    ·rename_i id hx
     split at h
     ·rename_i fz' sz' e' es hl
      split at h
      ·rename_i hc
       exact⟨_,hg _ _ (by simp only[HasB,hx,hso,hl]; exact⟨h.1.1,hc.1,hc.2,h.1.2,trivial⟩),h.2⟩
      ·exact h.elim
     ·exact h.elim
    ·exact h.elim
   ·exact h.elim
  ·exact⟨_,hg _ _ rfl,h⟩
 | cd dst g x xs =>
  simp only[hasT] at h
  rcases QD h with ⟨h,hg⟩ | ⟨h,hg⟩
  ·split at h
   ·rename_i hnd
    split at h
    ·rename_i rt hrt
     obtain⟨r,ob',hc,hk⟩:=Z1X (htb.C _ _ _ _ _ hrt) h
     have hb:b+4096<=s.base b:=Nat.le_max_left ..
     rcases Z3t hk with ⟨hpn,hk⟩ | ⟨_,_,hk⟩
     ·exact⟨_,hg _ _ ⟨_,r,ob',s.base b,Zm hnd,fun i hi=>ZB i hi,hb,hc,hpn,rfl⟩,hk⟩
     ·exact hk.elim
    ·exact h.elim
   ·exact h.elim
  ·exact⟨_,hg _ _ rfl,h⟩
theorem Zd6 {tb:Ctr} (htb:tb.OK P) {b:Nat}: ∀ {ops:List SOp} {s:St} {K:List Eff->St->Tr},(caT tb b ops s K).ok R J-> ∃ es s',Z4K P b ops s es s'/\(K es s').ok R J
 | [],s,K,h=>⟨[],s,rfl,h⟩
 | o::l,s,K,h=>by
  obtain⟨e,h1,hk1⟩:=ZfS htb h
  obtain⟨es,s2,h2,hk2⟩:=Zd6 htb hk1
  exact⟨e::es,s2,⟨h1,h2⟩,hk2⟩
end
def opXT (tb:Ctr) (b:Nat) (o:SOp) (s:St) (K:St->Tr) (Kp:Value->St->Tr):Tr :=
 match o with
 | .cd dst g x xs=>gudT g s
   (fun s =>
     let az:=xs.map fun y=>dva (s.get x) (lk s.ob) (s.get y)
     let nm:=Z10 s (s.get x::az)
     if Z03 nm=true then (match tb.C (dst.getD 0) ((s.get x).ren (idx · nm)) (az.map (D.ren (idx · nm))) (ZI s.ob (idx · nm) 0 nm) with
      | some rt=>rtT rt fun r ob'=>panT r (fun v=>Kp v (s.back (s.base b) nm ob')) (K ((s.back (s.base b) nm ob').put dst (r.ren (bkN (s.base b) nm))))
      | none=> .bad) else .bad)
   (fun s=>K (s.put dst .nov))
 | .a none g .pnk [x]=>gudT g s (fun s=>match s.get x with
   | .raw v=>(match v with
    | .iface t u=>Kp (.iface t u) s
    | _=> .bad)
   | _=> .bad) (fun s=>K s)
 | o=>opT tb b o s K
def Zfk (tb:Ctr) (b:Nat):List SOp->St->(St->Tr)->(Value->St->Tr)->Tr
 | [],s,K,_=>K s
 | o::l,s,K,Kp=>opXT tb b o s (fun s=>Zfk tb b l s K Kp) Kp
section
variable {R:D->Obs->Prop} {J:List Fr->St->Prop} {P:Program}
theorem Zfn {tb:Ctr} (htb:tb.OK P) {b:Nat} {o:SOp} {s:St} {K:St->Tr} {Kp:Value->St->Tr} (h:(opXT tb b o s K Kp).ok R J) :
  (∃ s',(∀ (Kn:St->Prop) (Kq:Value->St->Prop),Kn s'->stpX P b o s Kn Kq)/\(K s').ok R J)\/ ∃ v s',(∀ (Kn:St->Prop) (Kq:Value->St->Prop),Kq v s'->stpX P b o s Kn Kq)/\(Kp v s').ok R J:=by
 have usual:(opT tb b o s K).ok R J-> ∃ s',(∀ (Kn:St->Prop) (Kq:Value->St->Prop),Kn s'->stpX P b o s Kn Kq)/\(K s').ok R J:=fun h=>by
  obtain⟨s',h1,h2⟩:=ZcK htb h
  exact⟨s',fun Kn Kq hk=>Z8c (h1 Kn hk),h2⟩
 cases o with
 | st g sz x y=>exact .inl (usual h)
 | app dst g fz sz e x y=>exact .inl (usual h)
 | cd dst g x xs =>
  simp only[opXT] at h
  rcases QD h with ⟨h,hg⟩ | ⟨h,hg⟩
  ·split at h
   ·rename_i hnd
    split at h
    ·rename_i rt hrt
     obtain⟨r,ob',hc,hk⟩:=Z1X (htb.C _ _ _ _ _ hrt) h
     have hb:b+4096<=s.base b:=Nat.le_max_left ..
     have ht:s.top<=s.base b:=Nat.le_max_right ..
     rcases Z3t hk with ⟨hpn,hk⟩ | ⟨v,rfl,hk⟩
     ·exact .inl ⟨_,fun K' Kq hk'=>hg _ _ ⟨_,_,s.base b,Zm hnd,fun i hi=>ZB i hi,hb,ht,hc,fun r0 ob0 hr=> .inl (by rw[hr.1,hr.2]; exact⟨hpn,hk'⟩)⟩,hk⟩
     ·exact .inr ⟨v,_,fun K' Kq hk'=>hg _ _ ⟨_,_,s.base b,Zm hnd,fun i hi=>ZB i hi,hb,ht,hc,fun r0 ob0 hr=> .inr ⟨v,hr.1,by rw[hr.2]; exact hk'⟩⟩,hk⟩
    ·exact h.elim
   ·exact h.elim
  ·exact .inl ⟨_,fun K' Kq hk'=>hg _ _ hk',h⟩
 | a dst g op xs =>
  by_cases hq:dst=none/\op= .pnk/\ ∃ x,xs=[x]
  ·obtain⟨rfl,rfl,x,rfl⟩:=hq
   simp only[opXT] at h
   rcases QD h with ⟨h,hg⟩ | ⟨h,hg⟩
   ·split at h
    ·rename_i v hv
     split at h
     ·rename_i t u
      exact .inr ⟨_,s,fun K' Kq hk'=>hg _ _ ⟨t,u,hv,hk'⟩,h⟩
     ·exact h.elim
    ·exact h.elim
   ·exact .inl ⟨s,fun K' Kq hk'=>hg _ _ hk',h⟩
  ·refine .inl (usual ?_)
   cases dst with
   | some d=>exact h
   | none=>cases op <;> first | exact h | (cases xs with
     | nil=>exact h
     | cons x r=>cases r with
      | nil=>exact absurd ⟨rfl,rfl,x,rfl⟩ hq
      | cons _ _=>exact h)
theorem Z6e {tb:Ctr} (htb:tb.OK P) {b:Nat} {K:St->Tr} {Kp:Value->St->Tr}: ∀ {ops:List SOp} {s:St},(Zfk tb b ops s K Kp).ok R J →
  (∃ s',(∀ (Kn:St->Prop) (Kq:Value->St->Prop),Kn s'->Z1e P b ops s Kn Kq)/\(K s').ok R J)\/ ∃ v s',(∀ (Kn:St->Prop) (Kq:Value->St->Prop),Kq v s'->Z1e P b ops s Kn Kq)/\(Kp v s').ok R J
 | [],s,h=> .inl ⟨s,fun _ _ hk=>hk,h⟩
 | o::l,s,h=>by
  rcases Zfn htb h with ⟨s1,h1,hk1⟩ | ⟨v,s1,h1,hk1⟩
  ·rcases Z6e htb hk1 with ⟨s2,h2,hk2⟩ | ⟨v,s2,h2,hk2⟩
   ·exact .inl ⟨s2,fun Kn Kq hk=>h1 _ _ (h2 _ _ hk),hk2⟩
   ·exact .inr ⟨v,s2,fun Kn Kq hk=>h1 _ _ (h2 _ _ hk),hk2⟩
  ·exact .inr ⟨v,s1,fun Kn Kq hk=>h1 _ _ hk,hk1⟩
end
end Go.Sx
namespace Go.Sx
open Go.RowKit
variable [Globs] [Codes]
def swF (P:Program):Nat->Nat->List Fr->St->(Exit->St->Prop)->Prop
 | 0,_,_,_,_=>False
 | n+1,bs,K,s,Q=>match K with
  | []=>Q .normal s
  | .blk _::K=>swF P n bs K s Q
  | .sc c::K=>match c with
   | .skip=>swF P n bs K s Q
   | .ret=>Q .ret s
   | .exit i=>match Z0g i K with
    | some K'=>swF P n bs K' s Q
    | none=>Q (.exit i) s
   | .reg ops=>stps P (s.nx bs) ops s fun s'=>swF P n bs K s' Q
   | .drw pre ops=> ∃ es s',Z4K P (s.nx bs) ops s es s'/\dchk (s.nx bs) pre ops es s=true/\swF P n bs K s' Q
   | .seq a b=>swF P n bs (.sc a:: .sc b::K) s Q
   | .cond x a b=>match s.get x with
    | .bool t=>swF P n bs (.sc (if t=true then a else b)::K) s Q
    | _=>False
   | .block id c=>swF P n bs (.sc c:: .blk id::K) s Q
   | .loop ts c=>swF P n bs (.sc c:: .sc (.loop ts c)::K) (s.canon bs ts) Q
   | .spec k=>spS P bs k (fun e s'=>match e with
    | .normal=>swF P n bs K s' Q
    | .ret=>Q .ret s'
    | .exit i=>match Z0g i K with
     | some K'=>swF P n bs K' s' Q
     | none=>Q (.exit i) s'
    | .panic c=>Q (.panic c) s'
    | _=>False) s
   | .rangeF N g ps a b=>sw P bs (.rangeF N g ps a b) (fun e s'=>match e with
    | .normal=>swF P n bs K s' Q
    | .ret=>Q .ret s'
    | .exit i=>match Z0g i K with
     | some K'=>swF P n bs K' s' Q
     | none=>Q (.exit i) s'
    | .panic c=>Q (.panic c) s'
    | _=>False) s
section
variable {P:Program}
def Zfc (P:Program) (m bs:Nat) (K:List Fr) (ex:Exit) (s:St) (Q:Exit->St->Prop):Prop:=match ex with
 | .normal=>swF P m bs K s Q
 | .ret=>Q .ret s
 | .exit i=>match Z0g i K with
  | some K'=>swF P m bs K' s Q
  | none=>Q (.exit i) s
 | .panic c=>Q (.panic c) s
 | _=>False
theorem Z89: ∀ (n bs:Nat) (c:SC) (K:List Fr) (s:St) (Q:Exit->St->Prop),swF P n bs (.sc c::K) s Q->sw P bs c (fun ex s1=> ∃ m,m<n/\Zfc P m bs K ex s1 Q) s:=by
 intro n
 induction n using Nat.strongRecOn with
 | _ n ih =>
  intro bs c K s Q h
  cases n with
  | zero=>cases h
  | succ n =>
   cases c with
   | spec k =>
    simp only[swF] at h
    exact Z1E (Q:=fun e s'=>match e with
     | .normal=>swF P n bs K s' Q
     | .ret=>Q .ret s'
     | .exit i=>match Z0g i K with
      | some K'=>swF P n bs K' s' Q
      | none=>Q (.exit i) s'
     | .panic c=>Q (.panic c) s'
     | _=>False) h fun ex s1 hr=>⟨n,Nat.lt_succ_self n,by cases ex <;> exact hr⟩
   | skip=>exact⟨n,Nat.lt_succ_self n,h⟩
   | ret=>exact⟨n,Nat.lt_succ_self n,h⟩
   | exit i=>exact⟨n,Nat.lt_succ_self n,h⟩
   | reg ops=>exact Z09 (K:=fun s'=>swF P n bs K s' Q) h fun s' hs'=>⟨n,Nat.lt_succ_self n,hs'⟩
   | drw pre ops =>
    obtain⟨es,s',h1,h2,h3⟩:=h
    exact⟨es,s',h1,h2,n,Nat.lt_succ_self n,h3⟩
   | seq a b =>
    show sw P bs a (thenS (sw P bs b _) _) s
    refine Zu (ih n (Nat.lt_succ_self n) bs a _ s Q h) fun ex s1 ⟨m,hm,hr⟩=> ?_
    cases ex <;> simp only[thenS]
    ·exact Zu (ih m (by omega) bs b K s1 Q hr) fun ex s2 ⟨m',hm',hr'⟩=>⟨m',by omega,hr'⟩
    ·exact⟨m,by omega,hr⟩
    ·exact hr.elim
    ·exact⟨m,by omega,hr⟩
    all_goals first | exact⟨m,by omega,hr⟩ | exact hr.elim
   | cond x a b =>
    simp only[swF] at h
    simp only[sw]
    split at h
    ·rename_i t hx
     cases t
     ·rw[if_neg (by simp)] at h
      rw[hx]
      simp only[Bool.false_eq_true,if_false]
      exact Zu (ih n (Nat.lt_succ_self n) bs b K s Q h) fun ex s1 ⟨m,hm,hr⟩=>⟨m,by omega,hr⟩
     ·rw[if_pos rfl] at h
      rw[hx]
      simp only[if_true]
      exact Zu (ih n (Nat.lt_succ_self n) bs a K s Q h) fun ex s1 ⟨m,hm,hr⟩=>⟨m,by omega,hr⟩
    ·exact h.elim
   | block id c =>
    show sw P bs c (Qy id _) s
    refine Zu (ih n (Nat.lt_succ_self n) bs c _ s Q h) fun ex s1 ⟨m,hm,hr⟩=> ?_
    cases ex <;> simp only[Qy]
    ·cases m with
     | zero=>cases hr
     | succ m=>exact⟨m,by omega,hr⟩
    ·rename_i i
     simp only[Zfc,Z0g] at hr
     split
     ·rename_i hi; rw[if_pos hi] at hr; exact⟨m,by omega,hr⟩
     ·rename_i hi; rw[if_neg hi] at hr; exact⟨m,by omega,hr⟩
    ·exact hr.elim
    ·exact⟨m,by omega,hr⟩
    all_goals first | exact⟨m,by omega,hr⟩ | exact hr.elim
   | loop ts c =>
    refine⟨ts,fun k s'=>k<=n/\swF P k bs (.sc c:: .sc (.loop ts c)::K) s' Q,⟨n,Nat.le_refl _,h⟩,fun k s' hk=> ?_⟩
    refine Zu (ih k (by omega) bs c _ s' Q hk.2) fun ex s1 ⟨m,hm,hr⟩=> ?_
    cases ex <;> simp only[thenS]
    ·cases m with
     | zero=>cases hr
     | succ m=>exact⟨m,by omega,by omega,hr⟩
    ·exact⟨m,by omega,hr⟩
    ·exact hr.elim
    ·exact⟨m,by omega,hr⟩
    all_goals first | exact⟨m,by omega,hr⟩ | exact hr.elim
   | rangeF N g ps a b =>
    simp only[swF] at h
    exact Zu h fun ex s1 hr=>⟨n,Nat.lt_succ_self n,by cases ex <;> exact hr⟩
def At (P:Program) (bs:Nat) (K:List Fr) (s:St) (Q:Exit->St->Prop):Prop:= ∃ n,swF P n bs K s Q
theorem CallL.reordG {P:Program} {d:D} {args:List D} {ob:Obs} {R:D->Obs->Prop} (h:CallL P d args ob (fun r0 ob0=>R r0 (Z0N ob0))):CallL P d args ob R:=by
 intro F hF n φ hh w v vs hp hv hvs
 refine (h F hF n φ hh w v vs hp hv hvs).mono ?_
 rintro e w' ⟨r0,ob0,φ',h',hend,hR,ha⟩
 have he: ∀ i,lk (Z0N ob0) i=lk ob0 i:=fun i=>Z1K i ob0
 exact⟨r0,Z0N ob0,φ',h',hend,hR,⟨⟨ha.loc.one,ha.loc.glob.sub fun b ⟨i,hi,hb⟩=>⟨i,by rw[<- he]; exact hi,hb⟩,ha.loc.mem,fun i o ho=>ha.loc.obj i o (by rw[<- he]; exact ho),fun i j b hi hj=>ha.loc.sep i j b (by rw[<- he]; exact hi) (by rw[<- he]; exact hj)⟩,
  ha.ext,ha.new,ha.frame,ha.hfix,ha.os,ha.tape,ha.output,ha.grow⟩⟩
def RE (pu:Bool) (R:D->Obs->Prop):D->Obs->Prop:=match pu with
 | true=>fun d ob=> ∃ r,retE d ob=some r/\R r []
 | false=>fun d ob=>R d (Z0N ob)
def FinQ (pu:Bool) (bs:Nat) (rs:List SR) (R:D->Obs->Prop):Exit->St->Prop:=fun e s=>match e with
 | .normal=> ∃ ds,rs.mapM (resD s)=some ds/\RetL bs (RE pu R) s (QU ds)
 | .ret=> ∃ ds,rs.mapM (resD s)=some ds/\RetL bs (RE pu R) s (QU ds)
 | .panic c=> ∃ v,c=[{ v,recovered:=false }]/\RetL bs (RE pu R) s (.pan v)
 | _=>False
def panF (pu:Bool) (bs:Nat) (c:List PanicEntry) (s:St):Tr:=match c with
 | [⟨v,false,false⟩]=>(match pu with
  | true=> .bad
  | false=> .ret (.pan v) (Z0N (s.fin bs (.pan v)).ob))
 | _=> .bad
def endT (pu:Bool) (bs:Nat) (rs:List SR) (s:St):Tr:=match rs.mapM (resD s) with
 | some ds=>match pu with
  | true=>match retE ((s.fin bs (QU ds)).get (.t 0)) (s.fin bs (QU ds)).ob with
   | some r=> .ret r []
   | none=> .bad
  | false=> .ret ((s.fin bs (QU ds)).get (.t 0)) (Z0N (s.fin bs (QU ds)).ob)
 | none=> .bad
def finF (pu:Bool) (bs:Nat) (rs:List SR):Exit->St->Tr:=fun e s=>match e with
 | .normal=>endT pu bs rs s
 | .ret=>endT pu bs rs s
 | .panic c=>panF pu bs c s
 | _=> .bad
def QX (P:Program) (tb:Ctr) (bs:Nat) (fin:Exit->St->Tr) (ih:List Fr->St->Tr):List Fr->St->Tr:=fun K s=>match K with
 | []=>fin .normal s
 | .blk _::K=>ih K s
 | .sc c::K=>match c with
  | .skip=>ih K s
  | .ret=>fin .ret s
  | .exit i=>match Z0g i K with
   | some K'=>ih K' s
   | none=>fin (.exit i) s
  | .reg ops=>opsT tb (s.nx bs) ops s fun s'=>ih K s'
  | .drw pre ops=>caT tb (s.nx bs) ops s fun es s'=>if dchk (s.nx bs) pre ops es s=true then ih K s' else .bad
  | .seq a b=>ih (.sc a:: .sc b::K) s
  | .cond x a b=>match s.get x with
   | .bool t=>brT t (ih (.sc a::K) s) (ih (.sc b::K) s)
   | _=> .bad
  | .block id c=>ih (.sc c:: .blk id::K) s
  | .loop ts c=> .jmp (.sc c:: .sc (.loop ts c)::K) (s.canon bs ts)
  | .spec k=>match k with
   | .frg ts=> .jmp K (s.canon bs ts)
   | .pan ops=>Zfk tb (s.nx bs) ops s (fun s'=>ih K s') (fun v s'=>fin (pnc v) s')
   | _=> .jmp (.sc (.spec k)::K) s
  | .rangeF N g ps a b =>
   let ob1:=rngS P s (s.nx bs) N ps a b
   let nm:=Z10 ⟨s.tm,ob1⟩ [s.get g,.yld (s.nx bs)]
   match s.get g with
   | .func (.func f) fa fc=>if Z03 nm=true/\ZA P f=true then
     (match tb.C 0 ((s.get g).ren (idx · nm)) [(D.yld (s.nx bs)).ren (idx · nm)] (ZI ob1 (idx · nm) 0 nm) with
     | some rt=>rtT rt fun r ob'=>panT r (fun v=>fin (pnc v) ⟨s.tm,Z6 (s.nx bs) (St.back ⟨s.tm,ob1⟩ (s.nx bs+1) nm ob').ob⟩) <|
      let S:=St.back ⟨s.tm,ob1⟩ (s.nx bs+1) nm ob'
      match lk S.ob (s.nx bs) with
      | some (.gen (.loop st pend _ _ _ _ _) _)=>if st= .busy then .bad else (match pend with
       | none=>ih K ⟨s.tm,Z6 (s.nx bs) S.ob⟩
       | some .ret=>fin .ret ⟨s.tm,Z6 (s.nx bs) S.ob⟩
       | some (.exit i)=>match Z0g i K with
        | some K'=>ih K' ⟨s.tm,Z6 (s.nx bs) S.ob⟩
        | none=>fin (.exit i) ⟨s.tm,Z6 (s.nx bs) S.ob⟩
       | _=> .bad)
      | _=> .bad
     | none=> .jmp (.sc (.rangeF N g ps a b)::K) s) else .bad
   | _=> .bad
def goT (P:Program) (tb:Ctr) (bs:Nat) (fin:Exit->St->Tr) (n:Nat):List Fr->St->Tr:=Nat.rec (fun _ _=> .bad) (fun _ ih=>QX P tb bs fin ih) n
theorem ZbD (tb:Ctr) (bs:Nat) (fin:Exit->St->Tr) (n:Nat):goT P tb bs fin (n+1)=QX P tb bs fin (goT P tb bs fin n):=rfl
theorem Z9w {pu:Bool} {bs:Nat} {rs:List SR} {s:St} {R:D->Obs->Prop} {J:List Fr->St->Prop} (h:(endT pu bs rs s).ok R J): ∃ ds,rs.mapM (resD s)=some ds/\RetL bs (RE pu R) s (QU ds):=by
 unfold endT at h
 split at h
 ·rename_i ds hds
  refine⟨ds,hds, ?_⟩
  cases pu with
  | true =>
   simp only at h
   split at h
   ·rename_i r hr; exact⟨r,hr,h⟩
   ·exact h.elim
  | false=>exact h
 ·exact h.elim
theorem QY {pu:Bool} {bs:Nat} {rs:List SR} {R:D->Obs->Prop} {J:List Fr->St->Prop} (e:Exit) (s:St) (h:(finF pu bs rs e s).ok R J):FinQ pu bs rs R e s:=by
 cases e <;> try first | exact Z9w h | exact h.elim
 simp only[finF,panF] at h
 split at h
 ·rename_i v
  cases pu with
  | true=>exact h.elim
  | false=>exact⟨v,rfl,h⟩
 ·exact h.elim
theorem Z1D: ∀ {n m bs:Nat} {K:List Fr} {s:St} {Q:Exit->St->Prop},n<=m->swF P n bs K s Q->swF P m bs K s Q
 | 0,_,_,_,_,_,_,h=>h.elim
 | n+1,0,_,_,_,_,hle,_=>by omega
 | n+1,m+1,bs,K,s,Q,hle,h=>by
  have up: ∀ {K' s'},swF P n bs K' s' Q->swF P m bs K' s' Q:=fun h=>Z1D (by omega) h
  match K,h with
  | [],h=>exact h
  | .blk _::K,h=>exact up h
  | .sc c::K,h =>
   cases c with
   | skip=>exact up h
   | ret=>exact h
   | exit i =>
    simp only[swF] at h ⊢
    split
    ·rename_i hp; rw[hp] at h; exact up h
    ·rename_i hp; rw[hp] at h; exact h
   | reg ops=>exact Z09 (K:=fun s'=>swF P n bs K s' Q) h fun s' hs=>up hs
   | drw pre ops=>obtain⟨es,s',h1,h2,h3⟩:=h; exact⟨es,s',h1,h2,up h3⟩
   | seq a b=>exact up h
   | cond x a b =>
    simp only[swF] at h ⊢
    split at h
    ·exact up h
    ·exact h.elim
   | block id c=>exact up h
   | loop ts c=>exact up h
   | spec k =>
    simp only[swF] at h ⊢
    refine Z1E h fun e s' he=> ?_
    cases e <;> try exact he
    ·exact up he
    ·simp only at he ⊢
     split at he
     ·exact up he
     ·exact he
   | rangeF N g ps a b =>
    simp only[swF] at h ⊢
    refine Zu h fun e s' he=> ?_
    cases e <;> try exact he
    ·exact up he
    ·simp only at he ⊢
     split at he
     ·exact up he
     ·exact he
theorem Tr.ok_mono {R:D->Obs->Prop} {J J':List Fr->St->Prop} (h: ∀ K s,J K s->J' K s): ∀ {T:Tr},T.ok R J->T.ok R J'
 | .ret _ _,ht=>ht
 | .jmp _ _,ht=>h _ _ ht
 | .owe _ x,ht=>⟨ht.1,Tr.ok_mono h ht.2⟩
 | .bad,ht=>ht
theorem Tr.ok_at {R:D->Obs->Prop} {J:List Fr->St->Prop} {A:Nat->List Fr->St->Prop} (h: ∀ K s,J K s-> ∃ n,A n K s): ∀ {T:Tr},T.ok R J-> ∃ n,T.ok R fun K s=>J K s/\A n K s
 | .ret _ _,ht=>⟨0,ht⟩
 | .jmp K s,ht=>by
  obtain⟨n,hn⟩:=h K s ht
  exact⟨n,ht,hn⟩
 | .owe _ x,ht=>by
  obtain⟨n,hn⟩:=Tr.ok_at h ht.2
  exact⟨n,ht.1,hn⟩
 | .bad,ht=>ht.elim
theorem Z7F {tb:Ctr} (htb:tb.OK P) {bs:Nat} {fin:Exit->St->Tr} {R:D->Obs->Prop} {J:List Fr->St->Prop} {Q:Exit->St->Prop} {m:Nat} {ih:List Fr->St->Tr} (hfin: ∀ e s,(fin e s).ok R J->Q e s) (hJ: ∀ K s,J K s->swF P m bs K s Q)
  (up: ∀ {K s},(ih K s).ok R J->swF P m bs K s Q) {K:List Fr} {s:St} (h:(QX P tb bs fin ih K s).ok R J):swF P (m+1) bs K s Q:=by
  match K,h with
  | [],h=>exact hfin _ _ h
  | .blk _::K,h=>exact up h
  | .sc c::K,h =>
   cases c with
   | skip=>exact up h
   | ret=>exact hfin _ _ h
   | exit i =>
    simp only[QX] at h
    split at h
    ·rename_i K' hp
     simp only[swF,hp]; exact up h
    ·rename_i hp
     simp only[swF,hp]; exact hfin _ _ h
   | reg ops =>
    simp only[QX] at h
    obtain⟨s',h1,h2⟩:=Z22 htb h
    exact h1 _ (up h2)
   | drw pre ops =>
    simp only[QX] at h
    obtain⟨es,s',h1,h2⟩:=Zd6 htb h
    split at h2
    ·rename_i hd
     exact⟨es,s',h1,hd,up h2⟩
    ·exact h2.elim
   | seq a b=>exact up h
   | cond x a b =>
    simp only[QX] at h
    split at h
    ·rename_i t hx
     rcases Z4E h with ⟨rfl,h⟩ | ⟨rfl,h⟩
     ·simp only[swF,hx,if_true]; exact up h
     ·simp only[swF,hx]; exact up h
    ·exact h.elim
   | block id c=>exact up h
   | loop ts c =>
    have h1:=hJ _ _ h
    show swF P m bs (.sc c:: .sc (.loop ts c)::K) (s.canon bs ts) Q
    exact h1
   | spec k =>
    cases k with
    | frg ts=>exact hJ _ _ h
    | pan ops =>
     simp only[QX] at h
     rcases Z6e htb h with ⟨s',h1,h2⟩ | ⟨v,s',h1,h2⟩
     ·exact h1 _ _ (up h2)
     ·exact h1 _ _ (hfin _ _ h2)
    | _=>exact Z1D (Nat.le_succ m) (hJ _ _ h)
   | rangeF N g ps a b =>
    simp only[QX] at h
    split at h
    ·rename_i f fa fc hg
     split at h
     ·rename_i hc
      split at h
      ·rename_i rt hrt
       obtain⟨r,ob',hcall,hk⟩:=Z1X (htb.C _ _ _ _ _ hrt) h
       rcases Z3t hk with ⟨hpn,hk⟩ | ⟨v,rfl,hk⟩
       case inr =>
        refine⟨_,_,Zm hc.1,fun i hi=>ZB (s:=⟨s.tm,rngS P s (s.nx bs) N ps a b⟩) i hi,⟨f,fa,fc,hg,hc.2⟩,hcall, ?_⟩
        rintro r0 ob0 ⟨rfl,rfl⟩
        exact .inl ⟨v,rfl,hfin _ _ hk⟩
       split at hk
       ·rename_i st pend _ _ _ _ _ _ hl
        split at hk
        ·exact hk.elim
        ·rename_i hst
         have fin:(match pend with
           | none=>swF P m bs K ⟨s.tm,Z6 (s.nx bs) (St.back ⟨s.tm,rngS P s (s.nx bs) N ps a b⟩ (s.nx bs+1) (Z10 ⟨s.tm,rngS P s (s.nx bs) N ps a b⟩ [s.get g,.yld (s.nx bs)]) ob').ob⟩ Q
           | some .ret=>Q .ret ⟨s.tm,Z6 (s.nx bs) (St.back ⟨s.tm,rngS P s (s.nx bs) N ps a b⟩ (s.nx bs+1) (Z10 ⟨s.tm,rngS P s (s.nx bs) N ps a b⟩ [s.get g,.yld (s.nx bs)]) ob').ob⟩
           | some (.exit i)=>(match Z0g i K with
            | some K'=>swF P m bs K' ⟨s.tm,Z6 (s.nx bs) (St.back ⟨s.tm,rngS P s (s.nx bs) N ps a b⟩ (s.nx bs+1) (Z10 ⟨s.tm,rngS P s (s.nx bs) N ps a b⟩ [s.get g,.yld (s.nx bs)]) ob').ob⟩ Q
            | none=>Q (.exit i) ⟨s.tm,Z6 (s.nx bs) (St.back ⟨s.tm,rngS P s (s.nx bs) N ps a b⟩ (s.nx bs+1) (Z10 ⟨s.tm,rngS P s (s.nx bs) N ps a b⟩ [s.get g,.yld (s.nx bs)]) ob').ob⟩)
           | _=>False)->swF P (m+1) bs (.sc (.rangeF N g ps a b)::K) s Q:=fun hm=>by
          refine⟨_,_,Zm hc.1,fun i hi=>ZB (s:=⟨s.tm,rngS P s (s.nx bs) N ps a b⟩) i hi,⟨f,fa,fc,hg,hc.2⟩,hcall, ?_⟩
          rintro r0 ob0 ⟨rfl,rfl⟩
          refine .inr ⟨hpn,st,pend,_,_,_,_,_,_,hl,hst, ?_⟩
          split at hm
          ·exact hm
          ·exact hm
          ·exact hm
          ·exact hm.elim
         cases pend with
         | none=>exact fin (up hk)
         | some c0 =>
          cases c0 <;> try exact hk.elim
          ·rename_i i0
           simp only at hk
           refine fin ?_
           simp only
           split at hk
           ·exact up hk
           ·exact hfin _ _ hk
          ·exact fin (hfin _ _ hk)
       ·exact hk.elim
      ·exact Z1D (Nat.le_succ m) (hJ _ _ h)
     ·exact h.elim
    ·exact h.elim
theorem ZfV {tb:Ctr} (htb:tb.OK P) {bs:Nat} {fin:Exit->St->Tr} {R:D->Obs->Prop} {J:List Fr->St->Prop} {Q:Exit->St->Prop} {n0:Nat} (hfin: ∀ e s,(fin e s).ok R J->Q e s) (hJ: ∀ K s,J K s->swF P n0 bs K s Q) :
  ∀ {n:Nat} {K:List Fr} {s:St},(goT P tb bs fin n K s).ok R J->swF P (n0+n) bs K s Q
 | 0,K,s,h=>h.elim
 | n+1,K,s,h=>by
  rw[ZbD] at h
  exact Z7F htb hfin (fun K s hj=>Z1D (Nat.le_add_right _ _) (hJ K s hj)) (fun h=>ZfV htb hfin hJ h) h
theorem Z11 {tb:Ctr} (htb:tb.OK P) {bs:Nat} {fin:Exit->St->Tr} {R:D->Obs->Prop} {J:List Fr->St->Prop} {Q:Exit->St->Prop} (hfin: ∀ e s,(fin e s).ok R J->Q e s) (hJ: ∀ K s,J K s->At P bs K s Q)
  {n:Nat} {K:List Fr} {s:St} (h:(goT P tb bs fin n K s).ok R J):At P bs K s Q:=by
 obtain⟨n0,h0⟩:=Tr.ok_at (A:=fun n K s=>swF P n bs K s Q) hJ h
 exact⟨_,ZfV htb (fun e s hf=>hfin e s (Tr.ok_mono (fun _ _ h=>h.1) hf)) (fun _ _ h=>h.2) h0⟩
theorem swF.tree {tb:Ctr} (htb:tb.OK P) {pu:Bool} {bs:Nat} {rs:List SR} {R:D->Obs->Prop} {n n0:Nat} {K:List Fr} {s:St} {T:Tr} (e:goT P tb bs (finF pu bs rs) n K s=T)
  (h:T.ok R (fun K s=>swF P n0 bs K s (FinQ pu bs rs R))):swF P (n0+n) bs K s (FinQ pu bs rs R):=ZfV htb QY (fun _ _ h=>h) (e ▸ h)
def SC.tl:SC->Nat->SC
 | c,0=>c
 | .seq _ b,n+1=>b.tl n
 | c,_+1=>c
def frgs:SC->List Fr->List (List Fr)
 | .seq (.spec (.frg _)) b,K=>(.sc b::K)::frgs b K
 | .seq a b,K=>frgs a (.sc b::K)++frgs b K
 | .cond _ a b,K=>frgs a K++frgs b K
 | .block id c,K=>frgs c (.blk id::K)
 | .loop ts c,K=>frgs c (.sc (.loop ts c)::K)
 | _,_=>[]
def frg (sc:SC) (n:Nat):List Fr:=(frgs sc []).getD n []
theorem At.tree {tb:Ctr} (htb:tb.OK P) {pu:Bool} {bs:Nat} {rs:List SR} {R:D->Obs->Prop} {n:Nat} {K:List Fr} {s:St} {T:Tr} (e:goT P tb bs (finF pu bs rs) n K s=T)
  (h:T.ok R (fun K s=>At P bs K s (FinQ pu bs rs R))):At P bs K s (FinQ pu bs rs R):=Z11 htb QY (fun _ _ h=>h) (e ▸ h)
theorem Z4G {bs:Nat} {sc:SC} {s:St} {Q:Exit->St->Prop} (h:At P bs [.sc sc] s Q):sw P bs sc Q s:=by
 obtain⟨n,hn⟩:=h
 refine Zu (Z89 n bs sc [] s Q hn) fun ex s1 ⟨m,_,hr⟩=> ?_
 cases ex <;> simp only[Zfc,Z0g] at hr
 ·cases m with
  | zero=>cases hr
  | succ m=>exact hr
 ·exact hr
 ·exact hr
 ·exact hr
theorem FnOK.at[CodesOf P] (Z4:DrawSound P) {f:FuncId} {N:Nat} {sc:SC} {rs:List SR} (hf:FnC P f N sc rs/\ZA P f=true) {args:List D} {r:D}
  (h:At P 0 [.sc sc] ⟨Q0 0 args,[]⟩ (FinQ true 0 rs (fun d _=>d=r))) (hlen:Nat.ble args.length N=true:=by rfl):FnOK P f args r:=by
 have hlen:=Nat.le_of_ble_eq_true hlen
 have hsw:=Z4G h
 refine FnOK.of_call hf.2 (CallL.fn Z4 hf.1 hf.2 (first:=[]) (caps:=[]) 0 (Nat.le_refl _) (by simpa using hlen) ?_)
 have conv: ∀ (s:St) (d:D),RetL 0 (RE true (fun d _=>d=r)) s d->RetL 0 (RetK r) s d:=by
  rintro s d ⟨r',hr',rfl⟩
  unfold retE at hr'
  unfold RetL RetK
  split at hr'
  ·rename_i id hid
   split at hr'
   ·rename_i sz e es hl
    cases hr'
    exact .inl ⟨id,sz,e,es,hid,hl,rfl⟩
   ·cases hr'
  ·split at hr'
   ·rename_i hclo
    cases hr'
    exact .inr ⟨hclo,rfl⟩
   ·cases hr'
 rw[List.nil_append,List.append_nil]
 refine Zu hsw fun ex s1 hq=> ?_
 cases ex <;> simp only[FinQ,EndQ] at hq ⊢
 ·obtain⟨ds,hds,hr⟩:=hq; exact⟨ds,hds,conv _ _ hr⟩
 ·obtain⟨ds,hds,hr⟩:=hq; exact⟨ds,hds,conv _ _ hr⟩
 ·obtain⟨v,rfl,hr⟩:=hq; exact⟨v,rfl,conv _ _ hr⟩
theorem FnOK.tree [CodesOf P] (Z4:DrawSound P) {f:FuncId} {N:Nat} {sc:SC} {rs:List SR} (hf:FnC P f N sc rs/\ZA P f=true) {tb:Ctr} (htb:tb.OK P) {n:Nat} {args:List D} {r:D} {T:Tr}
  (e:goT P tb 0 (finF true 0 rs) n [.sc sc] ⟨Q0 0 args,[]⟩=T) (h:T.ok (fun d _=>d=r) (fun K s=>At P 0 K s (FinQ true 0 rs (fun d _=>d=r)))) (hlen:Nat.ble args.length N=true:=by rfl):FnOK P f args r :=
 FnOK.at Z4 hf (Z11 htb QY (fun _ _ h=>h) (e ▸ h)) hlen
theorem CallL.tree [CodesOf P] (Z4:DrawSound P) {f:FuncId} {N:Nat} {sc:SC} {rs:List SR} (hf:FnC P f N sc rs/\ZA P f=true) {tb:Ctr} (htb:tb.OK P) {n bs:Nat} {first args caps:List D} {ob:Obs} {R:D->Obs->Prop} {T:Tr}
  (e:goT P tb bs (finF false bs rs) n [.sc sc] ⟨Q0 0 (first++args++caps),ob⟩=T) (h:T.ok R (fun K s=>At P bs K s (FinQ false bs rs R))) (hlen:Nat.ble (first++args++caps).length N=true:=by rfl) (hbs:Nat.ble (Obs.top ob) bs=true:=by rfl):CallL P (.func (.func f) first caps) args ob R:=by
 have hlen:=Nat.le_of_ble_eq_true hlen
 have hbs:=Nat.le_of_ble_eq_true hbs
 have hsw:=Z4G (Z11 htb QY (fun _ _ h=>h) (e ▸ h))
 refine CallL.reordG (CallL.fn Z4 hf.1 hf.2 bs hbs hlen ?_)
 refine Zu hsw fun ex s1 hq=> ?_
 cases ex <;> simp only[FinQ,RE,EndQ] at hq ⊢ <;> exact hq
end
def finY (k rid N:Nat) (ps:Array Tmp) (a b:SC) (keys:List Nat) (ds:List D):Exit->St->Tr:=fun e s=>match Z21 e with
 | some pend=>if (lk s.ob rid).isNone=true then .ret (.bool pend.isNone) (Z0N ((rid,.gen (.loop (if pend.isNone then .ready else .done) pend ps a b N keys) ds)::(s.canon k []).ob)) else .bad
 | none=> .bad
def yldT (P:Program) (tb:Ctr) (k rid N:Nat) (ps:Array Tmp) (a b:SC) (keys:List Nat) (ds:List D) (n:Nat) (s:St):Tr :=
 goT P tb k (fun e s=>match e with
  | .normal=>goT P tb k (finY k rid N ps a b keys ds) n [.sc b] s
  | _=> .bad) n [.sc a] s
section
variable {P:Program}
theorem CallL.yldT [CodesOf P] (Z4:DrawSound P) {tb:Ctr} (htb:tb.OK P) {n k rid N:Nat} {ps:Array Tmp} {a b:SC} {keys:List Nat} {ds args:List D} {ob:Obs} {R:D->Obs->Prop} {T:Tr}
  (hrec:lk ob rid=some (.gen (.loop .ready none ps a b N keys) ds)) (e:Sx.yldT P tb k rid N ps a b keys ds n ⟨putP (ps.toList.zip args) (keys.zip ds),Z6 rid ob⟩=T)
  (h:T.ok R (fun _ _=>False)) (hk:Nat.ble (Obs.top ob) k=true:=by rfl) (hps:ps.size=args.length:=by rfl) (hpN:(ps.toList.all fun t=>decide (t<N))=true:=by rfl):CallL P (.yld rid) args ob R:=by
 have hk:=Nat.le_of_ble_eq_true hk
 refine CallL.reordG (CallL.yld Z4 k hk hrec hps (fun t ht=>by simpa using List.all_eq_true.1 hpN t ht) ?_)
 have h':(Sx.yldT P tb k rid N ps a b keys ds n ⟨putP (ps.toList.zip args) (keys.zip ds),Z6 rid ob⟩).ok R (fun _ _=>False):=e ▸ h
 unfold Sx.yldT at h'
 refine Z4G (Z11 htb (fun e s hf=> ?_) (fun _ _ h=>h.elim) h')
 cases e <;> try exact hf.elim
 refine Z4G (Z11 htb (fun e s hf=> ?_) (fun _ _ h=>h.elim) hf)
 unfold finY at hf
 split at hf
 ·rename_i pend hpe
  split at hf
  ·rename_i hn
   refine⟨by simpa using hn, ?_⟩
   cases e <;> simp only[Z21,Option.some.injEq,reduceCtorEq] at hpe <;> (subst hpe; exact hf)
  ·exact hf.elim
 ·exact hf.elim
end
def cuts:SC->List Fr->List (List Fr)
 | .seq a b,K=>cuts a (.sc b::K)++cuts b K
 | .cond _ a b,K=>cuts a K++cuts b K
 | .block id c,K=>cuts c (.blk id::K)
 | .loop ts c,K=>(.sc c:: .sc (.loop ts c)::K)::cuts c (.sc (.loop ts c)::K)
 | _,_=>[]
def cut (sc:SC) (n:Nat):List Fr:=(cuts sc []).getD n []
def spcs:SC->List Fr->List (List Fr)
 | .seq a b,K=>spcs a (.sc b::K)++spcs b K
 | .cond _ a b,K=>spcs a K++spcs b K
 | .block id c,K=>spcs c (.blk id::K)
 | .loop ts c,K=>spcs c (.sc (.loop ts c)::K)
 | .spec k,K=>[.sc (.spec k)::K]
 | _,_=>[]
def spc (sc:SC) (n:Nat):List Fr:=(spcs sc []).getD n []
def aft (sc:SC) (n:Nat):List Fr:=(spc sc n).tail
theorem Z3h {P:Program} {n bs:Nat} {k:Sp} {K:List Fr} {s:St} {Q:Exit->St->Prop} (h:spS P bs k (fun e s'=>e= .normal/\swF P n bs K s' Q) s):swF P (n+1) bs (.sc (.spec k)::K) s Q:=by
 simp only[swF]
 refine Z1E h fun e s' he=> ?_
 obtain⟨rfl,h⟩:=he
 exact h
def SC.rngs:SC->List (SC × SC)
 | .seq a b=>a.rngs++b.rngs
 | .cond _ a b=>a.rngs++b.rngs
 | .block _ c=>c.rngs
 | .loop _ c=>c.rngs
 | .rangeF _ _ _ a b=>(a,b)::(a.rngs++b.rngs)
 | _=>[]
def SC.rngA (sc:SC) (n:Nat):SC:=(sc.rngs.getD n (.skip,.skip)).1
def SC.rngB (sc:SC) (n:Nat):SC:=(sc.rngs.getD n (.skip,.skip)).2
end Go.Sx
