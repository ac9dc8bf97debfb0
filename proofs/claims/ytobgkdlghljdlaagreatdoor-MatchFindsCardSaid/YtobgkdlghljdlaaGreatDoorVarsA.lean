/- Own work: a layer over the kit: plain data,a walk over it,its soundness. -/
import Derived.Test.YtobgkdlghljdlaaGreatDoorMsB
import Derived.Test.YtobgkdlghljdlaaGreatDoorMtF
import Derived.Test.YtobgkdlghljdlaaGreatDoorSx9
import Derived.Test.YtobgkdlghljdlaaGreatDoorArOpB
import Derived.Test.YtobgkdlghljdlaaGreatDoorSx11
set_option linter.unusedSectionVars false
set_option linter.unusedVariables false
set_option linter.unusedSimpArgs false
set_option linter.deprecated false
/- Vars: what it answers. -/
namespace Go.Proofs.YtobgkdlghljdlaaGreatDoor
open Go.Sx
def voN (k n:Int) (s:LU) (a:LD):List (LU)->Obs
 | []=>vobN k n s a
 | c::r=>vobA k n s a 4 (strC (c::r))
def voA (k n:Int) (s:LU) (a:LD) (o:List (LU)):List (LU)->Obs
 | []=>vobA k n s a 4 (strC o)
 | c::r=>vobA k n s a 5 (strC (o++c::r))
theorem Zbw (k n:Int) (s:LU) (a:LD) (x:Tm):CallL Tryz.prog (.yld 0) [.agg x.cells] (vobN k n s a) fun r ob=>r= .bool true/\ob=voN k n s a x.v1:=by
 obtain⟨kx,nx,sx,ax⟩:=x
 refine CallL.yldT Z4 (Z2 Z1 Z0) rfl (Znf kx nx sx (Tm.cellsL ax) k n s a) ?_
 rw[ZV,Z7,Zc,Zc]
 refine⟨fun h=>⟨⟨Z2H.2 ⟨rfl,Z3m _⟩,by decide⟩,rfl, ?_⟩,fun h=>⟨rfl, ?_⟩⟩
 ·have h:=of_decide_eq_true h
  have:kx=3:=by omega
  subst this; rfl
 ·have h:=of_decide_eq_false h
  simp only[Tm.v1]
  rw[if_neg (by omega)]; rfl
theorem Zbx (k n:Int) (s:LU) (a:LD) (x:Tm) (o:List (LU)) (ho:o.length+x.v1.length<=1073741824):CallL Tryz.prog (.yld 0) [.agg x.cells] (vobA k n s a 4 (strC o)) fun r ob=>r= .bool true/\ob=voA k n s a o x.v1:=by
 obtain⟨kx,nx,sx,ax⟩:=x
 refine CallL.yldT Z4 (Z2 Z1 Z0) rfl (Zng kx nx sx (Tm.cellsL ax) k n s a (strC o)) ?_
 rw[ZV,Z7,Zc,Zc]
 refine⟨fun h=> ?_,fun h=>⟨rfl, ?_⟩⟩
 ·have h:=of_decide_eq_true h
  have:kx=3:=by omega
  subst this
  refine⟨⟨Z2H.2 ⟨rfl,Z3m _⟩,by simpa [ZY,Tm.v1] using ho⟩,rfl, ?_⟩
  simp only[Tm.v1,if_true,voA,QC]
  rfl
 ·have h:=of_decide_eq_false h
  simp only[Tm.v1]
  rw[if_neg (by omega)]; rfl
def VisN (k n:Int) (s:LU) (a:LD) (x:Tm):Prop:=CF 108 [.agg x.cells,.yld 0] (vobN k n s a) fun r ob=>r= .bool true/\ob=voN k n s a x.vs
def VisA (k n:Int) (s:LU) (a:LD) (x:Tm):Prop:= ∀ o:List (LU),o.length+x.vs.length<=1073741824->CF 108 [.agg x.cells,.yld 0] (vobA k n s a 4 (strC o)) fun r ob=>r= .bool true/\ob=voA k n s a o x.vs
theorem ZoC (k n:Int) (s:LU) (a:LD) (l:List Tm) (hl:l.length<=281474976710656) (HN: ∀ x∈l,VisN k n s a x) (HA: ∀ x∈l,VisA k n s a x): ∀ (m i:Nat) (g:List (LU)),l.length-i=m->i<=l.length->g.length+(Tm.vsL (l.drop i)).length<=1073741824 →
  At Tryz.prog 4 (cut Z0J 0) (hdVi (Tm.cellsL l) l.length i (voN k n s a g)) (FinQ false 4 Z1l fun r ob=>r= .bool true/\ob=voN k n s a (g++Tm.vsL (l.drop i))):=by
 intro m
 induction m with
 | zero =>
  intro i g hm hi _
  rw[List.drop_eq_nil_of_le (by omega)]
  simp only[Tm.vsL,List.append_nil]
  cases g with
  | nil =>
   refine At.tree (Z2 Z1 (ZX (.bool true) true [])) (Zel (Tm.cellsL l) l.length i 0 0 [] [] k n s a true []) ?_
   rw[ZV]
   refine⟨fun h=> ?_,fun _=> ?_⟩
   ·have:=of_decide_eq_true h; omega
   ·rw[Zc]; exact⟨rfl,rfl⟩
  | cons c r =>
   refine At.tree (Z2 Z1 (ZX (.bool true) true [])) (Zem (Tm.cellsL l) l.length i 0 0 [] [] k n s a (strC (c::r)) true []) ?_
   rw[ZV]
   refine⟨fun h=> ?_,fun _=> ?_⟩
   ·have:=of_decide_eq_true h; omega
   ·rw[Zc]; exact⟨rfl,rfl⟩
 | succ m ih =>
  intro i g hm hi hg
  have h1:i<l.length:=by omega
  have hx:(Tm.cellsL l)[i]? = some l[i].cells:=by rw[Zs]; simp[h1]
  have hN:=HN _ (List.getElem_mem h1)
  have hA:=HA _ (List.getElem_mem h1)
  have hd:l.drop i=l[i]::l.drop (i+1):=List.drop_eq_getElem_cons h1
  rw[hd] at hg ⊢
  simp only[Tm.vsL,List.length_append] at hg ⊢
  have hI:=ih (i+1) (g++Tm.vs l[i]) (by omega) (by omega) (by rw[List.length_append]; omega)
  rw[<- List.append_assoc]
  unfold VisN at hN
  have hA:=hA g (by omega)
  generalize Tm.vs l[i]=v at hN hA hI hg ⊢
  generalize l[i]=x at hx hN hA
  obtain⟨kx,nx,sx,ax⟩:=x
  cases g with
  | nil =>
   rw[List.nil_append] at hI ⊢
   refine At.tree (Z2 Z1 (ZX (.bool true) v.isEmpty (strC v))) (Zel (Tm.cellsL l) l.length i kx nx sx (Tm.cellsL ax) k n s a v.isEmpty (strC v)) ?_
   rw[ZV]
   refine⟨fun _=> ?_,fun h=> ?_⟩
   ·rw[Z7,Int.toNat_natCast]
    refine⟨⟨by omega,hx⟩, ?_⟩
    cases v with
    | nil =>
     rw[show List.isEmpty ([]:List (LU))=true from rfl,ZA,Z7,Z7,Z8]
     exact⟨hN,by omega,hI⟩
    | cons c r =>
     rw[show List.isEmpty (c::r)=false from rfl,Zq,Z7,Z7,Z8]
     exact⟨hN,by omega,hI⟩
   ·have:=of_decide_eq_false h; omega
  | cons c0 r0 =>
   refine At.tree (Z2 Z1 (ZX (.bool true) v.isEmpty (strC v))) (Zem (Tm.cellsL l) l.length i kx nx sx (Tm.cellsL ax) k n s a (strC (c0::r0)) v.isEmpty (strC v)) ?_
   rw[ZV]
   refine⟨fun _=> ?_,fun h=> ?_⟩
   ·rw[Z7,Int.toNat_natCast]
    refine⟨⟨by omega,hx⟩, ?_⟩
    cases v with
    | nil =>
     rw[List.append_nil] at hI ⊢
     rw[show List.isEmpty ([]:List (LU))=true from rfl,ZA,Z7,Z7,Z8]
     exact⟨hA,by omega,hI⟩
    | cons c r =>
     rw[show List.isEmpty (c::r)=false from rfl,Zq,Z7,Z7,Z8]
     simp only[voA,QC] at hA
     have e:voN k n s a (c0::r0++c::r)=vobA k n s a 4 (strC (c0::r0)++strC (c::r)):=by rw[<- QC]; rfl
     rw[e] at hI
     exact⟨hA,by omega,hI⟩
   ·have:=of_decide_eq_false h; omega
theorem ZoD (k n:Int) (s:LU) (a:LD) (l:List Tm) (hl:l.length<=281474976710656) (o:List (LU)) (HA: ∀ x∈l,VisA k n s a x): ∀ (m i:Nat) (g:List (LU)),l.length-i=m->i<=l.length->o.length+(g.length+(Tm.vsL (l.drop i)).length)<=1073741824 →
  At Tryz.prog 5 (cut Z0J 0) (hdVi (Tm.cellsL l) l.length i (voA k n s a o g)) (FinQ false 5 Z1l fun r ob=>r= .bool true/\ob=voA k n s a o (g++Tm.vsL (l.drop i))):=by
 intro m
 induction m with
 | zero =>
  intro i g hm hi _
  rw[List.drop_eq_nil_of_le (by omega)]
  simp only[Tm.vsL,List.append_nil]
  cases g with
  | nil =>
   refine At.tree (Z2 Z1 (ZX (.bool true) true [])) (Zeo (Tm.cellsL l) l.length i 0 0 [] [] k n s a (strC o) true []) ?_
   rw[ZV]
   refine⟨fun h=> ?_,fun _=> ?_⟩
   ·have:=of_decide_eq_true h; omega
   ·rw[Zc]; exact⟨rfl,rfl⟩
  | cons c r =>
   refine At.tree (Z2 Z1 (ZX (.bool true) true [])) (Zen (Tm.cellsL l) l.length i 0 0 [] [] k n s a (strC (o++c::r)) true []) ?_
   rw[ZV]
   refine⟨fun h=> ?_,fun _=> ?_⟩
   ·have:=of_decide_eq_true h; omega
   ·rw[Zc]; exact⟨rfl,rfl⟩
 | succ m ih =>
  intro i g hm hi hg
  have h1:i<l.length:=by omega
  have hx:(Tm.cellsL l)[i]? = some l[i].cells:=by rw[Zs]; simp[h1]
  have hA:=HA _ (List.getElem_mem h1)
  have hd:l.drop i=l[i]::l.drop (i+1):=List.drop_eq_getElem_cons h1
  rw[hd] at hg ⊢
  simp only[Tm.vsL,List.length_append] at hg ⊢
  have hI:=ih (i+1) (g++Tm.vs l[i]) (by omega) (by omega) (by rw[List.length_append]; omega)
  rw[<- List.append_assoc]
  have hA:=hA (o++g) (by rw[List.length_append]; omega)
  generalize Tm.vs l[i]=v at hA hI hg ⊢
  generalize l[i]=x at hx hA
  obtain⟨kx,nx,sx,ax⟩:=x
  cases g with
  | nil =>
   rw[List.append_nil] at hA
   rw[List.nil_append] at hI ⊢
   refine At.tree (Z2 Z1 (ZX (.bool true) v.isEmpty (strC v))) (Zeo (Tm.cellsL l) l.length i kx nx sx (Tm.cellsL ax) k n s a (strC o) v.isEmpty (strC v)) ?_
   rw[ZV]
   refine⟨fun _=> ?_,fun h=> ?_⟩
   ·rw[Z7,Int.toNat_natCast]
    refine⟨⟨by omega,hx⟩, ?_⟩
    cases v with
    | nil =>
     rw[show List.isEmpty ([]:List (LU))=true from rfl,ZA,Z7,Z7,Z8]
     exact⟨hA,by omega,hI⟩
    | cons c r =>
     rw[show List.isEmpty (c::r)=false from rfl,Zq,Z7,Z7,Z8]
     simp only[voA,QC] at hA
     have e:voA k n s a o (c::r)=vobA k n s a 5 (strC o++strC (c::r)):=by rw[<- QC]; rfl
     rw[e] at hI
     exact⟨hA,by omega,hI⟩
   ·have:=of_decide_eq_false h; omega
  | cons c0 r0 =>
   refine At.tree (Z2 Z1 (ZX (.bool true) v.isEmpty (strC v))) (Zen (Tm.cellsL l) l.length i kx nx sx (Tm.cellsL ax) k n s a (strC (o++c0::r0)) v.isEmpty (strC v)) ?_
   rw[ZV]
   refine⟨fun _=> ?_,fun h=> ?_⟩
   ·rw[Z7,Int.toNat_natCast]
    refine⟨⟨by omega,hx⟩, ?_⟩
    cases v with
    | nil =>
     rw[List.append_nil] at hI ⊢
     rw[show List.isEmpty ([]:List (LU))=true from rfl,ZA,Z7,Z7,Z8]
     exact⟨hA,by omega,hI⟩
    | cons c r =>
     rw[show List.isEmpty (c::r)=false from rfl,Zq,Z7,Z7,Z8]
     have e0:voA k n s a (o++c0::r0) (c::r)=vobA k n s a 5 (strC (o++c0::r0)++strC (c::r)):=by rw[<- QC]; rfl
     rw[e0] at hA
     have e:voA k n s a o (c0::r0++c::r)=vobA k n s a 5 (strC (o++c0::r0)++strC (c::r)):=by rw[<- QC,List.append_assoc]; rfl
     rw[e] at hI
     exact⟨hA,by omega,hI⟩
   ·have:=of_decide_eq_false h; omega
theorem Z69 (k n:Int) (s:LU) (a:LD): ∀ x:Tm,x.wf 281474976710656->x.vs.length<=1073741824->VisN k n s a x/\VisA k n s a x
 | .mk kx nx sx l,hx,hv=>by
  have hy:=Zbw k n s a (.mk kx nx sx l)
  have hyA:=Zbx k n s a (.mk kx nx sx l)
  simp only[Tm.wf] at hx
  obtain⟨hk,hn1,hn2,hs,hl,hw⟩:=hx
  simp only[Tm.vs,List.length_append] at hv
  have IH: ∀ y∈l,VisN k n s a y/\VisA k n s a y:=fun y hy=>Z69 k n s a y (QW.1 hw y hy) (by have:=ZeH hy; omega)
  have hN:=ZoC k n s a l hl (fun y hy=>(IH y hy).1) (fun y hy=>(IH y hy).2) _ 0 (Tm.v1 (.mk kx nx sx l)) rfl (Nat.zero_le _) hv
  have hA:=fun o=>ZoD k n s a l hl o (fun y hy=>(IH y hy).2) _ 0 (Tm.v1 (.mk kx nx sx l)) rfl (Nat.zero_le _)
  unfold VisN VisA
  simp only[Tm.vs,List.length_append]
  generalize Tm.v1 (.mk kx nx sx l)=v at *
  constructor
  ·refine CallL.tree Z4 Zcz (Z2 Z1 (ZX (.bool true) v.isEmpty (strC v))) (Zj4 kx nx sx (Tm.cellsL l) k n s a v.isEmpty (strC v)) ?_
   rw[Z3]
   cases v with
   | nil =>
    rw[show List.isEmpty ([]:List (LU))=true from rfl,ZA,Z7,Z8]
    exact⟨hy,hN⟩
   | cons c r =>
    rw[show List.isEmpty (c::r)=false from rfl,Zq,Z7,Z8]
    exact⟨hy,hN⟩
  ·intro o ho
   have hy:=hyA o (by omega)
   have hA:=hA o ho
   refine CallL.tree Z4 Zcz (Z2 Z1 (ZX (.bool true) v.isEmpty (strC v))) (Zj5 kx nx sx (Tm.cellsL l) k n s a (strC o) v.isEmpty (strC v)) ?_
   rw[Z3]
   cases v with
   | nil =>
    rw[show List.isEmpty ([]:List (LU))=true from rfl,ZA,Z7,Z8]
    exact⟨hy,hA⟩
   | cons c r =>
    rw[show List.isEmpty (c::r)=false from rfl,Zq,Z7,Z8]
    have e:voA k n s a o (c::r)=vobA k n s a 5 (strC o++strC (c::r)):=by rw[<- QC]; rfl
    rw[e] at hy hA
    exact⟨hy,hA⟩
termination_by x=>SizeOf.sizeOf x
decreasing_by
 have:=List.sizeOf_lt_of_mem hy
 simp only[Tm.mk.sizeOf_spec]
 omega
theorem ZgK (x:Tm) (hx:x.wf 281474976710656) (hv:x.vs.length<=1073741824) (k n:Int) (s:LU) (a:LD) (e:tC k n s a=x.cells) :
  CallL Tryz.prog (.func (.func 107) [] [.ptr 0 0]) [.yld 1] (obS k n s a) fun r ob=>r= .tuple []/\ob=match x.vs.isEmpty with
   | true=>obS k n s a
   | false=>Z8x (strC x.vs) (obS k n s a):=by
 have hV:=(Z69 k n s a x hx hv).1
 unfold VisN at hV
 rw[<- e] at hV
 generalize x.vs=v at hV ⊢
 refine CallL.tree Z4 Zh4 (Z2 Z1 (ZX (.bool true) v.isEmpty (strC v))) (Zj3 k n s a v.isEmpty (strC v)) ?_
 cases v with
 | nil =>
  rw[show List.isEmpty ([]:List (LU))=true from rfl,ZA,Z7,Zc]
  exact⟨hV,rfl,rfl⟩
 | cons c r =>
  rw[show List.isEmpty (c::r)=false from rfl,Zq,Z7,Zc]
  exact⟨hV,rfl,rfl⟩
theorem ZbC (x:Tm) (hx:x.wf 281474976710656) (hv:x.vs.length<=1073741824):FK 65 [.agg x.cells] (if x.vs.isEmpty=true then .slice [] [] else .own 1 9 (strC (Lib.compact (srt x.vs)))):=by
 obtain⟨k,n,s,l⟩:=x
 have hI:=ZgK (.mk k n s l) hx hv k n s (Tm.cellsL l) rfl
 generalize Tm.vs (.mk k n s l)=v at hI hv ⊢
 refine FnOK.tree Z4 fpV (Z2 Z1 (QT.or_ok (QT.or_ok Z8H (ZX (.tuple []) v.isEmpty (strC v))) (ZbB (strC (srt v)) (strC (Lib.compact (srt v)))))) (Zoo k n s (Tm.cellsL l) v.isEmpty (strC v) (strC (srt v)) (strC (Lib.compact (srt v)))) ?_
 rw[Z7]
 refine⟨trivial, ?_⟩
 cases v with
 | nil =>
  rw[show List.isEmpty ([]:List (LU))=true from rfl,ZA,Z7,Z7,Z7,Zc]
  exact⟨hI,CallL.sortN (by kernel_rfl) fun p cap w=>Tryz.slices_Sort_string_none p cap w,CallL.compactN (by kernel_rfl) fun p cap w=>Tryz.slices_Compact_string_empty p cap w,rfl⟩
 | cons c r =>
  rw[show List.isEmpty (c::r)=false from rfl,Zq,Z7,Z7,Z7,Zc]
  have hs:(srt (c::r)).length=(c::r).length:=by unfold srt; simp
  refine⟨hI,CallL.sortS (by kernel_rfl) (fun blk cap ss w h1 h2 h3=>Tryz.slices_Sort_string blk 0 cap ss w h1 h2 h3) _ _ (by simp) (by omega),CallL.compactS (by kernel_rfl) (fun blk cap zs w h1 h2 h3=>Tryz.slices_Compact_string blk 0 cap zs w h1 h2 h3) _ _ (fun e=>by rw[e] at hs; simp at hs) (by omega),rfl⟩
theorem ZeK (x:Tm) (hx:x.wf 281474976710656) (hv:x.vs.length<=1073741824):FK 65 [.agg x.cells] (.slice (strC x.W) []):=by
 have h:=ZbC x hx hv
 rw[<- V_eq]
 cases hq:x.vs with
 | nil =>
  rw[hq] at h
  rw[show x.V=[] from Znh.2 hq]
  exact h
 | cons c r =>
  rw[show x.vs.isEmpty=false by rw[hq]; rfl,if_neg (by decide)] at h
  exact h.freezeS (fun e=>by have:=Znh.1 e; rw[hq] at this; cases this)
end Go.Proofs.YtobgkdlghljdlaaGreatDoor
/- MatchFinds,but for what is awake. -/
namespace Go.Proofs.YtobgkdlghljdlaaGreatDoor
open Go.Sx
mutual
def inw:Tm->List (LU)
 | .mk k n s l=>if k=5\/k=6 then (Tm.mk k n s l).W else inwL l
def inwL:List Tm->List (LU)
 | []=>[]
 | a::r=>inw a++inwL r
end
mutual
theorem Z9O (z:LU): ∀ t:Tm,z∈inw t ↔ z∈t.inns
 | .mk k n s l=>by
  rw[inw,Tm.inns]
  split
  ·exact Z20
  ·exact Z6S z l
theorem Z6S (z:LU): ∀ l:List Tm,z∈inwL l ↔ z∈Tm.innsL l
 | []=>by rw[inwL,Tm.innsL]
 | a::r=>by rw[inwL,Tm.innsL,List.mem_append,List.mem_append,Z9O z a,Z6S z r]
end
mutual
theorem Z8t: ∀ t:Tm,t.vs.length<=t.cnt
 | .mk k n s l=>by
  have:=Z8u l
  rw[Tm.vs,Tm.cnt,List.length_append]
  have:(Tm.v1 (.mk k n s l)).length<=1:=by rw[Tm.v1]; split <;> simp
  omega
theorem Z8u: ∀ l:List Tm,(Tm.vsL l).length<=Tm.cntL l
 | []=>by rw[Tm.vsL]; simp
 | a::r=>by
  have h1:=Z8t a
  have h2:=Z8u r
  rw[Tm.vsL,Tm.cntL,List.length_append]
  omega
end
mutual
theorem Z9P: ∀ t:Tm,(inw t).length<=t.cnt
 | .mk k n s l=>by
  rw[inw]
  split
  ·exact Nat.le_trans (Zq9 _) (Z8t _)
  ·have:=Z3O l
   rw[Tm.cnt]
   omega
theorem Z3O: ∀ l:List Tm,(inwL l).length<=Tm.cntL l
 | []=>by rw[inwL]; simp
 | a::r=>by
  have h1:=Z9P a
  have h2:=Z3O r
  rw[inwL,Tm.cntL,List.length_append]
  omega
end
theorem Zp4 (k:Nat) (n:Int) (s:LU) (l:List Tm) (hc:Tm.cntL l<=1000000) (H: ∀ x∈l,FK 29 [.agg x.cells] (.slice (strC (inw x)) [])): ∀ (m i:Nat) (row:List (LU)),l.length-i=m->i<=l.length->row.length+(inwL (l.drop i)).length<=1073741824 →
  At Tryz.prog 0 (cut sc29 0) (hdIn k n s (Tm.cellsL l) (strC row) i) (FinQ true 0 rs29 fun r _=>r= .own 1 9 (strC (row++inwL (l.drop i)))):=by
 have hlen:=Z6R l
 intro m
 induction m with
 | zero =>
  intro i row hm hi hz
  refine At.tree Z5 (Zbi k n s (Tm.cellsL l) (strC row) i 0 0 [] [] []) ?_
  rw[List.drop_eq_nil_of_le (by omega)]
  simp only[SS,Z3,inwL,List.append_nil]
  exact⟨fun h=>by omega,fun _=>by first | trivial | rfl⟩
 | succ m ih =>
  intro i row hm hi hz
  have h1:i<l.length:=by omega
  have hx:=Zh h1
  have hC:=H _ (List.getElem_mem h1)
  rw[Za h1] at hz ⊢
  simp only[inwL,List.length_append] at hz ⊢
  have hI:=ih (i+1) (row++inw l[i]) (by omega) (by omega) (by rw[List.length_append]; omega)
  rw[<- List.append_assoc]
  have e:strC (row++inw l[i])=strC row++strC (inw l[i]):=by simp[strC]
  rw[e] at hI
  have ha:=Z2G (inw l[i])
  have hb:(strC row).length+(strC (inw l[i])).length<=1073741824:=by rw[ZY,ZY]; omega
  generalize inw l[i]=o at *
  generalize l[i]=x at hx hC
  obtain⟨kx,nx,sx,ax⟩:=x
  refine At.tree Z5 (Zbi k n s (Tm.cellsL l) (strC row) i kx nx sx (Tm.cellsL ax) (strC o)) ?_
  simp only[SS,Z3]
  exact⟨fun _=>⟨⟨by omega,hx⟩,hC,⟨ha,hb⟩,by omega,hI⟩,fun h=>by omega⟩
theorem Z6X: ∀ t:Tm,t.wf 281474976710656->t.cnt<=1000000->FK 29 [.agg t.cells] (.slice (strC (inw t)) [])
 | .mk k n s l,hw,ht=>by
  have hv:=ZeK (.mk k n s l) hw (by have:=Z8t (.mk k n s l); omega)
  have e5:((k:Int)=5)=(k=5):=propext (by omega)
  have e6:((k:Int)=6)=(k=6):=propext (by omega)
  by_cases h:k=5\/k=6
  ·rw[inw,if_pos h]
   refine FnOK.tree Z4 fp29 Z5 (Zer k n s (Tm.cellsL l) (strC (Tm.W (.mk k n s l)))) ?_
   simp only[SS,e5,e6]
   exact⟨fun _=>hv,fun _=>⟨fun _=>hv,fun h6=>absurd h (by omega)⟩⟩
  ·rw[inw,if_neg h]
   simp only[Tm.cnt] at ht
   have hil:=Z3O l
   have hl:=Zp4 k n s l (by omega) (fun x hx=>Z6X x (ZdR _ _ _ _ _ hw x hx) (by have:=Zas hx; omega)) _ 0 [] rfl (Nat.zero_le _) (by simp only[List.drop_zero,List.length_nil]; omega)
   refine FnOK.freezeG (e:=9) (sz:=1) ?_
   refine FnOK.tree Z4 fp29 Z5 (Zer k n s (Tm.cellsL l) []) ?_
   simp only[SS,e5,e6]
   exact⟨fun h5=>absurd h (by omega),fun _=>⟨fun h6=>absurd h (by omega),fun _=>hl⟩⟩
termination_by t=>SizeOf.sizeOf t
decreasing_by
 have:=List.sizeOf_lt_of_mem hx
 simp only[Tm.mk.sizeOf_spec]
 omega
def AtF (i:Nat) (s:St):Prop:=At Tryz.prog 0 (frg sc6 i) s (FinQ true 0 rs6 fun r _=>r= .bool true)
def Z5B (p:Tm) (x:Bd):Bool:=p.inns.contains x.n && !p.outs.contains x.n
theorem Zcm (p:Tm) (b:List Bd):Z1D p b=b.filter (Z5B p):=rfl
theorem ZpW (p v:Tm) (b c less:List Bd) (hp:TmB p) (hv:TmB v) (hb:BdB b) (hle:BdB less) (hc:BdB c) (hn:p.cnt<=99999) (hvb:ZT b=true) (h1:lstB [p] [v] less=some c) (h2: ∀ x∈c,getB b x.n=some x.v) (h3:lstB [p] [v] b=some b) :
  AtF 9 ⟨tmF7 (bdL b),[(0,.cells p.cells),(1,.cells v.cells),(2,.arr true 5 45 (bdL less))]⟩:=by
 have m1:=Z3L p v less hp hv hn hle
 rw[h1] at m1
 have m2:=Z3L p v b hp hv hn hb
 rw[h3] at m2
 have e:=hb.ext hc fun x hx=>by rw[ZgY hvb]; exact h2 x hx
 have s:=hb.sbs
 obtain⟨k,n,t,a⟩:=p
 obtain⟨kv,nv,sv,av⟩:=v
 refine At.tree Z5 (Zno k n t (Tm.cellsL a) (bdL b) kv nv sv (Tm.cellsL av) (bdL less) (bdL c) true) ?_
 refine⟨m1, ?_⟩
 rw[Z8]
 refine At.tree Z5 (ZhS k n t (Tm.cellsL a) (bdL b) kv nv sv (Tm.cellsL av) (bdL c) true true) ?_
 refine⟨e, ?_⟩
 show At _ _ _ _ _
 refine At.tree Z5 (ZhR k n t (Tm.cellsL a) (bdL b) kv nv sv (Tm.cellsL av) (bdL b) true) ?_
 refine⟨m2, ?_⟩
 rw[Z8]
 refine At.tree Z5 (ZhQ (bdL b) (bdL b) true true) ?_
 exact⟨s,rfl⟩
theorem ZpR (p v:Tm) (b:List Bd) (hB:b.length<=150) (hn:p.cnt<=99999) (H9:AtF 9 ⟨tmF7 (bdL b),[(0,.cells p.cells),(1,.cells v.cells),(2,.arr true 5 45 (bdL (Z1D p b)))]⟩): ∀ (m i:Nat),b.length-i=m->i<=b.length →
  At Tryz.prog 0 (cut sc6 0) ⟨tmF7 (bdL b)++[(12,.slice (strC p.outs) []),(13,.slice (strC (inw p)) []),(14,.int .i64 i)],[(0,.cells p.cells),(1,.cells v.cells),(2,.arr true 5 45 (bdL ((b.take i).filter (Z5B p))))]⟩ (FinQ true 0 rs6 fun r _=>r= .bool true):=by
 have hol:=Z3C p
 have hil:=Z9P p
 have hh1:=fun s=>ZdS (inw p) s (by omega)
 have hh2:=fun s=>ZdS p.outs s (by omega)
 intro m
 induction m with
 | zero =>
  intro i hm hi
  have e:b.take i=b:=List.take_of_length_le (by omega)
  rw[e]
  clear hh1 hh2
  rw[Zcm] at H9
  generalize b.filter (Z5B p)=less at H9 ⊢
  generalize strC p.outs=os
  generalize strC (inw p)=js
  obtain⟨k,n,s,a⟩:=p
  obtain⟨kv,nv,sv,av⟩:=v
  refine At.tree Z5 (Ze9 k n s (Tm.cellsL a) (bdL b) kv nv sv (Tm.cellsL av) (bdL less) os js i [] 0 0 [] [] true true) ?_
  simp only[SS,ZQ]
  exact⟨fun h=>by omega,fun _=>H9⟩
 | succ m ih =>
  intro i hm hi
  have h1:i<b.length:=by omega
  have hx:=Qj h1
  have hI:=ih (i+1) (by omega) (by omega)
  have g1:=hh1 b[i].n
  have g2:=hh2 b[i].n
  have ei:(inw p).contains b[i].n=p.inns.contains b[i].n:=by
   rw[Bool.eq_iff_iff,List.contains_iff_mem,List.contains_iff_mem]
   exact Z9O _ p
  rw[ei] at g1
  have et:(b.take (i+1)).filter (Z5B p)=(b.take i).filter (Z5B p)++if Z5B p b[i]=true then [b[i]] else []:=by
   rw[List.take_add_one,List.getElem?_eq_getElem h1,List.filter_append]
   simp only[Option.toList,List.filter_cons,List.filter_nil]
  rw[et] at hI
  unfold Z5B at hI ⊢
  have hfl:((b.take i).filter fun x=>p.inns.contains x.n && !p.outs.contains x.n).length<=150:=by
   refine Nat.le_trans (List.length_filter_le _ _) ?_
   rw[List.length_take]
   omega
  clear hh1 hh2 et ei H9
  generalize ((b.take i).filter fun x=>p.inns.contains x.n && !p.outs.contains x.n)=row at hI hfl ⊢
  generalize p.inns.contains b[i].n=c1 at g1 hI
  generalize p.outs.contains b[i].n=c2 at g2 hI
  generalize b[i]=x at hx g1 g2 hI
  clear hol hil ih
  generalize strC p.outs=os at *
  generalize strC (inw p)=js at *
  obtain⟨k,n,s,a⟩:=p
  obtain⟨kv,nv,sv,av⟩:=v
  have eb: ∀ l:List Bd,bdL (row++l)=bdL row++bdL l:=fun l=>Z5W _ _
  rw[eb] at hI
  obtain⟨mx,⟨kx,nx,sx,ax⟩⟩:=x
  refine At.tree Z5 (Ze9 k n s (Tm.cellsL a) (bdL b) kv nv sv (Tm.cellsL av) (bdL row) os js i mx kx nx sx (Tm.cellsL ax) c1 c2) ?_
  simp only[SS,ZQ]
  refine⟨fun _=>⟨⟨by omega,hx⟩,g1,fun q1=>⟨⟨by omega,hx⟩,g2,fun q2=>⟨⟨by omega,hx⟩,⟨by simp[Zd],by omega⟩,by omega, ?_⟩,fun q2=>⟨by omega, ?_⟩⟩,fun q1=>⟨by omega, ?_⟩⟩,fun h=>by omega⟩
  ·subst q1; subst q2
   exact hI
  ·subst q1; subst q2
   have e0:bdL row++bdL (if (true && !true)=true then [(⟨mx,.mk kx nx sx ax⟩:Bd)] else [])=bdL row:=by simp[bdL]
   rw[e0] at hI
   exact hI
  ·subst q1
   have e0:bdL row++bdL (if (false && !c2)=true then [(⟨mx,.mk kx nx sx ax⟩:Bd)] else [])=bdL row:=by simp[bdL]
   rw[e0] at hI
   exact hI
theorem BdB.sub {b c:List Bd} (h:BdB b) (hl:c.length<=100000) (hs: ∀ x∈c,x∈b):BdB c:=⟨hl,fun x hx=>h.wf x (hs x hx),fun x hx=>h.tm x (hs x hx)⟩
theorem ZcA (hw:FK 7 [] (.bool true)) (p:Tm) (b:List Bd) (pick:Int) (hp:p.wf 281474976710656) (hbw: ∀ x∈b,x.wf 281474976710656) (hbl:b.length<=281474976710656) :
  FK 6 [.agg p.cells,.slice (bdL b) [],.int .i64 pick] (.bool true):=by
 have hpp: ∀ x∈[p],x.wf 281474976710656:=fun x hx=>by rw[List.mem_singleton] at hx; subst hx; exact hp
 have hs:=ZbM b [p] hbl (fun x hx=>(hbw x hx).2) (by show 1<=_; decide) hpp
 have hbe:=ZQ b
 have h2:smlB b [p]=true->b.length<=150->p.valid=true->ZT b=true->AtF 2 ⟨tmF (bdL b) pick,[(0,.cells p.cells)]⟩:=fun e hB hpv hvb=>by
  obtain⟨s1,s2,s3,s4⟩:=Zds hpp hbw hB e
  have tp:=s1 p (List.mem_cons_self ..)
  simp only[Tm.cntL] at s2
  have a1:=s4.app hvb p tp.2.1
  have aw:(p.ap b).wf 281474976710656:=ZhJ (fun x hx=>(s4.wf x hx).2) _ hp
  have ad:(p.ap b).depth<=p.depth+100000000:=Z48 (fun x hx=>(s4.tm x hx).2.2) _
  have hpd:=tp.2.2
  have a2:=Z4H (p.ap b) aw (by omega)
  obtain⟨xl,xw⟩:=Zdf aw
  have h5: ∀ l,(p.ap b).expd= .ok l->l≠[]->AtF 5 ⟨tmF (bdL b) pick++[(8,.slice (Tm.cellsL l) [])],[(0,.cells p.cells)]⟩:=fun l hl hne=>by
   rw[hl] at xl xw
   have xl:l.length<=1000:=xl
   have xw: ∀ v∈l,v.wf 281474976710656:=xw
   have hpos:0<l.length:=List.length_pos_iff.2 hne
   obtain⟨j,hj,hP⟩:=Zck pick l.length (by omega)
   have hj:j<l.length:=by omega
   have hx:=Zh hj
   have hvm:=List.getElem_mem hj
   obtain⟨q1,⟨c,q2,q3⟩,q4⟩:=Z9B hpv hvb hl hvm
   have hv1:l[j].all Tm.shape=true:=by
    simp only[Tm.value,Bool.and_eq_true,Tm.valid] at q1
    exact q1.2.2
   have hv2:l[j].depth<=12:=by
    simp only[Tm.value,Bool.and_eq_true,Tm.valid,decide_eq_true_eq] at q1
    exact q1.2.1
   have tv:TmB l[j]:=⟨xw _ hvm,Z21 _ hv1,by omega⟩
   have hle:BdB (Z1D p b):=s4.sub (by
    have:=List.length_filter_le (fun x=>p.inns.contains x.n && !p.outs.contains x.n) b
    unfold Z1D
    omega) fun x hx=>(List.mem_filter.1 hx).1
   have hlel:(Z1D p b).length<=150:=by
    have:=List.length_filter_le (fun x=>p.inns.contains x.n && !p.outs.contains x.n) b
    unfold Z1D
    omega
   have hc:BdB c:=ZgB (p:=[p]) (v:=[l[j]]) s1 (fun x hx=>by rw[List.mem_singleton] at hx; subst hx; exact tv) hle (by simp only[Tm.cntL]; omega) q2
   have h9:=ZpW p l[j] b c (Z1D p b) tp tv s4 hle hc (by omega) hvb q2 q3 q4
   have hL:=ZpR p l[j] b hB (by omega) h9 _ 0 rfl (Nat.zero_le _)
   have o1:=Z6z p (by omega)
   have o2:=Z6X p hp (by omega)
   rw[<- Z3 l] at hP
   generalize strC p.outs=os at *
   generalize strC (inw p)=js at *
   clear h9 q1 q2 q3 q4 hvm hv1 hv2 tv hc xw
   generalize l[j]=v at hx hL
   obtain⟨k,n,s,a⟩:=p
   obtain⟨kv,nv,sv,av⟩:=v
   refine At.tree Z5 (Zns k n s (Tm.cellsL a) (bdL b) pick (Tm.cellsL l) j kv nv sv (Tm.cellsL av)) ?_
   refine⟨hP,⟨by omega,hx⟩, ?_⟩
   rw[Z8]
   refine At.tree Z5 (Znr k n s (Tm.cellsL a) (bdL b) kv nv sv (Tm.cellsL av)) ?_
   rw[Z8]
   refine At.tree Z5 (Znq k n s (Tm.cellsL a) (bdL b) kv nv sv (Tm.cellsL av) [] os js) ?_
   refine⟨o1,o2, ?_⟩
   show At _ _ _ _ _
   refine At.tree Z5 (Znp k n s (Tm.cellsL a) (bdL b) kv nv sv (Tm.cellsL av) [] os js) ?_
   rw[Z8]
   exact hL
  have h4:AtF 4 ⟨tmF (bdL b) pick++[(8,.slice (Tm.cellsL (xrL (p.ap b).expd)) []),(9,.int .i64 (xrE (p.ap b).expd))],[(0,.cells p.cells)]⟩:=by
   have h5:=h5
   cases hq:(p.ap b).expd with
   | ok l =>
    have h5:=h5 l hq
    have hll:=Z3 l
    show AtF 4 ⟨tmF (bdL b) pick++[(8,.slice (Tm.cellsL l) []),(9,.int .i64 0)],_⟩
    clear a2 xl xw aw ad
    generalize Tm.cellsL l=es at *
    obtain⟨k,n,s,a⟩:=p
    refine At.tree Z5 (ZaP k n s (Tm.cellsL a) (bdL b) pick es 0) ?_
    simp only[SS,hll]
    refine⟨fun h=>absurd trivial h,⟨fun _=>trivial,fun h=>h5 fun e=> ?_⟩⟩
    subst e
    exact h rfl
   | many =>
    clear a2 xl xw aw ad
    obtain⟨k,n,s,a⟩:=p
    refine At.tree Z5 (ZaP k n s (Tm.cellsL a) (bdL b) pick [] 5) ?_
    exact rfl
   | arg =>
    clear a2 xl xw aw ad
    obtain⟨k,n,s,a⟩:=p
    refine At.tree Z5 (ZaP k n s (Tm.cellsL a) (bdL b) pick [] 2) ?_
    exact rfl
  clear h5 xl xw aw ad
  generalize Tm.cellsL (xrL (p.ap b).expd)=es at *
  generalize xrE (p.ap b).expd=ee at *
  generalize p.ap b=t at *
  obtain⟨k,n,s,a⟩:=p
  obtain⟨kt,nt,st,ta⟩:=t
  refine At.tree Z5 (Znu k n s (Tm.cellsL a) (bdL b) pick kt nt st (Tm.cellsL ta)) ?_
  refine⟨a1, ?_⟩
  rw[Z8]
  refine At.tree Z5 (Znt k n s (Tm.cellsL a) (bdL b) pick kt nt st (Tm.cellsL ta) es ee) ?_
  refine⟨a2, ?_⟩
  rw[Z8]
  exact h4
 have h3:smlB b [p]=true->b.length<=150->FK 15 [.agg p.cells] (.bool p.valid)/\FK 13 [.slice (bdL b) []] (.bool (ZT b)):=fun e hB=>by
  obtain⟨s1,s2,s3,s4⟩:=Zds hpp hbw hB e
  have tp:=s1 p (List.mem_cons_self ..)
  exact⟨Z1G p hp (by have:=tp.2.2; omega),s4.va⟩
 generalize smlB b [p]=sm at hs h2 h3
 generalize p.valid=pv at h2 h3
 generalize ZT b=bv at h2 h3
 obtain⟨k,n,s,a⟩:=p
 refine FnOK.tree Z4 fp6 Z5 (Zqa k n s (Tm.cellsL a) (bdL b) pick) ?_
 rw[Z8]
 refine At.tree Z5 (Znw k n s (Tm.cellsL a) (bdL b) pick) ?_
 refine⟨hw, ?_⟩
 rw[Z8]
 refine At.tree Z5 (Znv k n s (Tm.cellsL a) (bdL b) pick sm pv bv) ?_
 cases sm
 ·exact⟨hs,rfl⟩
 ·refine⟨hs, ?_⟩
  simp only[SS]
  rw[hbe]
  refine⟨fun h=>(by first | trivial | cases h),fun _=>trivial,fun h=> ?_⟩
  obtain⟨v1,v2⟩:=h3 rfl (by omega)
  refine⟨v1,fun _=>trivial,fun q1=>⟨v2,fun _=>trivial,fun q2=> ?_⟩⟩
  exact h2 rfl (by omega) q1 q2
end Go.Proofs.YtobgkdlghljdlaaGreatDoor
/- What awake calls: the table. -/
namespace Go.Proofs.YtobgkdlghljdlaaGreatDoor
open Go.Sx
set_option maxRecDepth 100000
def ZpQ:List D->Option Tm
 | [.int .u8 k,.int .i64 n,.str s,.slice [] []]=>if 0<=k then some (.mk k.toNat n s []) else none
 | _=>none
def Zms:LD->Option (List Tm)
 | []=>some []
 | e::r=>match ZpQ e,Zms r with
  | some t,some l=>some (t::l)
  | _,_=>none
def ZdF:LD->Option (List (List Tm))
 | []=>some []
 | [.slice es []]::r=>match Zms es,ZdF r with
  | some l,some L=>some (l::L)
  | _,_=>none
 | _=>none
def resO:List Int->Option (List Int)
 | []=>some []
 | [n]=>some [n]
 | [a,b,c]=>if a=2/\b=4/\c=6 then some [2,4,6] else none
 | _=>none
def accO (s:LU) (L:List (List Tm)):List Int:=(Ze (opB s) (L.map Zf) 0 (List.replicate L.length 0,[])).2
def opF (f:FuncId) (xs:List D):Option D:=if f=88 then (match xs with
 | [.str s,.slice es ext]=>(match ZdF es with
  | some L=>if L.length<=1000/\(L.all fun l=>decide (l.length<=1000))=true/\(accO s L).length<=1000 then (match resO (accO s L) with
   | some res=>some (.own 4 35 (numC res))
   | none=>none) else none
  | none=>none)
 | _=>none) else libF f xs
abbrev nT (n:Int):List D:=[.int .u8 1,.int .i64 n,.str [],.slice [] []]
abbrev aT:List D:=[.int .u8 2,.int .i64 0,.str [97],.slice [] []]
abbrev oT (o:LU) (a b:List D):List D:=[.int .u8 5,.int .i64 0,.str o,.slice [a,b] []]
abbrev fT (a b:List D):List D:=[.int .u8 4,.int .i64 0,.str [102],.slice [a,b] []]
abbrev rT (a b:List D):List D:=[.int .u8 6,.int .i64 0,.str [],.slice [a,b] []]
abbrev bigT:List D:=fT (rT (nT 1) (nT 2)) (oT [42] (rT (nT 1) (nT 3)) (nT 2))
abbrev sixT:LD:=[fT (nT 1) (nT 2),fT (nT 1) (nT 4),fT (nT 1) (nT 6),fT (nT 2) (nT 2),fT (nT 2) (nT 4),fT (nT 2) (nT 6)]
abbrev f1T:List D:=fT (oT [45] (oT [42] (nT 2) (nT 3)) (nT 1)) aT
abbrev noT:D:= .tuple [.agg [.int .u8 0,.int .i64 0,.str [],.slice [] []],.bool false]
end Go.Proofs.YtobgkdlghljdlaaGreatDoor
/- Terms that awake reads. -/
namespace Go.Proofs.YtobgkdlghljdlaaGreatDoor
open Go.Sx
abbrev vT (s:LU):List D:=[.int .u8 3,.int .i64 0,.str s,.slice [] []]
abbrev xT:List D:=vT [88]
abbrev yT:List D:=vT [89]
abbrev gT (a:List D):List D:=[.int .u8 4,.int .i64 0,.str [103],.slice [a] []]
end Go.Proofs.YtobgkdlghljdlaaGreatDoor
