/- arith.functions: all rows of lists. -/
import Derived.Test.YtfoklncmfoogcaaGreatDoorArFun
set_option linter.unusedSectionVars false
set_option linter.unusedVariables false
set_option linter.unusedSimpArgs false
set_option linter.deprecated false
set_option maxRecDepth 100000
namespace Go.Proofs.YtfoklncmfoogcaaGreatDoor
open Go.Sx
theorem allLen_cells (l:List Tm):allLen 4 (Tm.cellsL l):=by
 rw[cellsL_map]
 exact allLen_map cells_length l
theorem clo_ok (row:List Tm) (hr:row≠[]) (hl:row.length<=1073741824):CallL Tryz.prog (.func (.func 88) [] []) [.vec 0] [(0,.arr false 4 33 (Tm.cellsL row))]
  fun r ob=>r= .vec 1/\ob=[(0,.arr false 4 33 (Tm.cellsL row)),(1,.arr true 4 33 (Tm.cellsL row))]:=by
 have ha:=allLen_cells row
 have hn:=cellsL_length row
 match row,hr with
 | x::r,_ =>
  simp only[Tm.cellsL] at ha hn ⊢
  refine CallL.tree hdraw fp88 (ctr_ok libT_ok qnone_ok) (FCl_eq x.cells (Tm.cellsL r)) ?_
  unfold FCl
  rw[ok_owe,ok_ret]
  exact⟨⟨ha,by omega⟩,rfl,rfl⟩
theorem yldA_ok (s:List UInt8) (L:List (List Tm)) (row:List Tm) (hr:row≠[]) (hl:row.length<=1073741824):CallL Tryz.prog (.yld 0) [.vec 1] ((0,recT .ready none (dsT (partD L) 2 3 4))::obYA s (partD L) (Tm.cellsL row))
  fun r ob=>r= .bool true/\ob=(0,recT .ready none (dsT (partD L) 2 3 4))::[(1,.arr false 4 33 (Tm.cellsL row)),(2,.cells [.slice (partD L) []]),(3,.cells [.str s]),(4,.cells [.vec 5]),(5,.arr false 4 33 (Tm.cellsL (outF s row [])))]:=by
 refine CallL.yldT hdraw (ctr_ok limP_ok (asmO_ok _ _)) rfl (TyA_eq s (partD L) (Tm.cellsL row)) ?_
 unfold TyA
 simp only[SS]
 refine⟨clo_ok row hr hl,⟨by simp[allLen],by decide⟩,by decide,by decide, ?_⟩
 rfl
theorem set_last {α:Type} (l:List α) (a b:α):(l++[a]).set l.length b=l++[b]:=by simp
theorem yldB_ok (s:List UInt8) (L:List (List Tm)) (row acc:List Tm) (hr:row≠[]) (hl:row.length<=1073741824) (h:(outF s row acc).length<=1000):CallL Tryz.prog (.yld 0) [.vec 1] ((0,recT .ready none (dsT (partD L) 2 3 4))::obYB s (partD L) (Tm.cellsL row) (Tm.cellsL acc))
  fun r ob=>r= .bool true/\ob=(0,recT .ready none (dsT (partD L) 2 3 4))::[(1,.arr false 4 33 (Tm.cellsL row)),(2,.cells [.slice (partD L) []]),(3,.cells [.str s]),(4,.cells [.vec 6]),(6,.arr false 4 33 (Tm.cellsL (outF s row acc)))]:=by
 have h2:acc.length+1<=1000:=by simpa [outF] using h
 refine CallL.yldT hdraw (ctr_ok limP_ok (asmO_ok _ _)) rfl (TyB_eq s (partD L) (Tm.cellsL row) (Tm.cellsL acc)) ?_
 unfold TyB
 simp only[SS,cellsL_length,List.length_append,List.length_cons,List.length_nil]
 refine⟨clo_ok row hr hl,⟨by simp[allLen],by omega⟩,by omega,by omega, ?_⟩
 have e:(Tm.cellsL acc++[[D.int .u8 0,D.int .i64 0,D.str [],D.slice [] []]]).set acc.length [D.int .u8 4,D.int .i64 0,D.str s,D.slice (Tm.cellsL row) []]=Tm.cellsL (outF s row acc):=by
  rw[<- cellsL_length acc,set_last,outF,cellsL_app]; rfl
 rw[e]
 rfl
def FilA (s:List UInt8) (L:List (List Tm)) (k:Nat) (row:List Tm):Prop:=CallL Tryz.prog (.func (.func 106) [] [.ptr 0 0,.ptr 1 0,.ptr 2 0,.ptr 3 0]) [.int .i64 k] (obFA s (partD L) (Tm.cellsL row))
 fun r ob=>r= .bool true/\ob=obFN 8 s (partD L) (Tm.cellsL (fillS (outF s) (L.drop k) k (row,[])).1) (Tm.cellsL (fillS (outF s) (L.drop k) k (row,[])).2)
def FilB (s:List UInt8) (L:List (List Tm)) (k:Nat) (row acc:List Tm):Prop:=CallL Tryz.prog (.func (.func 106) [] [.ptr 0 0,.ptr 1 0,.ptr 2 0,.ptr 3 0]) [.int .i64 k] (obFN 8 s (partD L) (Tm.cellsL row) (Tm.cellsL acc))
 fun r ob=>r= .bool true/\ob=obFN 9 s (partD L) (Tm.cellsL (fillS (outF s) (L.drop k) k (row,acc)).1) (Tm.cellsL (fillS (outF s) (L.drop k) k (row,acc)).2)
abbrev fldT (s:List UInt8) (L:List (List Tm)) (k:Nat) (l:List Tm) (p:List Tm × List Tm):List Tm × List Tm:=l.foldl (fun p x=>fillS (outF s) (L.drop (k+1)) (k+1) (p.1.set k x,p.2)) p
theorem flC_at (s:List UInt8) (L:List (List Tm)) (k:Nat) (hk:k<L.length) (hL:L.length<=1073741824) (l:List Tm) (hl:l.length<=1073741824)
  (HF: ∀ row acc,row.length=L.length->(fillS (outF s) (L.drop (k+1)) (k+1) (row,acc)).2.length<=1000->FilB s L (k+1) row acc): ∀ (m i:Nat) (row acc:List Tm),l.length-i=m->i<=l.length->row.length=L.length->(fldT s L k (l.drop i) (row,acc)).2.length<=1000 →
  At Tryz.prog 8 (cut sc106 0) (hdF k l.length i (Tm.cellsL l) (obFN 8 s (partD L) (Tm.cellsL row) (Tm.cellsL acc))) (FinQ false 8 rs106 fun r ob=>r= .bool true/\ob=obFN 8 s (partD L) (Tm.cellsL (fldT s L k (l.drop i) (row,acc)).1) (Tm.cellsL (fldT s L k (l.drop i) (row,acc)).2)):=by
 intro m
 induction m with
 | zero =>
  intro i row acc hm hi hrow hz
  refine At.tree (ctr_ok libT_ok (asmA_ok _ _)) (FlC2_eq s (partD L) (Tm.cellsL row) (Tm.cellsL acc) (Tm.cellsL l) [] [] k l.length i 0 0 [] []) ?_
  unfold FlC2
  have e:l.drop i=[]:=List.drop_eq_nil_of_le (by omega)
  rw[e]
  simp only[SS]
  exact⟨fun h=>by omega,fun _=>rfl⟩
 | succ m ih =>
  intro i row acc hm hi hrow hz
  have h1:i<l.length:=by omega
  have hx:=cellsL_get h1
  rw[fldT,drop_cons h1,List.foldl_cons] at hz
  simp only[fldT]
  rw[drop_cons h1,List.foldl_cons]
  have hlen:(fillS (outF s) (L.drop (k+1)) (k+1) (row.set k l[i],acc)).1.length=L.length:=by rw[fillS_len]; simpa using hrow
  have hmono:=fold_mono (z:=List.length) (outF_len s) (L.drop (k+1)) k (l.drop (i+1)) (fillS (outF s) (L.drop (k+1)) (k+1) (row.set k l[i],acc))
  have hC:=HF (row.set k l[i]) acc (by simpa using hrow) (Nat.le_trans hmono hz)
  unfold FilB at hC
  have hI:=ih (i+1) (fillS (outF s) (L.drop (k+1)) (k+1) (row.set k l[i],acc)).1 (fillS (outF s) (L.drop (k+1)) (k+1) (row.set k l[i],acc)).2 (by omega) (by omega) hlen hz
  simp only[fldT] at hI
  generalize fillS (outF s) (L.drop (k+1)) (k+1) (row.set k l[i],acc)=p at hC hI ⊢
  generalize l[i]=x at hx hC
  obtain⟨kx,nx,sx,ax⟩:=x
  have hset:=cellsL_set row k kx nx sx ax
  refine At.tree (ctr_ok libT_ok (asmA_ok _ _)) (FlC2_eq s (partD L) (Tm.cellsL row) (Tm.cellsL acc) (Tm.cellsL l) (Tm.cellsL p.1) (Tm.cellsL p.2) k l.length i kx nx sx (Tm.cellsL ax)) ?_
  unfold FlC2
  simp only[SS,cellsL_length,hset]
  exact⟨fun _=>⟨⟨by omega,hx⟩,by omega,by omega,by omega,hC,by omega,hI⟩,fun h=>by omega⟩
theorem flD_at (s:List UInt8) (L:List (List Tm)) (k:Nat) (hk:k<L.length) (hL:L.length<=1073741824) (l:List Tm) (hl:l.length<=1073741824)
  (HF: ∀ row acc,row.length=L.length->(fillS (outF s) (L.drop (k+1)) (k+1) (row,acc)).2.length<=1000->FilB s L (k+1) row acc): ∀ (m i:Nat) (row acc:List Tm),l.length-i=m->i<=l.length->row.length=L.length->(fldT s L k (l.drop i) (row,acc)).2.length<=1000 →
  At Tryz.prog 9 (cut sc106 0) (hdF k l.length i (Tm.cellsL l) (obFN 9 s (partD L) (Tm.cellsL row) (Tm.cellsL acc))) (FinQ false 9 rs106 fun r ob=>r= .bool true/\ob=obFN 9 s (partD L) (Tm.cellsL (fldT s L k (l.drop i) (row,acc)).1) (Tm.cellsL (fldT s L k (l.drop i) (row,acc)).2)):=by
 intro m
 induction m with
 | zero =>
  intro i row acc hm hi hrow hz
  refine At.tree (ctr_ok libT_ok (asmA_ok _ _)) (FlD2_eq s (partD L) (Tm.cellsL row) (Tm.cellsL acc) (Tm.cellsL l) [] [] k l.length i 0 0 [] []) ?_
  unfold FlD2
  have e:l.drop i=[]:=List.drop_eq_nil_of_le (by omega)
  rw[e]
  simp only[SS]
  exact⟨fun h=>by omega,fun _=>rfl⟩
 | succ m ih =>
  intro i row acc hm hi hrow hz
  have h1:i<l.length:=by omega
  have hx:=cellsL_get h1
  rw[fldT,drop_cons h1,List.foldl_cons] at hz
  simp only[fldT]
  rw[drop_cons h1,List.foldl_cons]
  have hlen:(fillS (outF s) (L.drop (k+1)) (k+1) (row.set k l[i],acc)).1.length=L.length:=by rw[fillS_len]; simpa using hrow
  have hmono:=fold_mono (z:=List.length) (outF_len s) (L.drop (k+1)) k (l.drop (i+1)) (fillS (outF s) (L.drop (k+1)) (k+1) (row.set k l[i],acc))
  have hC:=HF (row.set k l[i]) acc (by simpa using hrow) (Nat.le_trans hmono hz)
  unfold FilB at hC
  have hI:=ih (i+1) (fillS (outF s) (L.drop (k+1)) (k+1) (row.set k l[i],acc)).1 (fillS (outF s) (L.drop (k+1)) (k+1) (row.set k l[i],acc)).2 (by omega) (by omega) hlen hz
  simp only[fldT] at hI
  generalize fillS (outF s) (L.drop (k+1)) (k+1) (row.set k l[i],acc)=p at hC hI ⊢
  generalize l[i]=x at hx hC
  obtain⟨kx,nx,sx,ax⟩:=x
  have hset:=cellsL_set row k kx nx sx ax
  refine At.tree (ctr_ok libT_ok (asmA_ok _ _)) (FlD2_eq s (partD L) (Tm.cellsL row) (Tm.cellsL acc) (Tm.cellsL l) (Tm.cellsL p.1) (Tm.cellsL p.2) k l.length i kx nx sx (Tm.cellsL ax)) ?_
  unfold FlD2
  simp only[SS,cellsL_length,hset]
  exact⟨fun _=>⟨⟨by omega,hx⟩,by omega,by omega,by omega,hC,by omega,hI⟩,fun h=>by omega⟩
theorem filAB (s:List UInt8) (L:List (List Tm)) (hL:L.length<=1073741824) (hl: ∀ l∈L,l≠[]/\l.length<=1073741824) (h0:L≠[]): ∀ (m k:Nat),L.length-k=m->k<=L.length->(∀ row:List Tm,row.length=L.length->(fillS (outF s) (L.drop k) k (row,[])).2.length<=1000->FilA s L k row) ∧
  (∀ row acc:List Tm,row.length=L.length->(fillS (outF s) (L.drop k) k (row,acc)).2.length<=1000->FilB s L k row acc):=by
 have hL0:0<L.length:=List.length_pos_iff.2 h0
 intro m
 induction m with
 | zero =>
  intro k hm hk
  have e:L.drop k=[]:=List.drop_eq_nil_of_le (by omega)
  have hrow0: ∀ row:List Tm,row.length=L.length->row≠[]:=fun row h e=>by rw[e] at h; simp at h; omega
  refine⟨fun row hrow hz=> ?_,fun row acc hrow hz=> ?_⟩
  ·unfold FilA
   rw[e] at hz ⊢
   simp only[fillS] at hz ⊢
   refine CallL.tree hdraw fp106 (ctr_ok libT_ok (asmA_ok _ _)) (FlA_eq s (partD L) (Tm.cellsL row) [] (Tm.cellsL row) (Tm.cellsL (outF s row [])) k) ?_
   unfold FlA
   simp only[SS,partD_len]
   exact⟨fun _=>⟨yldA_ok s L row (hrow0 row hrow) (by omega),rfl⟩,fun h=>by omega⟩
  ·unfold FilB
   rw[e] at hz ⊢
   simp only[fillS] at hz ⊢
   refine CallL.tree hdraw fp106 (ctr_ok libT_ok (asmA_ok _ _)) (FlB_eq s (partD L) (Tm.cellsL row) (Tm.cellsL acc) [] (Tm.cellsL row) (Tm.cellsL (outF s row acc)) k) ?_
   unfold FlB
   simp only[SS,partD_len]
   exact⟨fun _=>⟨yldB_ok s L row acc (hrow0 row hrow) (by omega) hz,rfl⟩,fun h=>by omega⟩
 | succ m ih =>
  intro k hm hk
  have h1:k<L.length:=by omega
  obtain⟨ihA,ihB⟩:=ih (k+1) (by omega) (by omega)
  obtain⟨hne,hlk⟩:=hl L[k] (List.getElem_mem h1)
  have hg:=partD_get h1
  have hd:=drop_cons h1
  generalize hlq:L[k]=l at hne hlk hg hd
  obtain⟨x,q,rfl⟩: ∃ x q,l=x::q:=by
   cases l with
   | nil=>exact absurd rfl hne
   | cons x q=>exact⟨x,q,rfl⟩
  have hql:q.length+1<=1073741824:=by simpa using hlk
  refine⟨fun row hrow hz=> ?_,fun row acc hrow hz=> ?_⟩
  ·rw[hd] at hz
   simp only[fillS,List.foldl_cons] at hz
   have hmono:=fold_mono (z:=List.length) (outF_len s) (L.drop (k+1)) k q (fillS (outF s) (L.drop (k+1)) (k+1) (row.set k x,[]))
   have hC:=ihA (row.set k x) (by simpa using hrow) (Nat.le_trans hmono hz)
   have hlen:(fillS (outF s) (L.drop (k+1)) (k+1) (row.set k x,[])).1.length=L.length:=by rw[fillS_len]; simpa using hrow
   have hI:=flC_at s L k h1 hL (x::q) hlk ihB _ 1 (fillS (outF s) (L.drop (k+1)) (k+1) (row.set k x,[])).1 (fillS (outF s) (L.drop (k+1)) (k+1) (row.set k x,[])).2 rfl (by simp) hlen hz
   unfold FilA at hC ⊢
   rw[hd]
   simp only[fillS,List.foldl_cons]
   simp only[fldT,List.drop_succ_cons,List.drop_zero] at hI
   generalize fillS (outF s) (L.drop (k+1)) (k+1) (row.set k x,[])=p at hC hI
   obtain⟨kx,nx,sx,ax⟩:=x
   have hset:=cellsL_set row k kx nx sx ax
   refine CallL.tree hdraw fp106 (ctr_ok libT_ok (asmA_ok _ _)) (FlA_eq s (partD L) (Tm.cellsL row) (Tm.cellsL (.mk kx nx sx ax::q)) [] [] k) ?_
   unfold FlA
   simp only[SS,partD_len]
   refine⟨fun h=>by omega,fun _=>⟨⟨by omega,hg⟩, ?_⟩⟩
   refine At.tree (ctr_ok libT_ok (asmA_ok _ _)) (FlA2_eq s (partD L) (Tm.cellsL row) (Tm.cellsL (.mk kx nx sx ax::q)) (Tm.cellsL p.1) (Tm.cellsL p.2) k (Tm.cellsL (.mk kx nx sx ax::q)).length 0 kx nx sx (Tm.cellsL ax)) ?_
   unfold FlA2
   simp only[SS,cellsL_length,List.length_cons,hset]
   refine⟨fun _=>⟨⟨by omega,rfl⟩,by omega,by omega,by omega,hC,by omega, ?_⟩,fun h=>by omega⟩
   rw[List.length_cons] at hI
   exact hI
  ·rw[hd] at hz
   simp only[fillS,List.foldl_cons] at hz
   have hmono:=fold_mono (z:=List.length) (outF_len s) (L.drop (k+1)) k q (fillS (outF s) (L.drop (k+1)) (k+1) (row.set k x,acc))
   have hC:=ihB (row.set k x) acc (by simpa using hrow) (Nat.le_trans hmono hz)
   have hlen:(fillS (outF s) (L.drop (k+1)) (k+1) (row.set k x,acc)).1.length=L.length:=by rw[fillS_len]; simpa using hrow
   have hI:=flD_at s L k h1 hL (x::q) hlk ihB _ 1 (fillS (outF s) (L.drop (k+1)) (k+1) (row.set k x,acc)).1 (fillS (outF s) (L.drop (k+1)) (k+1) (row.set k x,acc)).2 rfl (by simp) hlen hz
   unfold FilB at hC ⊢
   rw[hd]
   simp only[fillS,List.foldl_cons]
   simp only[fldT,List.drop_succ_cons,List.drop_zero] at hI
   generalize fillS (outF s) (L.drop (k+1)) (k+1) (row.set k x,acc)=p at hC hI
   obtain⟨kx,nx,sx,ax⟩:=x
   have hset:=cellsL_set row k kx nx sx ax
   refine CallL.tree hdraw fp106 (ctr_ok libT_ok (asmA_ok _ _)) (FlB_eq s (partD L) (Tm.cellsL row) (Tm.cellsL acc) (Tm.cellsL (.mk kx nx sx ax::q)) [] [] k) ?_
   unfold FlB
   simp only[SS,partD_len]
   refine⟨fun h=>by omega,fun _=>⟨⟨by omega,hg⟩, ?_⟩⟩
   refine At.tree (ctr_ok libT_ok (asmA_ok _ _)) (FlB2_eq s (partD L) (Tm.cellsL row) (Tm.cellsL acc) (Tm.cellsL (.mk kx nx sx ax::q)) (Tm.cellsL p.1) (Tm.cellsL p.2) k (Tm.cellsL (.mk kx nx sx ax::q)).length 0 kx nx sx (Tm.cellsL ax)) ?_
   unfold FlB2
   simp only[SS,cellsL_length,List.length_cons,hset]
   refine⟨fun _=>⟨⟨by omega,rfl⟩,by omega,by omega,by omega,hC,by omega, ?_⟩,fun h=>by omega⟩
   rw[List.length_cons] at hI
   exact hI
end Go.Proofs.YtfoklncmfoogcaaGreatDoor
