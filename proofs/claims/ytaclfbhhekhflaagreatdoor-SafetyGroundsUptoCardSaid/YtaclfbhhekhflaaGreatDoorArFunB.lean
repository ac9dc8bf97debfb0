/- Own work: a layer over the kit: plain data,a walk over it,its soundness. -/
import Derived.Test.YtaclfbhhekhflaaGreatDoorMtE
import Derived.Test.YtaclfbhhekhflaaGreatDoorSx8
set_option linter.all false
set_option maxRecDepth 100000
/- arith.functions: all rows of lists. -/
noncomputable section
namespace Go.Proofs.YtaclfbhhekhflaaGreatDoor
open Go.Sx
theorem Z7j (l:List Tm):Ze 4 (Tm.cellsL l):=by
 rw[Zn];exact Zbp Qq l
theorem ZhY (row:List Tm) (hr:row≠[]) (hl:row.length<=1073741824):CF 140 [.vec 0] [(0,.arr false 4 25 (Tm.cellsL row))]
  λr ob=>r=.vec 1/\ob=[(0,.arr false 4 25 (Tm.cellsL row)),(1,.arr true 4 25 (Tm.cellsL row))]:=by
 have ha:=Z7j row;have a:=Z5 row
 match row,hr with
 |x::r,_ =>
  simp only[Tm.cellsL] at ha a ⊢;refine CallL.tree Z3 Zr2 (Z2 Z1 Z0) (Zt2 x.cells (Tm.cellsL r)) ?_;rw[Z4,Z7];exact⟨⟨ha,by omega⟩,rfl,rfl⟩
theorem Z7p (s:LU) (L:List (List Tm)) (row:List Tm) (hr:row≠[]) (hl:row.length<=1073741824):CallL Tryz.prog (.yld 0) [.vec 1] ((0,recT .ready none (dsT (Zg L) 2 3 4))::obYA s (Zg L) (Tm.cellsL row))
  λr ob=>r=.bool true/\ob=(0,recT .ready none (dsT (Zg L) 2 3 4))::[(1,.arr false 4 25 (Tm.cellsL row)),(2,.cells [.slice (Zg L) []]),(3,.cells [.str s]),(4,.cells [.vec 5]),(5,.arr false 4 25 (Tm.cellsL (outF s row [])))]:=by
 refine CallL.yldT Z3 (Z2 Z18 (Zw _ _)) rfl (Zen s (Zg L) (Tm.cellsL row)) ?_;simp only[SS];refine⟨ZhY row hr hl,⟨by simp[Ze],by decide⟩,by decide,by decide,?_⟩;rfl
theorem Z9a {α:Type} (l:List α) (a b:α):(l++[a]).set l.length b=l++[b]:=by simp
theorem ZiD (s:LU) (L:List (List Tm)) (row a:List Tm) (hr:row≠[]) (hl:row.length<=1073741824) (h:(outF s row a).length<=1000):CallL Tryz.prog (.yld 0) [.vec 1] ((0,recT .ready none (dsT (Zg L) 2 3 4))::obYB s (Zg L) (Tm.cellsL row) (Tm.cellsL a))
  λr ob=>r=.bool true/\ob=(0,recT .ready none (dsT (Zg L) 2 3 4))::[(1,.arr false 4 25 (Tm.cellsL row)),(2,.cells [.slice (Zg L) []]),(3,.cells [.str s]),(4,.cells [.vec 6]),(6,.arr false 4 25 (Tm.cellsL (outF s row a)))]:=by
 have h2:a.length+1<=1000:=by simpa [outF] using h
 refine CallL.yldT Z3 (Z2 Z18 (Zw _ _)) rfl (Zsj s (Zg L) (Tm.cellsL row) (Tm.cellsL a)) ?_;simp only[SS,Z5,List.length_append,List.length_cons,List.length_nil];refine⟨ZhY row hr hl,⟨by simp[Ze],by omega⟩,by omega,by omega,?_⟩;have e:(Tm.cellsL a++[[dU 0,dI 0,dS [],dL [] []]]).set a.length [dU 4,dI 0,dS s,dL (Tm.cellsL row) []]=Tm.cellsL (outF s row a):=by
  rw[<- Z5 a,Z9a,outF,Qc];rfl
 rw[e];rfl
def FilA (s:LU) (L:List (List Tm)) (k:Nat) (row:List Tm):Prop:=CallL Tryz.prog (.func (.func 187) [] [.ptr 0 0,.ptr 1 0,.ptr 2 0,.ptr 3 0]) [.int .i64 k] (obFA s (Zg L) (Tm.cellsL row))
 λr ob=>r=.bool true/\ob=obFN 8 s (Zg L) (Tm.cellsL (Zh (outF s) (L.drop k) k (row,[])).1) (Tm.cellsL (Zh (outF s) (L.drop k) k (row,[])).2)
def FilB (s:LU) (L:List (List Tm)) (k:Nat) (row a:List Tm):Prop:=CallL Tryz.prog (.func (.func 187) [] [.ptr 0 0,.ptr 1 0,.ptr 2 0,.ptr 3 0]) [.int .i64 k] (obFN 8 s (Zg L) (Tm.cellsL row) (Tm.cellsL a))
 λr ob=>r=.bool true/\ob=obFN 9 s (Zg L) (Tm.cellsL (Zh (outF s) (L.drop k) k (row,a)).1) (Tm.cellsL (Zh (outF s) (L.drop k) k (row,a)).2)
abbrev fldT (s:LU) (L:List (List Tm)) (k:Nat) (l:List Tm) (p:List Tm × List Tm):List Tm × List Tm:=l.foldl (λp x=>Zh (outF s) (L.drop (k+1)) (k+1) (p.1.set k x,p.2)) p
theorem Zrz (s:LU) (L:List (List Tm)) (k:Nat) (hk:k<L.length) (v:L.length<=1073741824) (l:List Tm) (hl:l.length<=1073741824)
  (HF: ∀ row a,row.length=L.length->(Zh (outF s) (L.drop (k+1)) (k+1) (row,a)).2.length<=1000->FilB s L (k+1) row a): ∀ (m i:Nat) (row a:List Tm),l.length-i=m->i<=l.length->row.length=L.length->(fldT s L k (l.drop i) (row,a)).2.length<=1000 →
  At Tryz.prog 8 (cut Z38 0) (hdF k l.length i (Tm.cellsL l) (obFN 8 s (Zg L) (Tm.cellsL row) (Tm.cellsL a))) (FinQ false 8 Z4v λr ob=>r=.bool true/\ob=obFN 8 s (Zg L) (Tm.cellsL (fldT s L k (l.drop i) (row,a)).1) (Tm.cellsL (fldT s L k (l.drop i) (row,a)).2)):=by
 intro m;induction m with
 |zero =>
  intro i row a hm hi b j;refine At.tree (Z2 Z1 (Za _ _)) (ZeR s (Zg L) (Tm.cellsL row) (Tm.cellsL a) (Tm.cellsL l) [] [] k l.length i 0 0 [] []) ?_;have e:l.drop i=[]:=List.drop_eq_nil_of_le (by omega);rw[e];simp only[SS];exact⟨λh=>by omega,λ_=>rfl⟩
 |succ m u =>
  intro i row a hm hi b j;have h1:i<l.length:=by omega
  have hx:=ZN h1;rw[fldT,Zc h1,List.foldl_cons] at j;simp only[fldT];rw[Zc h1,List.foldl_cons];have d:(Zh (outF s) (L.drop (k+1)) (k+1) (row.set k l[i],a)).1.length=L.length:=by rw[QI];simpa using b
  have c:=Z09 (z:=List.length) (Z3k s) (L.drop (k+1)) k (l.drop (i+1)) (Zh (outF s) (L.drop (k+1)) (k+1) (row.set k l[i],a));have g:=HF (row.set k l[i]) a (by simpa using b) (Nat.le_trans c j);unfold FilB at g;have n:=u (i+1) (Zh (outF s) (L.drop (k+1)) (k+1) (row.set k l[i],a)).1 (Zh (outF s) (L.drop (k+1)) (k+1) (row.set k l[i],a)).2 (by omega) (by omega) d j;simp only[fldT] at n;generalize Zh (outF s) (L.drop (k+1)) (k+1) (row.set k l[i],a)=p at g n ⊢;generalize l[i]=x at hx g;obtain⟨q,nx,t,o⟩:=x;have f:=Z1D row k q nx t o;refine At.tree (Z2 Z1 (Za _ _)) (ZeR s (Zg L) (Tm.cellsL row) (Tm.cellsL a) (Tm.cellsL l) (Tm.cellsL p.1) (Tm.cellsL p.2) k l.length i q nx t (Tm.cellsL o)) ?_;simp only[SS,Z5,f];exact⟨λ_=>⟨⟨by omega,hx⟩,by omega,by omega,by omega,g,by omega,n⟩,λh=>by omega⟩
theorem Zry (s:LU) (L:List (List Tm)) (k:Nat) (hk:k<L.length) (v:L.length<=1073741824) (l:List Tm) (hl:l.length<=1073741824)
  (HF: ∀ row a,row.length=L.length->(Zh (outF s) (L.drop (k+1)) (k+1) (row,a)).2.length<=1000->FilB s L (k+1) row a): ∀ (m i:Nat) (row a:List Tm),l.length-i=m->i<=l.length->row.length=L.length->(fldT s L k (l.drop i) (row,a)).2.length<=1000 →
  At Tryz.prog 9 (cut Z38 0) (hdF k l.length i (Tm.cellsL l) (obFN 9 s (Zg L) (Tm.cellsL row) (Tm.cellsL a))) (FinQ false 9 Z4v λr ob=>r=.bool true/\ob=obFN 9 s (Zg L) (Tm.cellsL (fldT s L k (l.drop i) (row,a)).1) (Tm.cellsL (fldT s L k (l.drop i) (row,a)).2)):=by
 intro m;induction m with
 |zero =>
  intro i row a hm hi b j;refine At.tree (Z2 Z1 (Za _ _)) (ZeQ s (Zg L) (Tm.cellsL row) (Tm.cellsL a) (Tm.cellsL l) [] [] k l.length i 0 0 [] []) ?_;have e:l.drop i=[]:=List.drop_eq_nil_of_le (by omega);rw[e];simp only[SS];exact⟨λh=>by omega,λ_=>rfl⟩
 |succ m u =>
  intro i row a hm hi b j;have h1:i<l.length:=by omega
  have hx:=ZN h1;rw[fldT,Zc h1,List.foldl_cons] at j;simp only[fldT];rw[Zc h1,List.foldl_cons];have d:(Zh (outF s) (L.drop (k+1)) (k+1) (row.set k l[i],a)).1.length=L.length:=by rw[QI];simpa using b
  have c:=Z09 (z:=List.length) (Z3k s) (L.drop (k+1)) k (l.drop (i+1)) (Zh (outF s) (L.drop (k+1)) (k+1) (row.set k l[i],a));have g:=HF (row.set k l[i]) a (by simpa using b) (Nat.le_trans c j);unfold FilB at g;have n:=u (i+1) (Zh (outF s) (L.drop (k+1)) (k+1) (row.set k l[i],a)).1 (Zh (outF s) (L.drop (k+1)) (k+1) (row.set k l[i],a)).2 (by omega) (by omega) d j;simp only[fldT] at n;generalize Zh (outF s) (L.drop (k+1)) (k+1) (row.set k l[i],a)=p at g n ⊢;generalize l[i]=x at hx g;obtain⟨q,nx,t,o⟩:=x;have f:=Z1D row k q nx t o;refine At.tree (Z2 Z1 (Za _ _)) (ZeQ s (Zg L) (Tm.cellsL row) (Tm.cellsL a) (Tm.cellsL l) (Tm.cellsL p.1) (Tm.cellsL p.2) k l.length i q nx t (Tm.cellsL o)) ?_;simp only[SS,Z5,f];exact⟨λ_=>⟨⟨by omega,hx⟩,by omega,by omega,by omega,g,by omega,n⟩,λh=>by omega⟩
theorem Zvg (s:LU) (L:List (List Tm)) (C:L.length<=1073741824) (hl: ∀ l∈L,l≠[]/\l.length<=1073741824) (h0:L≠[]): ∀ (m k:Nat),L.length-k=m->k<=L.length->(∀ row:List Tm,row.length=L.length->(Zh (outF s) (L.drop k) k (row,[])).2.length<=1000->FilA s L k row) ∧
  (∀ row a:List Tm,row.length=L.length->(Zh (outF s) (L.drop k) k (row,a)).2.length<=1000->FilB s L k row a):=by
 have D:0<L.length:=List.length_pos_iff.2 h0;intro m;induction m with
 |zero =>
  intro k hm hk;have e:L.drop k=[]:=List.drop_eq_nil_of_le (by omega);have i: ∀ row:List Tm,row.length=L.length->row≠[]:=λrow h e=>by rw[e] at h;simp at h;omega
  refine⟨λrow b c=>?_,λrow a b c=>?_⟩
  ·unfold FilA;rw[e] at c ⊢;simp only[Zh] at c ⊢;refine CallL.tree Z3 Zdp (Z2 Z1 (Za _ _)) (Zim s (Zg L) (Tm.cellsL row) [] (Tm.cellsL row) (Tm.cellsL (outF s row [])) k) ?_;simp only[SS,ZX];exact⟨λ_=>⟨Z7p s L row (i row b) (by omega),rfl⟩,λh=>by omega⟩
  ·unfold FilB;rw[e] at c ⊢;simp only[Zh] at c ⊢;refine CallL.tree Z3 Zdp (Z2 Z1 (Za _ _)) (Zil s (Zg L) (Tm.cellsL row) (Tm.cellsL a) [] (Tm.cellsL row) (Tm.cellsL (outF s row a)) k) ?_;simp only[SS,ZX];exact⟨λ_=>⟨ZiD s L row a (i row b) (by omega) c,rfl⟩,λh=>by omega⟩
 |succ m G =>
  intro k hm hk;have h1:k<L.length:=by omega
  obtain⟨B,v⟩:=G (k+1) (by omega) (by omega);obtain⟨y,t⟩:=hl L[k] (List.getElem_mem h1);have A:=Z06 h1;have w:=Zc h1;generalize E:L[k]=l at y t A w;obtain⟨x,q,rfl⟩: ∃ x q,l=x::q:=by
   cases l with
   |nil=>exact absurd rfl y
   |cons x q=>exact⟨x,q,rfl⟩
  have F:q.length+1<=1073741824:=by simpa using t
  refine⟨λrow b c=>?_,λrow a b c=>?_⟩
  ·rw[w] at c;simp only[Zh,List.foldl_cons] at c;have d:=Z09 (z:=List.length) (Z3k s) (L.drop (k+1)) k q (Zh (outF s) (L.drop (k+1)) (k+1) (row.set k x,[]));have u:=B (row.set k x) (by simpa using b) (Nat.le_trans d c);have g:(Zh (outF s) (L.drop (k+1)) (k+1) (row.set k x,[])).1.length=L.length:=by rw[QI];simpa using b
   have r:=Zrz s L k h1 C (x::q) t v _ 1 (Zh (outF s) (L.drop (k+1)) (k+1) (row.set k x,[])).1 (Zh (outF s) (L.drop (k+1)) (k+1) (row.set k x,[])).2 rfl (by simp) g c;unfold FilA at u ⊢;rw[w];simp only[Zh,List.foldl_cons];simp only[fldT,List.drop_succ_cons,List.drop_zero] at r;generalize Zh (outF s) (L.drop (k+1)) (k+1) (row.set k x,[])=p at u r;obtain⟨n,nx,o,f⟩:=x;have j:=Z1D row k n nx o f;refine CallL.tree Z3 Zdp (Z2 Z1 (Za _ _)) (Zim s (Zg L) (Tm.cellsL row) (Tm.cellsL (.mk n nx o f::q)) [] [] k) ?_;simp only[SS,ZX];refine⟨λh=>by omega,λ_=>⟨⟨by omega,A⟩,?_⟩⟩;refine At.tree (Z2 Z1 (Za _ _)) (Znh s (Zg L) (Tm.cellsL row) (Tm.cellsL (.mk n nx o f::q)) (Tm.cellsL p.1) (Tm.cellsL p.2) k (Tm.cellsL (.mk n nx o f::q)).length 0 n nx o (Tm.cellsL f)) ?_;simp only[SS,Z5,List.length_cons,j];refine⟨λ_=>⟨⟨by omega,rfl⟩,by omega,by omega,by omega,u,by omega,?_⟩,λh=>by omega⟩;rw[List.length_cons] at r;exact r
  ·rw[w] at c;simp only[Zh,List.foldl_cons] at c;have d:=Z09 (z:=List.length) (Z3k s) (L.drop (k+1)) k q (Zh (outF s) (L.drop (k+1)) (k+1) (row.set k x,a));have u:=v (row.set k x) a (by simpa using b) (Nat.le_trans d c);have g:(Zh (outF s) (L.drop (k+1)) (k+1) (row.set k x,a)).1.length=L.length:=by rw[QI];simpa using b
   have r:=Zry s L k h1 C (x::q) t v _ 1 (Zh (outF s) (L.drop (k+1)) (k+1) (row.set k x,a)).1 (Zh (outF s) (L.drop (k+1)) (k+1) (row.set k x,a)).2 rfl (by simp) g c;unfold FilB at u ⊢;rw[w];simp only[Zh,List.foldl_cons];simp only[fldT,List.drop_succ_cons,List.drop_zero] at r;generalize Zh (outF s) (L.drop (k+1)) (k+1) (row.set k x,a)=p at u r;obtain⟨n,nx,o,f⟩:=x;have j:=Z1D row k n nx o f;refine CallL.tree Z3 Zdp (Z2 Z1 (Za _ _)) (Zil s (Zg L) (Tm.cellsL row) (Tm.cellsL a) (Tm.cellsL (.mk n nx o f::q)) [] [] k) ?_;simp only[SS,ZX];refine⟨λh=>by omega,λ_=>⟨⟨by omega,A⟩,?_⟩⟩;refine At.tree (Z2 Z1 (Za _ _)) (Zng s (Zg L) (Tm.cellsL row) (Tm.cellsL a) (Tm.cellsL (.mk n nx o f::q)) (Tm.cellsL p.1) (Tm.cellsL p.2) k (Tm.cellsL (.mk n nx o f::q)).length 0 n nx o (Tm.cellsL f)) ?_;simp only[SS,Z5,List.length_cons,j];refine⟨λ_=>⟨⟨by omega,rfl⟩,by omega,by omega,by omega,u,by omega,?_⟩,λh=>by omega⟩;rw[List.length_cons] at r;exact r
end Go.Proofs.YtaclfbhhekhflaaGreatDoor
/- arith.set,run. -/
namespace Go.Proofs.YtaclfbhhekhflaaGreatDoor
open Go.Sx
theorem ZiX {q a:List Int} (h:Z4j tab (go Tryz.prog tab 3000) (.func (.func 136) [] []) [.vec 0] [(0,.arr false 4 25 (numC q))]=some (.vec 0,[(0,.arr false 4 25 (numC a))])):SetC q a :=
 CallL.frz (Za3 Z3 Z2X 3000 h)
theorem set0:SetC [] []:=ZiX (by kernel_rfl)
end Go.Proofs.YtaclfbhhekhflaaGreatDoor
/- arith.copied,expand,Eval: their trees. -/
namespace Go.Proofs.YtaclfbhhekhflaaGreatDoor
open Go.Sx
theorem ZmX (k n:Int) (s:LU) (a:LD):gP (ctr libT) rs64 sc64 [dA (tC k n s a)]=(Jm (cut sc64 0) {tm:=[(1,dP 0 0),(2,dP 1 0),(9,dL a []),(10,dI (↑(List.length a):Int)),(11,dI 0)],ob:=[(0,oC [dU k,dI n,dS s,D.nils]),(1,oC [dU 0,dI 0,dS [],D.nils])]}:Tr):=by kernel_rfl
def Zui (k n:Int) (s:LU) (a:LD) (m i:Int):St:=⟨[(1,.ptr 0 0),(2,.ptr 1 0),(9,.slice a []),(10,.int .i64 m),(11,.int .i64 i)],[(0,.cells [.int .u8 k,.int .i64 n,.str s,.nils]),(1,.cells [.int .u8 0,.int .i64 0,.str [],.nils])]⟩
def Zqw (k n:Int) (s:LU) (a row:LD) (m i:Int):St:=⟨[(1,.ptr 0 0),(2,.ptr 1 0),(9,.slice a []),(10,.int .i64 m),(11,.int .i64 i)],[(0,.cells [.int .u8 k,.int .i64 n,.str s,.vec 2]),(1,.cells [.int .u8 0,.int .i64 0,.str [],.nils]),(2,.arr true 4 25 row)]⟩
theorem ZeC (k n:Int) (s:LU) (a:LD) (m:Int) (i:Nat) (c nx:Int) (d:LU) (b:LD):let A:=[dU c,dI nx,dS d,dL b []];let B:=((↑i:Int)+(1:Int));let C:=tC c nx d b;let E:=cut sc64 0;gH (ctr (asmP (dA C)) Qr (eOne C)) 0 true rs64 E (Zui k n s a m (↑i:Int))=(brT (decide ((↑i:Int)<m)) (Ow ((0:Int)<=(↑i:Int)/\a[Int.toNat (↑i:Int)]? = some A) (Ow (FK 64 [dA A] (dA A)) (Ow (Ze 4 [A]/\1<=1073741824) (I8 B (Jm E {tm:=[(1,dP 0 0),(2,dP 1 0),(9,dL a []),(10,dI m),(11,dI B)],ob:=[(0,oC [dU k,dI n,dS s,dV 2]),(1,oC [dU 0,dI 0,dS [],D.nils]),(2,oR true 4 25 [A])]}))))) (Rt (dA [dU k,dI n,dS s,dL [] []]) []):Tr):=by intro A B C E;kernel_rfl
theorem ZeB (k n:Int) (s:LU) (a row:LD) (m:Int) (i:Nat) (c nx:Int) (d:LU) (b:LD):let A:=[dU c,dI nx,dS d,dL b []];let B:=((↑i:Int)+(1:Int));let C:=tC c nx d b;let E:=cut sc64 0;gH (ctr (asmP (dA C)) Qr (eOne C)) 0 true rs64 E (Zqw k n s a row m (↑i:Int))=(brT (decide ((↑i:Int)<m)) (Ow ((0:Int)<=(↑i:Int)/\a[Int.toNat (↑i:Int)]? = some A) (Ow (FK 64 [dA A] (dA A)) (Ow (Ze 4 [A]/\List.length row+1<=1073741824) (I8 B (Jm E {tm:=[(1,dP 0 0),(2,dP 1 0),(9,dL a []),(10,dI m),(11,dI B)],ob:=[(0,oC [dU k,dI n,dS s,dV 2]),(1,oC [dU 0,dI 0,dS [],D.nils]),(2,oR true 4 25 (row++[A]))]}))))) (Rt (dA [dU k,dI n,dS s,dL row []]) []):Tr):=by intro A B C E;kernel_rfl
def exD (b:Bool) (es:LD):D:=match b with
 |true=>.own 4 25 es
 |false=>.slice [] []
theorem ZmR (k n:Int) (s:LU):let A:=[dU k,dI n,dS s,dL [] []];let B:=tC k n s [];gP (ctr (asmP (dA B))) rs63 sc63 [dA B]=(Ow (FK 64 [dA A] (dA A)) (Rt (D.own 4 25 [A]) []):Tr):=by intro A B;kernel_rfl
theorem ZmQ (k n:Int) (s:LU) (x:List D) (a:LD):gP (ctr libT) rs63 sc63 [dA (tC k n s (x::a))]=(Jm (cut sc63 0) {tm:=[(1,dP 0 0),(3,dV 1),(14,dL (x::a) []),(15,dI (↑(List.length (x::a)):Int)),(16,dI 0)],ob:=[(0,oC [dU k,dI n,dS s,dL (x::a) []]),(1,oR true 1 23 [])]}:Tr):=by kernel_rfl
def hdEx (k n:Int) (s:LU) (a row:LD) (m i:Int):St:=⟨[(1,.ptr 0 0),(3,.vec 1),(14,.slice a []),(15,.int .i64 m),(16,.int .i64 i)],[(0,.cells [.int .u8 k,.int .i64 n,.str s,.slice a []]),(1,.arr true 1 23 row)]⟩
end Go.Proofs.YtaclfbhhekhflaaGreatDoor
/- arith.copied,functions,expand,Eval: proved. -/
namespace Go.Proofs.YtaclfbhhekhflaaGreatDoor
open Go.Sx
def CopP (x:Tm):Prop:=FK 64 [.agg x.cells] (.agg x.cells)
theorem ZrU (k n:Int) (s:LU) (l:List Tm) (hl:l.length<=1000) (H: ∀ x∈l,CopP x): ∀ (m i:Nat),l.length-i=m->i<=l.length →
  At Tryz.prog 0 (cut sc64 0) (Zqw k n s (Tm.cellsL l) (Tm.cellsL (l.take i)) l.length i) (FinQ true 0 rs64 λr _=>r=.agg [.int .u8 k,.int .i64 n,.str s,.slice (Tm.cellsL l) []]):=by
 intro m;induction m with
 |zero =>
  intro i hm hi;refine At.tree (Z2 (Zm _) Z0) (ZeB k n s (Tm.cellsL l) (Tm.cellsL (l.take i)) l.length i 0 0 [] []) ?_;rw[List.take_of_length_le (show l.length<=i by omega)];simp only[SS];exact⟨λh=>by omega,λ_=>trivial⟩
 |succ m e =>
  intro i hm hi;have h1:i<l.length:=by omega
  have hx:=ZN h1;have a:=H _ (List.getElem_mem h1);have b:=e (i+1) (by omega) (by omega);have d:Tm.cellsL (l.take (i+1))=Tm.cellsL (l.take i)++[l[i].cells]:=by
   rw[List.take_add_one,List.getElem?_eq_getElem h1,Qc];rfl
  rw[d] at b;unfold CopP at a;generalize l[i]=x at hx a b;obtain⟨f,nx,g,c⟩:=x;refine At.tree (Z2 (Zm _) Z0) (ZeB k n s (Tm.cellsL l) (Tm.cellsL (l.take i)) l.length i f nx g (Tm.cellsL c)) ?_;simp only[SS,Z5,List.length_take];exact⟨λ_=>⟨⟨by omega,hx⟩,a,⟨by simp[Ze],by omega⟩,by omega,b⟩,λh=>by omega⟩
theorem ZdW: ∀ x:Tm,x.few 1000->CopP x
 |.mk k n s l,hx=>by
  simp only[Tm.few] at hx;obtain⟨hl,g⟩:=hx;have H: ∀ x∈l,CopP x:=λx hx=>ZdW x (Qu.1 g x hx);have a:=ZrU k n s l hl H _ 1 rfl;unfold CopP;refine FnOK.tree Z3 fp64 (Z2 Z1 Z0) (ZmX k n s (Tm.cellsL l)) ?_;rw[Z6,Z5]
  match l,hl,H,a with
  |[],_,_,_ =>
   refine At.tree (Z2 (Zm _) Z0) (ZeC k n s [] 0 0 0 0 [] []) ?_;rw[Zs];refine⟨λh=>?_,λ_=>rfl⟩
   have:=of_decide_eq_true h;omega
  |.mk d nx e b::r,hl,H,a =>
   have c:=H _ (List.mem_cons_self ..);have f:=a (by simp);unfold CopP at c;refine At.tree (Z2 (Zm _) Z0) (ZeC k n s (Tm.cellsL (.mk d nx e b::r)) (r.length+1:Nat) 0 d nx e (Tm.cellsL b)) ?_;simp only[SS];exact⟨λ_=>⟨⟨by omega,rfl⟩,c,⟨by simp[Ze],by omega⟩,by omega,f⟩,λh=>by omega⟩
termination_by x=>SizeOf.sizeOf x
decreasing_by
 have:=List.sizeOf_lt_of_mem hx;simp only[Tm.mk.sizeOf_spec];omega
def empI:List (List Tm)->Int->Int
 |[],_=>-1
 |a::r,i=>if a.isEmpty=true then i else empI r (i+1)
theorem ZdK: ∀ (l:List (List Tm)) (i:Int),0<=i->decide (0<=empI l i)=l.any List.isEmpty
 |[],i,_=>by simp[empI]
 |a::r,i,hi=>by
  have b:=ZdK r (i+1) (by omega);by_cases hf:a.isEmpty=true
  ·simp[empI,hf,hi]
  ·rw[empI,if_neg hf,List.any_cons,b,Bool.eq_false_iff.2 hf,Bool.false_or]
theorem ZtA (es:LD):gC (ctr libT) 0 Zk9 Zji [] [dL es []] [] []=(Rt (dB (decide ((↑(List.length es):Int)=(0:Int)))) []:Tr):=by kernel_rfl
theorem Zvh (l:List Tm):CF 138 [.slice (Tm.cellsL l) []] [] λr ob=>r=.bool l.isEmpty/\ob=[]:=by
 refine CallL.tree Z3 Zr4 (Z2 Z1 Z0) (ZtA (Tm.cellsL l)) ?_;have e:decide (((Tm.cellsL l).length:Int)=0)=l.isEmpty:=by
  rw[Z5,Bool.eq_iff_iff,decide_eq_true_eq,List.isEmpty_iff];rw[<- List.length_eq_zero_iff];omega
 rw[Z7,e];exact⟨rfl,rfl⟩
theorem ZmE (es ext:LD):gC (ctr libT) 0 Zch ZaE [] [dL es ext,dF 138 [] []] [] []=(Jm (cut ZaE 0) {tm:=[(0,dL es ext),(1,dF 138 [] []),(7,dI (↑(List.length es):Int)),(8,dI 0)],ob:=[]}:Tr):=by kernel_rfl
def Zqt (es ext:LD) (n i:Int):St:=⟨[(0,.slice es ext),(1,.func (.func 138) [] []),(7,.int .i64 n),(8,.int .i64 i)],[]⟩
theorem Zaj (es ext:LD) (m i:Int) (xs:LD) (b:Bool):let A:=[dL xs []];let B:=cut ZaE 0;let C:=(i+(1:Int));gH (ctr libT (asmQ (dB b)) (eOne A)) 0 false Zch B (Zqt es ext m i)=(brT (decide (i<m)) (Ow ((0:Int)<=i/\es[Int.toNat i]? = some A) (Ow (CQ 138 A [] (dB b) []) (brT b (Rt (dI i) []) (I8 C (Jm B {tm:=[(0,dL es ext),(1,dF 138 [] []),(7,dI m),(8,dI C)],ob:=[]}))))) (Rt (dI (-1:Int)) []):Tr):=by intro A B C;kernel_rfl
theorem ZmV (es ext:LD) (r:Int):let A:=[dL es ext,dF 138 [] []];gC (ctr libT (asmO (dI r) [])) 0 Zka Zjj [] A [] []=(Ow (CQ 185 A [] (dI r) []) (Rt (dB (decide ((0:Int)<=r))) []):Tr):=by intro A;kernel_rfl
theorem Zqm (ext:LD) (L:List (List Tm)) (hl:L.length<=1000): ∀ (m i:Nat),L.length-i=m->i<=L.length →
  At Tryz.prog 0 (cut ZaE 0) (Zqt (Zg L) ext L.length i) (FinQ false 0 Zch λr ob=>r=.int .i64 (empI (L.drop i) i)/\ob=[]):=by
 intro m;induction m with
 |zero =>
  intro i hm hi;refine At.tree (Z2 Z1 (Z0Q _)) (Zaj (Zg L) ext L.length i [] true) ?_;rw[List.drop_eq_nil_of_le (by omega)];simp only[SS];exact⟨λh=>by omega,λ_=>rfl⟩
 |succ m b =>
  intro i hm hi;have h1:i<L.length:=by omega
  have a:=b (i+1) (by omega) (by omega);rw[Zc h1];simp only[empI];refine At.tree (Z2 Z1 (Z0Q _)) (Zaj (Zg L) ext L.length i (Tm.cellsL L[i]) L[i].isEmpty) ?_;simp only[SS];refine⟨λ_=>⟨⟨by omega,Z06 h1⟩,Zvh _,λh=>by rw[if_pos h],λh=>⟨by omega,?_⟩⟩,λh=>by omega⟩;rw[if_neg (by simp[h])];exact a
theorem ZdT (ext:LD) (L:List (List Tm)) (hl:L.length<=1000):CF 137 [.slice (Zg L) ext,.func (.func 138) [] []] [] λr ob=>r=.bool (L.any List.isEmpty)/\ob=[]:=by
 have a:CF 185 [.slice (Zg L) ext,.func (.func 138) [] []] [] λr ob=>r=.int .i64 (empI L 0)/\ob=[]:=by
  refine CallL.tree Z3 ZqR (Z2 Z1 Z0) (ZmE (Zg L) ext) ?_;simp only[SS,ZX];exact Zqm ext L hl _ 0 rfl (Nat.zero_le _)
 refine CallL.tree Z3 Zr5 (Z2 Z1 (Zw _ _)) (ZmV (Zg L) ext (empI L 0)) ?_;simp only[SS];exact⟨a,ZdK L 0 (by decide)⟩
def prdL (L:List (List Tm)) (i:Nat):Nat:=((L.take i).map List.length).prod
theorem Z3I {L:List (List Tm)} {i:Nat} (h:i<L.length):prdL L (i+1)=prdL L i*L[i].length:=by
 unfold prdL;rw[List.take_add_one,List.getElem?_eq_getElem h,Option.toList_some,List.map_append,List.prod_append];simp
theorem ZjK (s:LU) (L:List (List Tm)) (c:L.length<=1000) (hl: ∀ l∈L,l≠[]/\l.length<=1000) (h0:L≠[]) (b:(ZJ L).length<=1000) :
  CallL Tryz.prog (.func (.func 186) [] [.ptr 0 0]) [.yld 1] (obTA s (Zg L)) λr ob=>r=.tuple []/\ob=obTB s (Zg L) (Tm.cellsL ((ZJ L).map (λr=>.mk 4 0 s r))):=by
 have hf:=Zdn s L (List.replicate L.length (.mk 0 0 [] [])) (by simp);have a:=(Zvg s L (by omega) (λl hx=>⟨(hl l hx).1,by have:=(hl l hx).2;omega⟩) h0 _ 0 rfl (Nat.zero_le _)).1 (List.replicate L.length (.mk 0 0 [] [])) (by simp) (by rw[List.drop_zero,hf];simpa using b);unfold FilA at a;rw[List.drop_zero,hf] at a;have e:Tm.cellsL (List.replicate L.length (.mk 0 0 [] []))=List.replicate L.length [.int .u8 0,.int .i64 0,.str [],.slice [] []]:=by
  rw[Zn,List.map_replicate];rfl
 rw[e] at a;refine CallL.tree Z3 ZqQ (Z2 Z1 (Za _ _)) (Zt1 s (Zg L) (Tm.cellsL (Zh (outF s) L 0 (List.replicate L.length (.mk 0 0 [] []),[])).1) (Tm.cellsL ((ZJ L).map (λr=>.mk 4 0 s r)))) ?_;simp only[SS,ZX];exact⟨⟨by omega,by omega,by omega⟩,a,rfl⟩
theorem Zrx (s:LU) (L:List (List Tm)) (a:L.length<=1000) (hl: ∀ l∈L,l≠[]/\l.length<=1000) (h0:L≠[]) (b:(ZJ L).length<=1000) :
  At Tryz.prog 0 (frg sc96 3) ⟨[(1,.slice (Zg L) []),(2,.ptr 0 0),(4,.ptr 1 0)],[(0,.cells [.str s]),(1,.cells [.nils])]⟩ (FinQ true 0 rs96 λr _=>r=.own 4 25 (Tm.cellsL ((ZJ L).map (λr=>.mk 4 0 s r)))):=by
 refine At.tree (Z2 Z1 (QT.or_ok ZfN (Za _ _))) (ZmM s (Zg L) [] (Tm.cellsL ((ZJ L).map (λr=>.mk 4 0 s r)))) ?_;rw[Z4,Z4,Z6];refine⟨trivial,ZjK s L a hl h0 b,?_⟩;refine At.tree (Z2 Z1 Z0) (ZmL (Tm.cellsL ((ZJ L).map (λr=>.mk 4 0 s r)))) ?_;exact rfl
theorem Zrs (s:LU) (L:List (List Tm)) (b:L.length<=1000) (hl: ∀ l∈L,l≠[]/\l.length<=1000) (h0:L≠[]) (c:(ZJ L).length<=1000) (hp: ∀ i,i<=L.length->prdL L i<=1000): ∀ (m i:Nat),L.length-i=m->i<=L.length →
  At Tryz.prog 0 (cut sc96 0) (hdFn s (Zg L) [] (prdL L i) L.length i) (FinQ true 0 rs96 λr _=>r=.own 4 25 (Tm.cellsL ((ZJ L).map (λr=>.mk 4 0 s r)))):=by
 intro m;induction m with
 |zero =>
  intro i hm hi;refine At.tree (Z2 Z18 Z0) (Zey s (Zg L) [] (prdL L i) L.length i []) ?_;simp only[SS];exact⟨λh=>by omega,λ_=>Zrx s L b hl h0 c⟩
 |succ m d =>
  intro i hm hi;have h1:i<L.length:=by omega
  have a:=d (i+1) (by omega) (by omega);have h2:=hp (i+1) (by omega);have e:((prdL L (i+1):Nat):Int)=(prdL L i:Int)*(L[i].length:Int):=by rw[Z3I h1];exact Int.natCast_mul _ _
  refine At.tree (Z2 Z18 Z0) (Zey s (Zg L) [] (prdL L i) L.length i (Tm.cellsL L[i])) ?_;rw[Z5,<- e];simp only[SS];exact⟨λ_=>⟨⟨by omega,Z06 h1⟩,by omega,by omega,by omega,a⟩,λh=>by omega⟩
theorem ZqE (s:LU) (L:List (List Tm)) (b:L.length<=1000) (hl: ∀ l∈L,l.length<=1000) (h0:L≠[]) (c:(ZJ L).length<=1000) (hp: ∀ i,i<=L.length->prdL L i<=1000) :
  FK 96 [.str s,.slice (Zg L) []] (exD (!(L.any List.isEmpty)) (Tm.cellsL ((ZJ L).map (λr=>.mk 4 0 s r)))):=by
 refine FnOK.tree Z3 fp96 (Z2 Z1 Z0) (Zi6 s (Zg L) []) ?_;rw[Z6];refine At.tree (Z2 Z1 (Za _ _)) (Zez s (Zg L) [] (L.any List.isEmpty)) ?_;rw[Z4,Zs,Z7,Z6];refine⟨ZdT [] L b,λh=>by rw[h];rfl,λh=>?_⟩;rw[h];have a: ∀ l∈L,l≠[]/\l.length<=1000:=λl hx=>⟨λe=>by
  have:=List.any_eq_false.1 h l hx;rw[e] at this;exact this rfl,hl l hx⟩
 refine At.tree (Z2 Z1 Z0) (ZmO s (Zg L) []) ?_;rw[Z6];refine At.tree (Z2 Z1 Z0) (ZmN s (Zg L) []) ?_;rw[Z6,ZX];exact Zrs s L b a h0 c hp _ 0 rfl (Nat.zero_le _)
end Go.Proofs.YtaclfbhhekhflaaGreatDoor
