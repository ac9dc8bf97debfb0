/- Equality,sizes. -/
import Derived.Test.YtfoklncmfoogcaaGreatDoorCmB
set_option linter.unusedSectionVars false
set_option linter.unusedVariables false
set_option linter.unusedSimpArgs false
set_option linter.deprecated false
set_option maxRecDepth 100000
namespace Go.Proofs.YtfoklncmfoogcaaGreatDoor
open Go.Sx
noncomputable def PSz (k n:Int) (s:List UInt8) (a:List (List D)) (m c:Int):Tr:=Tr.owe ((-9223372036854775808:Int)<=m-(1:Int)/\m-(1:Int)<=(9223372036854775807:Int)) (Tr.owe (FnOK Tryz.prog 38 [D.slice a [],D.int .i64 (m-(1:Int))] (D.int .i64 c)) (Tr.owe ((-9223372036854775808:Int)<=(1:Int)+c/\(1:Int)+c<=(9223372036854775807:Int)) (Tr.ret (D.int .i64 ((1:Int)+c)) [])))
theorem PSz_eq (k n:Int) (s:List UInt8) (a:List (List D)) (m c:Int):goT Tryz.prog (ctr (asmP (D.int .i64 c))) 0 (finF true 0 rs13) 2000 [Fr.sc sc13] { tm:=envOf 0 [D.agg [D.int .u8 k,D.int .i64 n,D.str s,D.slice a []],D.int .i64 m],ob:=[] }=PSz k n s a m c:=by kernel_rfl
noncomputable def PSzs (a:List (List D)) (m:Int):Tr:=Tr.jmp (cut sc38 0) { tm:=[(0,D.slice a []),(1,D.int .i64 m),(5,D.int .i64 (0:Int)),(6,D.int .i64 (0:Int))],ob:=[] }
theorem PSzs_eq (a:List (List D)) (m:Int):goT Tryz.prog (ctr libT) 0 (finF true 0 rs38) 2000 [Fr.sc sc38] { tm:=envOf 0 [D.slice a [],D.int .i64 m],ob:=[] }=PSzs a m:=by kernel_rfl
def hdSz (a:List (List D)) (m n i:Int):St:=⟨[(0,.slice a []),(1,.int .i64 m),(5,.int .i64 n),(6,.int .i64 i)],[]⟩
noncomputable def PSzs2 (a:List (List D)) (m n i kx nx:Int) (sx:List UInt8) (ax:List (List D)) (c:Int):Tr:=brT (decide (i<(↑(List.length a):Int))) (brT (decide (n<=m)) (Tr.owe ((0:Int)<=i/\a[Int.toNat i]? = some [D.int .u8 kx,D.int .i64 nx,D.str sx,D.slice ax []]) (Tr.owe ((-9223372036854775808:Int)<=m-n/\m-n<=(9223372036854775807:Int)) (Tr.owe (FnOK Tryz.prog 13 [D.agg [D.int .u8 kx,D.int .i64 nx,D.str sx,D.slice ax []],D.int .i64 (m-n)] (D.int .i64 c)) (Tr.owe ((-9223372036854775808:Int)<=n+c/\n+c<=(9223372036854775807:Int)) (Tr.owe ((-9223372036854775808:Int)<=i+(1:Int)/\i+(1:Int)<=(9223372036854775807:Int)) (Tr.jmp (cut sc38 0) { tm:=[(0,D.slice a []),(1,D.int .i64 m),(5,D.int .i64 (n+c)),(6,D.int .i64 (i+(1:Int)))],ob:=[] })))))) (Tr.ret (D.int .i64 n) [])) (Tr.ret (D.int .i64 n) [])
theorem PSzs2_eq (a:List (List D)) (m n i kx nx:Int) (sx:List UInt8) (ax:List (List D)) (c:Int):goT Tryz.prog (ctr (asmP (D.int .i64 c)) qnone (eOne [D.int .u8 kx,D.int .i64 nx,D.str sx,D.slice ax []])) 0 (finF true 0 rs38) 2000 (cut sc38 0) (hdSz a m n i)=PSzs2 a m n i kx nx sx ax c:=by kernel_rfl
noncomputable def PEq (k n:Int) (s:List UInt8) (a:List (List D)) (k' n':Int) (s':List UInt8) (a':List (List D)) (c:Int):Tr:=Tr.owe (FnOK Tryz.prog 24 [D.agg [D.int .u8 k,D.int .i64 n,D.str s,D.slice a []],D.agg [D.int .u8 k',D.int .i64 n',D.str s',D.slice a' []]] (D.int .i64 c)) (Tr.ret (D.bool (decide (c=(0:Int)))) [])
theorem PEq_eq (k n:Int) (s:List UInt8) (a:List (List D)) (k' n':Int) (s':List UInt8) (a':List (List D)) (c:Int):goT Tryz.prog (ctr (asmP (D.int .i64 c))) 0 (finF true 0 rs19) 2000 [Fr.sc sc19] { tm:=envOf 0 [D.agg [D.int .u8 k,D.int .i64 n,D.str s,D.slice a []],D.agg [D.int .u8 k',D.int .i64 n',D.str s',D.slice a' []]],ob:=[] }=PEq k n s a k' n' s' a' c:=by kernel_rfl
def SzP (x:Tm):Prop:= ∀ m:Int,0<=m->m<=1000000->FnOK Tryz.prog 13 [.agg x.cells,.int .i64 m] (.int .i64 (x.sz m))
theorem szs_at (l:List Tm) (hl:l.length<=281474976710656) (H: ∀ x∈l,SzP x) (M:Int) (hM: -1<=M/\M<=1000000): ∀ (m i:Nat) (n:Int),l.length-i=m->i<=l.length->0<=n->n<=M+1 →
  At Tryz.prog 0 (cut sc38 0) (hdSz (Tm.cellsL l) M n i) (FinQ true 0 rs38 fun r _=>r= .int .i64 (Tm.szL (l.drop i) M n)):=by
 intro m
 induction m with
 | zero =>
  intro i n hm hi hn hn2
  refine At.tree (ctr_ok (asmP_ok (.int .i64 0)) qnone_ok) (PSzs2_eq (Tm.cellsL l) M n i 0 0 [] [] 0) ?_
  unfold PSzs2
  rw[List.drop_eq_nil_of_le (show l.length<=i by omega)]
  simp only[SS,cellsL_length]
  exact⟨fun h=>by omega,fun _=>rfl⟩
 | succ m ih =>
  intro i n hm hi hn hn2
  have h1:i<l.length:=by omega
  have hx:=cellsL_get h1
  have hC:=H _ (List.getElem_mem h1)
  rw[drop_cons h1]
  simp only[Tm.szL]
  by_cases hnm:n<=M
  ·rw[if_pos hnm]
   have hC2:=hC (M-n) (by omega) (by omega)
   have hge:=sz_ge l[i] (M-n)
   have hle:=sz_le l[i] (M-n) (by omega)
   have hI:=ih (i+1) (n+Tm.sz l[i] (M-n)) (by omega) (by omega) (by omega) (by omega)
   generalize Tm.sz l[i] (M-n)=c at hC2 hI hge hle ⊢
   generalize l[i]=x at hx hC2
   obtain⟨kx,nx,sx,ax⟩:=x
   refine At.tree (ctr_ok (asmP_ok (.int .i64 c)) qnone_ok) (PSzs2_eq (Tm.cellsL l) M n i kx nx sx (Tm.cellsL ax) c) ?_
   unfold PSzs2
   simp only[SS,cellsL_length]
   exact⟨fun _=>⟨fun _=>⟨⟨by omega,hx⟩,by omega,hC2,by omega,by omega,hI⟩,fun h=>by omega⟩,fun h=>by omega⟩
  ·rw[if_neg hnm]
   refine At.tree (ctr_ok (asmP_ok (.int .i64 0)) qnone_ok) (PSzs2_eq (Tm.cellsL l) M n i 0 0 [] [] 0) ?_
   unfold PSzs2
   simp only[SS,cellsL_length]
   exact⟨fun _=>⟨fun h=>by omega,fun _=>trivial⟩,fun h=>by omega⟩
theorem szs_ok (l:List Tm) (hl:l.length<=281474976710656) (H: ∀ x∈l,SzP x) (M:Int) (hM: -1<=M/\M<=1000000):FnOK Tryz.prog 38 [.slice (Tm.cellsL l) [],.int .i64 M] (.int .i64 (Tm.szL l M 0)) :=
 FnOK.tree hdraw fp38 (ctr_ok libT_ok qnone_ok) (PSzs_eq (Tm.cellsL l) M) (szs_at l hl H M hM _ 0 0 rfl (Nat.zero_le _) (by omega) (by omega))
theorem sz_ok: ∀ (x:Tm),x.wf 281474976710656->SzP x
 | .mk k n s l,hx=>by
  simp only[Tm.wf] at hx
  obtain⟨hk,hn1,hn2,hs,hl,hw⟩:=hx
  intro m h0 h1
  have hC:=szs_ok l hl (fun x hx=>sz_ok x (wf_get hw hx)) (m-1) (by omega)
  have hge:=szL_ge l (m-1) 0
  have hle:=szL_le l (m-1) 0 (by omega)
  refine FnOK.tree hdraw fp13 (ctr_ok (asmP_ok (.int .i64 (Tm.szL l (m-1) 0))) qnone_ok) (PSz_eq k n s (Tm.cellsL l) m (Tm.szL l (m-1) 0)) ?_
  unfold PSz
  simp only[SS]
  exact⟨by omega,hC,by omega,rfl⟩
termination_by x=>SizeOf.sizeOf x
decreasing_by
 have:=List.sizeOf_lt_of_mem hx
 simp only[Tm.mk.sizeOf_spec]
 omega
theorem pureC:pureF Tryz.prog 24=true:=by kernel_rfl
theorem cmp_ok (x y:Tm) (hx:x.wf 281474976710656) (hy:y.wf 281474976710656):FnOK Tryz.prog 24 [.agg x.cells,.agg y.cells] (.int .i64 (x.cmp y)) :=
 FnOK.of_call pureC ((compC_ok x y hx hy).mono fun r ob ⟨h1,h2⟩=>by subst h1; subst h2; exact .inr ⟨rfl,rfl⟩)
theorem equal_ok (x y:Tm) (hx:x.wf 281474976710656) (hy:y.wf 281474976710656):FnOK Tryz.prog 19 [.agg x.cells,.agg y.cells] (.bool (x.eqb y)):=by
 have hC:=cmp_ok x y hx hy
 rw[eqb_cmp]
 generalize x.cmp y=c at hC ⊢
 obtain⟨k,n,s,l⟩:=x
 obtain⟨k',n',s',l'⟩:=y
 refine FnOK.tree hdraw fp19 (ctr_ok (asmP_ok (.int .i64 c)) qnone_ok) (PEq_eq k n s (Tm.cellsL l) k' n' s' (Tm.cellsL l') c) ?_
 unfold PEq
 simp only[SS]
 exact hC
def sCtr (l:List (Nat × D)):Ctr:=⟨fun t f az=>match lk l t with | some r=>some (.ok (FnOK Tryz.prog f az r) r []) | none=>none,fun _=>qnone,noE⟩
theorem sCtr_ok (l:List (Nat × D)):(sCtr l).OK Tryz.prog:=by
 refine⟨fun t f az rt h=> ?_,fun _=>qnone_ok⟩
 simp only[sCtr] at h
 split at h
 ·cases h; exact fun hp=>hp
 ·cases h
end Go.Proofs.YtfoklncmfoogcaaGreatDoor
