/- Small comparisons. -/
import Derived.Test.YtfoklncmfoogcaaGreatDoorArA
import Derived.Test.YtfoklncmfoogcaaGreatDoorSx8
set_option linter.unusedSectionVars false
set_option linter.unusedVariables false
set_option linter.unusedSimpArgs false
set_option linter.deprecated false
set_option maxRecDepth 100000
namespace Go.Proofs.YtfoklncmfoogcaaGreatDoor
open Go.Sx
def asmQ (r:D):QT:=fun d xs ob=>match ob with
 | []=>some (.ok (CallL Tryz.prog d xs [] fun r0 ob0=>r0=r/\ob0=[]) r [])
 | _=>none
theorem asmQ_ok (r:D):(asmQ r).OK:=by
 intro d xs ob rt h
 unfold asmQ at h
 split at h
 ·cases h; exact fun hp=>hp
 ·cases h

noncomputable def PNan (n:Int):Tr:=Tr.ret (D.bool !decide (n=n)) []
theorem PNan_eq (n:Int):goT Tryz.prog (ctr libT) 0 (finF true 0 rs75) 2000 [Fr.sc sc75] { tm:=envOf 0 [D.int .i64 n],ob:=[] }=PNan n:=by kernel_rfl
theorem nan_ok (n:Int):FnOK Tryz.prog 75 [.int .i64 n] (.bool false):=by
 refine FnOK.tree hdraw fp75 (ctr_ok libT_ok qnone_ok) (PNan_eq n) ?_
 unfold PNan
 simp[ok_ret]
def nanP:PT:=fun f xs=>match xs with
 | [.int .i64 n]=>if f=75 then some (.ok True (.bool false) []) else none
 | _=>none
theorem nanP_ok:nanP.OK:=by
 intro f xs rt h
 unfold nanP at h
 split at h
 ·split at h
  ·rename_i hf; subst hf; cases h; exact fun _=>nan_ok _
  ·cases h
 ·cases h
noncomputable def PCmp (a b:Int):Tr:=Tr.owe True (Tr.owe True (brT (decide (a<b)) (Tr.ret (D.int .i64 (-1:Int)) []) (brT (decide (b<a)) (Tr.ret (D.int .i64 (1:Int)) []) (Tr.ret (D.int .i64 (0:Int)) []))))
theorem PCmp_eq (a b:Int):goT Tryz.prog (ctr nanP) 0 (finF true 0 rs48) 2000 [Fr.sc sc48] { tm:=envOf 0 [D.int .i64 a,D.int .i64 b],ob:=[] }=PCmp a b:=by kernel_rfl
theorem ncmp_ok (a b:Int):FnOK Tryz.prog 48 [.int .i64 a,.int .i64 b] (.int .i64 (ncmp a b)):=by
 refine FnOK.tree hdraw fp48 (ctr_ok nanP_ok qnone_ok) (PCmp_eq a b) ?_
 unfold PCmp
 simp only[SS]
 refine⟨fun h=>by simp[ncmp,h],fun h=>⟨fun h2=> ?_,fun h2=> ?_⟩⟩
 ·simp[ncmp,h,h2]
 ·simp[ncmp,h,h2]
noncomputable def PIdx (es:List (List D)) (k:Int):Tr:=Tr.jmp (cut sc76 0) { tm:=[(0,D.slice es []),(1,D.int .u8 k),(7,D.int .i64 (↑(List.length es):Int)),(8,D.int .i64 (0:Int))],ob:=[] }
theorem PIdx_eq (es:List (List D)) (k:Int):goT Tryz.prog (ctr libT) 0 (finF true 0 rs76) 2000 [Fr.sc sc76] { tm:=envOf 0 [D.slice es [],D.int .u8 k],ob:=[] }=PIdx es k:=by kernel_rfl
def hdIx (es:List (List D)) (k n i:Int):St:=⟨[(0,.slice es []),(1,.int .u8 k),(7,.int .i64 n),(8,.int .i64 i)],[]⟩
noncomputable def PIdx2 (es:List (List D)) (k n i c:Int):Tr:=brT (decide (i<n)) (Tr.owe ((0:Int)<=i/\es[Int.toNat i]? = some [D.int .u8 c]) (brT (decide (k=c)) (Tr.ret (D.int .i64 i) []) (Tr.owe ((-9223372036854775808:Int)<=i+(1:Int)/\i+(1:Int)<=(9223372036854775807:Int)) (Tr.jmp (cut sc76 0) { tm:=[(0,D.slice es []),(1,D.int .u8 k),(7,D.int .i64 n),(8,D.int .i64 (i+(1:Int)))],ob:=[] })))) (Tr.ret (D.int .i64 (-1:Int)) [])
theorem PIdx2_eq (es:List (List D)) (k n i c:Int):goT Tryz.prog (ctr libT qnone (eOne [D.int .u8 c])) 0 (finF true 0 rs76) 2000 (cut sc76 0) (hdIx es k n i)=PIdx2 es k n i c:=by kernel_rfl
def ixF (k:Int):List Int->Int->Int
 | [],_=> -1
 | a::r,i=>if k=a then i else ixF k r (i+1)
theorem ix_at (l:List Int) (k:Int) (hl:l.length<=4611686018427387904): ∀ (m i:Nat),l.length-i=m->i<=l.length →
  At Tryz.prog 0 (cut sc76 0) (hdIx (intC .u8 l) k l.length i) (FinQ true 0 rs76 fun r _=>r= .int .i64 (ixF k (l.drop i) i)):=by
 intro m
 induction m with
 | zero =>
  intro i hm hi
  refine At.tree (ctr_ok libT_ok qnone_ok) (PIdx2_eq (intC .u8 l) k l.length i 0) ?_
  unfold PIdx2
  rw[List.drop_eq_nil_of_le (by omega)]
  simp only[SS]
  exact⟨fun h=>by omega,fun _=>rfl⟩
 | succ m ih =>
  intro i hm hi
  have h1:i<l.length:=by omega
  refine At.tree (ctr_ok libT_ok qnone_ok) (PIdx2_eq (intC .u8 l) k l.length i l[i]) ?_
  unfold PIdx2
  rw[drop_cons h1]
  simp only[SS,ixF]
  refine⟨fun _=>⟨⟨by omega,intC_get h1⟩,fun h=>by rw[if_pos h],fun h=>⟨by omega, ?_⟩⟩,fun h=>by omega⟩
  rw[if_neg h]; exact ih (i+1) (by omega) (by omega)
theorem idx_ok (k:Int):FnOK Tryz.prog 76 [.slice [[.int .u8 1],[.int .u8 2],[.int .u8 4],[.int .u8 3],[.int .u8 5],[.int .u8 6]] [],.int .u8 k] (.int .i64 (idxI k)):=by
 have h:=ix_at [1,2,4,3,5,6] k (by decide) _ 0 rfl (Nat.zero_le _)
 exact FnOK.tree hdraw fp76 (ctr_ok libT_ok qnone_ok) (PIdx_eq _ k) h
def idxP:PT:=fun f xs=>match xs with
 | [.slice [[.int .u8 1],[.int .u8 2],[.int .u8 4],[.int .u8 3],[.int .u8 5],[.int .u8 6]] [],.int .u8 k]=>if f=76 then some (.ok True (.int .i64 (idxI k)) []) else none
 | _=>none
theorem idxP_ok:idxP.OK:=by
 intro f xs rt h
 unfold idxP at h
 split at h
 ·split at h
  ·rename_i hf; subst hf; cases h; exact fun _=>idx_ok _
  ·cases h
 ·cases h
noncomputable def PRank (k:Int):Tr:=Tr.owe True (brT (decide ((0:Int)<=idxI k)) (Tr.ret (D.int .i64 (idxI k)) []) (Tr.owe ((-9223372036854775808:Int)<=k/\k<=(9223372036854775807:Int)) (Tr.owe ((-9223372036854775808:Int)<=(↑(6:Nat):Int)+k/\(↑(6:Nat):Int)+k<=(9223372036854775807:Int)) (Tr.ret (D.int .i64 ((↑(6:Nat):Int)+k)) []))))
theorem PRank_eq (k:Int):goT Tryz.prog (ctr idxP) 0 (finF true 0 rs49) 2000 [Fr.sc sc49] { tm:=envOf 0 [D.int .u8 k],ob:=[] }=PRank k:=by kernel_rfl
theorem rank_ok (k:Int) (hk:0<=k/\k<=255):FnOK Tryz.prog 49 [.int .u8 k] (.int .i64 (rkI k)):=by
 refine FnOK.tree hdraw fp49 (ctr_ok idxP_ok qnone_ok) (PRank_eq k) ?_
 unfold PRank
 simp only[SS]
 unfold idxI rkI
 refine⟨fun h=> ?_,fun h=>⟨by omega,⟨by omega, ?_⟩⟩⟩
 ·(repeat' split) <;> first | rfl | (split at h <;> omega) | (simp_all; done)
 ·(repeat' split) <;> first | omega | (simp_all; done)
noncomputable def POr (es:List (List D)):Tr:=Tr.jmp (cut sc50 0) { tm:=[(3,D.int .i64 (0:Int)),(6,D.slice es []),(7,D.int .i64 (↑(List.length es):Int)),(8,D.int .i64 (0:Int))],ob:=[] }
theorem POr_eq (es:List (List D)):goT Tryz.prog (ctr libT) 0 (finF true 0 rs50) 2000 [Fr.sc sc50] { tm:=envOf 0 [D.slice es []],ob:=[] }=POr es:=by kernel_rfl
def hdOr (es:List (List D)) (n i:Int):St:=⟨[(3,.int .i64 0),(6,.slice es []),(7,.int .i64 n),(8,.int .i64 i)],[]⟩
noncomputable def POr2 (es:List (List D)) (n i c:Int):Tr:=brT (decide (i<n)) (Tr.owe ((0:Int)<=i/\es[Int.toNat i]? = some [D.int .i64 c]) (brT (!decide (c=(0:Int))) (Tr.ret (D.int .i64 c) []) (Tr.owe ((-9223372036854775808:Int)<=i+(1:Int)/\i+(1:Int)<=(9223372036854775807:Int)) (Tr.jmp (cut sc50 0) { tm:=[(3,D.int .i64 (0:Int)),(6,D.slice es []),(7,D.int .i64 n),(8,D.int .i64 (i+(1:Int)))],ob:=[] })))) (Tr.ret (D.int .i64 (0:Int)) [])
theorem POr2_eq (es:List (List D)) (n i c:Int):goT Tryz.prog (ctr libT qnone (eOne [D.int .i64 c])) 0 (finF true 0 rs50) 2000 (cut sc50 0) (hdOr es n i)=POr2 es n i c:=by kernel_rfl
theorem or_at (l:List Int) (hl:l.length<=4611686018427387904): ∀ (m i:Nat),l.length-i=m->i<=l.length →
  At Tryz.prog 0 (cut sc50 0) (hdOr (intC .i64 l) l.length i) (FinQ true 0 rs50 fun r _=>r= .int .i64 (fst0 (l.drop i))):=by
 intro m
 induction m with
 | zero =>
  intro i hm hi
  refine At.tree (ctr_ok libT_ok qnone_ok) (POr2_eq (intC .i64 l) l.length i 0) ?_
  unfold POr2
  rw[List.drop_eq_nil_of_le (by omega)]
  simp only[SS]
  exact⟨fun h=>by omega,fun _=>rfl⟩
 | succ m ih =>
  intro i hm hi
  have h1:i<l.length:=by omega
  refine At.tree (ctr_ok libT_ok qnone_ok) (POr2_eq (intC .i64 l) l.length i l[i]) ?_
  unfold POr2
  rw[drop_cons h1]
  simp only[SS,fst0]
  refine⟨fun _=>⟨⟨by omega,intC_get h1⟩,fun h=>by rw[if_pos h],fun h=>⟨by omega, ?_⟩⟩,fun h=>by omega⟩
  rw[if_neg (by simpa using h)]; exact ih (i+1) (by omega) (by omega)
theorem or_ok (a b c d:Int):FnOK Tryz.prog 50 [.slice [[.int .i64 a],[.int .i64 b],[.int .i64 c],[.int .i64 d]] []] (.int .i64 (fst0 [a,b,c,d])):=by
 have h:=or_at [a,b,c,d] (by simp) _ 0 rfl (Nat.zero_le _)
 exact FnOK.tree hdraw fp50 (ctr_ok libT_ok qnone_ok) (POr_eq _) h
end Go.Proofs.YtfoklncmfoogcaaGreatDoor
