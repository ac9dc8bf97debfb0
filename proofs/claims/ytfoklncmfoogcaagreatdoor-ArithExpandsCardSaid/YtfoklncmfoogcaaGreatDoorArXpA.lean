/- slices.Min,slices.Max,arith.interval. -/
import Derived.Test.YtfoklncmfoogcaaGreatDoorArExB
import Derived.Test.YtfoklncmfoogcaaGreatDoorArSrt
import Derived.Test.YtfoklncmfoogcaaGreatDoorSx10
set_option linter.unusedSectionVars false
set_option linter.unusedVariables false
set_option linter.unusedSimpArgs false
set_option linter.deprecated false
set_option maxRecDepth 100000
namespace Go.Proofs.YtfoklncmfoogcaaGreatDoor
open Go.Sx
noncomputable def PMin (es:List (List D)) (x:Int):Tr:=brT (decide ((↑(List.length es):Int)<(1:Int))) (Tr.owe (some (D.raw (Value.iface 9 (valV (D.str [(115:UInt8),(108:UInt8),(105:UInt8),(99:UInt8),(101:UInt8),(115:UInt8),(46:UInt8),(77:UInt8),(105:UInt8),(110:UInt8),(58:UInt8),(32:UInt8),(101:UInt8),(109:UInt8),(112:UInt8),(116:UInt8),(121:UInt8),(32:UInt8),(108:UInt8),(105:UInt8),(115:UInt8),(116:UInt8)]))))=some (D.int .i64 x)) Tr.bad) (Tr.owe ((0:Int)<=(0:Int)/\es[0]? = some [D.int .i64 x]) (Tr.jmp (cut sc79 0) { tm:=[(0,D.slice es []),(3,D.int .i64 x),(4,D.int .i64 (1:Int))],ob:=[] }))
theorem PMin_eq (es:List (List D)) (x:Int):goT Tryz.prog (ctr libT qnone (eOne [D.int .i64 x])) 0 (finF true 0 rs79) 2000 [Fr.sc sc79] { tm:=envOf 0 [D.slice es []],ob:=[] }=PMin es x:=by kernel_rfl
noncomputable def PMax (es:List (List D)) (x:Int):Tr:=brT (decide ((↑(List.length es):Int)<(1:Int))) (Tr.owe (some (D.raw (Value.iface 9 (valV (D.str [(115:UInt8),(108:UInt8),(105:UInt8),(99:UInt8),(101:UInt8),(115:UInt8),(46:UInt8),(77:UInt8),(97:UInt8),(120:UInt8),(58:UInt8),(32:UInt8),(101:UInt8),(109:UInt8),(112:UInt8),(116:UInt8),(121:UInt8),(32:UInt8),(108:UInt8),(105:UInt8),(115:UInt8),(116:UInt8)]))))=some (D.int .i64 x)) Tr.bad) (Tr.owe ((0:Int)<=(0:Int)/\es[0]? = some [D.int .i64 x]) (Tr.jmp (cut sc80 0) { tm:=[(0,D.slice es []),(3,D.int .i64 x),(4,D.int .i64 (1:Int))],ob:=[] }))
theorem PMax_eq (es:List (List D)) (x:Int):goT Tryz.prog (ctr libT qnone (eOne [D.int .i64 x])) 0 (finF true 0 rs80) 2000 [Fr.sc sc80] { tm:=envOf 0 [D.slice es []],ob:=[] }=PMax es x:=by kernel_rfl
def hdMm (es:List (List D)) (m i:Int):St:=⟨[(0,.slice es []),(3,.int .i64 m),(4,.int .i64 i)],[]⟩
noncomputable def PMin2 (es:List (List D)) (m:Int) (i:Nat) (x r:Int):Tr:=brT (decide ((↑i:Int)<(↑(List.length es):Int))) (Tr.owe ((0:Int)<=(↑i:Int)/\es[Int.toNat (↑i:Int)]? = some [D.int .i64 x]) (Tr.owe (IntKind.i64=IntKind.i64/\(if false=true then if x > m then x else m else if x<m then x else m)=r) (Tr.owe ((-9223372036854775808:Int)<=(↑i:Int)+(1:Int)/\(↑i:Int)+(1:Int)<=(9223372036854775807:Int)) (Tr.jmp (cut sc79 0) { tm:=[(0,D.slice es []),(3,D.int .i64 r),(4,D.int .i64 ((↑i:Int)+(1:Int)))],ob:=[] })))) (Tr.ret (D.int .i64 m) [])
theorem PMin2_eq (es:List (List D)) (m:Int) (i:Nat) (x r:Int):goT Tryz.prog (ctr libT qnone (eTwo 23 [D.int .i64 r] [D.int .i64 x])) 0 (finF true 0 rs79) 2000 (cut sc79 0) (hdMm es m (↑i:Int))=PMin2 es m i x r:=by kernel_rfl
noncomputable def PMax2 (es:List (List D)) (m:Int) (i:Nat) (x r:Int):Tr:=brT (decide ((↑i:Int)<(↑(List.length es):Int))) (Tr.owe ((0:Int)<=(↑i:Int)/\es[Int.toNat (↑i:Int)]? = some [D.int .i64 x]) (Tr.owe (IntKind.i64=IntKind.i64/\(if true=true then if x > m then x else m else if x<m then x else m)=r) (Tr.owe ((-9223372036854775808:Int)<=(↑i:Int)+(1:Int)/\(↑i:Int)+(1:Int)<=(9223372036854775807:Int)) (Tr.jmp (cut sc80 0) { tm:=[(0,D.slice es []),(3,D.int .i64 r),(4,D.int .i64 ((↑i:Int)+(1:Int)))],ob:=[] })))) (Tr.ret (D.int .i64 m) [])
theorem PMax2_eq (es:List (List D)) (m:Int) (i:Nat) (x r:Int):goT Tryz.prog (ctr libT qnone (eTwo 23 [D.int .i64 r] [D.int .i64 x])) 0 (finF true 0 rs80) 2000 (cut sc80 0) (hdMm es m (↑i:Int))=PMax2 es m i x r:=by kernel_rfl
noncomputable def PIv (es fs:List (List D)) (a b:Int):Tr:=brT (decide ((↑(List.length es):Int)=(0:Int))) (Tr.ret (D.own 4 33 []) []) (brT (decide ((↑(List.length fs):Int)=(0:Int))) (Tr.ret (D.own 4 33 []) []) (Tr.owe (FnOK Tryz.prog 79 [D.slice es []] (D.int .i64 a)) (Tr.owe (FnOK Tryz.prog 80 [D.slice fs []] (D.int .i64 b)) (Tr.owe ((-9223372036854775808:Int)<=b-a/\b-a<=(9223372036854775807:Int)) (Tr.owe ((-9223372036854775808:Int)<=b-a+(1:Int)/\b-a+(1:Int)<=(9223372036854775807:Int)) (Tr.owe (b-a+(1:Int)<=(1000:Int)) (Tr.jmp (cut sc60 0) { tm:=[(4,D.vec 0),(6,D.int .i64 b),(7,D.int .i64 a)],ob:=[(0,Ob.arr true 4 33 [])] })))))))
theorem PIv_eq (es fs:List (List D)) (a b:Int):goT Tryz.prog { F:=fun t=>if t=17 then asmP (D.int .i64 a) else if t=19 then asmP (D.int .i64 b) else limP,C:=fun x=>qnone,E:=noE } 0 (finF true 0 rs60) 2000 [Fr.sc sc60] { tm:=envOf 0 [D.slice es [],D.slice fs []],ob:=[] }=PIv es fs a b:=by kernel_rfl
def hdIv (row:List (List D)) (b n:Int):St:=⟨[(4,.vec 0),(6,.int .i64 b),(7,.int .i64 n)],[(0,.arr true 4 33 row)]⟩
noncomputable def PIv2 (row:List (List D)) (b n:Int):Tr:=brT (decide (n<=b)) (Tr.owe (FnOK Tryz.prog 82 [D.int .i64 n] (D.agg [D.int .u8 (1:Int),D.int .i64 n,D.str [],D.slice [] []])) (Tr.owe (allLen 4 [[D.int .u8 (1:Int),D.int .i64 n,D.str [],D.slice [] []]]/\List.length row+1<=1073741824) (Tr.owe ((-9223372036854775808:Int)<=n+(1:Int)/\n+(1:Int)<=(9223372036854775807:Int)) (Tr.jmp (cut sc60 0) { tm:=[(4,D.vec 0),(6,D.int .i64 b),(7,D.int .i64 (n+(1:Int)))],ob:=[(0,Ob.arr true 4 33 (row++[[D.int .u8 (1:Int),D.int .i64 n,D.str [],D.slice [] []]]))] })))) (Tr.ret (D.own 4 33 row) [])
theorem PIv2_eq (row:List (List D)) (b n:Int):goT Tryz.prog (ctr (asmP (D.agg [D.int .u8 (1:Int),D.int .i64 n,D.str [],D.slice [] []]))) 0 (finF true 0 rs60) 2000 (cut sc60 0) (hdIv row b n)=PIv2 row b n:=by kernel_rfl
theorem min_at (l:List Int) (hl:l.length<=4611686018427387904): ∀ (m i:Nat) (a:Int),l.length-i=m->i<=l.length →
  At Tryz.prog 0 (cut sc79 0) (hdMm (intC .i64 l) a i) (FinQ true 0 rs79 fun r _=>r= .int .i64 ((l.drop i).foldl min a)):=by
 intro m
 induction m with
 | zero =>
  intro i a hm hi
  refine At.tree (ctr_ok libT_ok qnone_ok) (PMin2_eq (intC .i64 l) a i 0 0) ?_
  unfold PMin2
  rw[List.drop_eq_nil_of_le (by omega)]
  simp only[SS,intC_len]
  exact⟨fun h=>by omega,fun _=>rfl⟩
 | succ m ih =>
  intro i a hm hi
  have h1:i<l.length:=by omega
  have hI:=ih (i+1) (min a l[i]) (by omega) (by omega)
  rw[drop_cons h1,List.foldl_cons]
  refine At.tree (ctr_ok libT_ok qnone_ok) (PMin2_eq (intC .i64 l) a i l[i] (min a l[i])) ?_
  unfold PMin2
  simp only[SS,intC_len]
  refine⟨fun _=>⟨⟨by omega,intC_get h1⟩, ?_,by omega,hI⟩,fun h=>by omega⟩
  first
   | (refine⟨trivial, ?_⟩; simp only[Bool.false_eq_true,if_false]; split <;> omega)
   | (simp only[Bool.false_eq_true,if_false]; split <;> omega)
   | (split <;> omega)
theorem max_at (l:List Int) (hl:l.length<=4611686018427387904): ∀ (m i:Nat) (a:Int),l.length-i=m->i<=l.length →
  At Tryz.prog 0 (cut sc80 0) (hdMm (intC .i64 l) a i) (FinQ true 0 rs80 fun r _=>r= .int .i64 ((l.drop i).foldl max a)):=by
 intro m
 induction m with
 | zero =>
  intro i a hm hi
  refine At.tree (ctr_ok libT_ok qnone_ok) (PMax2_eq (intC .i64 l) a i 0 0) ?_
  unfold PMax2
  rw[List.drop_eq_nil_of_le (by omega)]
  simp only[SS,intC_len]
  exact⟨fun h=>by omega,fun _=>rfl⟩
 | succ m ih =>
  intro i a hm hi
  have h1:i<l.length:=by omega
  have hI:=ih (i+1) (max a l[i]) (by omega) (by omega)
  rw[drop_cons h1,List.foldl_cons]
  refine At.tree (ctr_ok libT_ok qnone_ok) (PMax2_eq (intC .i64 l) a i l[i] (max a l[i])) ?_
  unfold PMax2
  simp only[SS,intC_len]
  refine⟨fun _=>⟨⟨by omega,intC_get h1⟩, ?_,by omega,hI⟩,fun h=>by omega⟩
  first
   | (refine⟨trivial, ?_⟩; simp only[if_true]; split <;> omega)
   | (simp only[if_true]; split <;> omega)
   | (split <;> omega)
theorem min_ok (l:List Int) (hne:l≠[]) (hl:l.length<=4611686018427387904):FnOK Tryz.prog 79 [.slice (intC .i64 l) []] (.int .i64 (minI l)):=by
 match l,hne with
 | a::r,_ =>
  have hA:=min_at (a::r) hl _ 1 a rfl (by simp)
  refine FnOK.tree hdraw fp79 (ctr_ok libT_ok qnone_ok) (PMin_eq (intC .i64 (a::r)) a) ?_
  unfold PMin
  simp only[SS,intC_len,List.length_cons]
  refine⟨fun h=>by omega,fun _=>⟨rfl,hA⟩⟩
theorem max_ok (l:List Int) (hne:l≠[]) (hl:l.length<=4611686018427387904):FnOK Tryz.prog 80 [.slice (intC .i64 l) []] (.int .i64 (maxI l)):=by
 match l,hne with
 | a::r,_ =>
  have hA:=max_at (a::r) hl _ 1 a rfl (by simp)
  refine FnOK.tree hdraw fp80 (ctr_ok libT_ok qnone_ok) (PMax_eq (intC .i64 (a::r)) a) ?_
  unfold PMax
  simp only[SS,intC_len,List.length_cons]
  refine⟨fun h=>by omega,fun _=>⟨rfl,hA⟩⟩
theorem iv_at (b:Int) (hb:b<9223372036854775807): ∀ (m:Nat) (a:Int) (row:List Int),(b-a+1).toNat=m->row.length+m<=1073741823-> -9223372036854775808<=a →
  At Tryz.prog 0 (cut sc60 0) (hdIv (numC row) b a) (FinQ true 0 rs60 fun r _=>r= .own 4 33 (numC (row++upto a m))):=by
 intro m
 induction m with
 | zero =>
  intro a row hm hr ha
  refine At.tree (ctr_ok (asmP_ok _) qnone_ok) (PIv2_eq (numC row) b a) ?_
  unfold PIv2
  simp only[SS,upto,List.append_nil]
  exact⟨fun h=>by omega,fun _=>trivial⟩
 | succ m ih =>
  intro a row hm hr ha
  have hI:=ih (a+1) (row++[a]) (by omega) (by simp; omega) (by omega)
  have e:numC (row++[a])=numC row++[[.int .u8 1,.int .i64 a,.str [],.slice [] []]]:=by simp[numC]
  rw[e,List.append_assoc] at hI
  refine At.tree (ctr_ok (asmP_ok _) qnone_ok) (PIv2_eq (numC row) b a) ?_
  unfold PIv2
  simp only[SS,upto,numC_len]
  exact⟨fun _=>⟨num_ok a,⟨by simp[allLen],by omega⟩,by omega,hI⟩,fun h=>by omega⟩
theorem ivQ_ok (a b:Int):(⟨fun t=>if t=17 then asmP (.int .i64 a) else if t=19 then asmP (.int .i64 b) else limP,fun _=>qnone,noE⟩:Ctr).OK Tryz.prog:=by
 refine⟨fun t=> ?_,fun _=>qnone_ok⟩
 show PT.OK (if t=17 then asmP (.int .i64 a) else if t=19 then asmP (.int .i64 b) else limP)
 split
 ·exact asmP_ok _
 ·split
  ·exact asmP_ok _
  ·exact limP_ok
theorem iv_ok (lo hi L:List Int) (h1:lo.length<=1000) (h2:hi.length<=1000) (hlo: ∀ x∈lo,fitsB x=true) (hhi: ∀ x∈hi,fitsB x=true) (h:ivl lo hi=some L) :
  FnOK Tryz.prog 60 [.slice (intC .i64 lo) [],.slice (intC .i64 hi) []] (.own 4 33 (numC L)):=by
 refine FnOK.tree hdraw fp60 (ivQ_ok (minI lo) (maxI hi)) (PIv_eq (intC .i64 lo) (intC .i64 hi) (minI lo) (maxI hi)) ?_
 unfold PIv
 simp only[SS,intC_len]
 unfold ivl at h
 split at h
 ·rename_i he
  cases h
  refine⟨fun _=>rfl,fun h3=>⟨fun _=>rfl,fun h4=> ?_⟩⟩
  rcases he with he | he
  ·rw[List.isEmpty_iff] at he; subst he; exact absurd rfl h3
  ·rw[List.isEmpty_iff] at he; subst he; exact absurd rfl h4
 ·rename_i he
  split at h
  ·rename_i h5
   cases h
   have n1:lo≠[]:=fun e=>he (.inl (by rw[e]; rfl))
   have n2:hi≠[]:=fun e=>he (.inr (by rw[e]; rfl))
   have f1:=fitsB_iff.1 (hlo _ (minI_mem n1))
   have f2:=fitsB_iff.1 (hhi _ (maxI_mem n2))
   have l1:=List.length_pos_iff.2 n1
   have l2:=List.length_pos_iff.2 n2
   have hA:=iv_at (maxI hi) (by omega) _ (minI lo) [] rfl (by simp; omega) (by omega)
   refine⟨fun h=>by omega,fun _=>⟨fun h=>by omega,fun _=>⟨min_ok lo n1 (by omega),max_ok hi n2 (by omega),by omega,by omega,by omega,hA⟩⟩⟩
  ·cases h
end Go.Proofs.YtfoklncmfoogcaaGreatDoor
