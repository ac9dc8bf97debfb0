/- Symbol and Variable. -/
import Derived.Test.YtfoklncmfoogcaaGreatDoorWord
set_option linter.unusedSectionVars false
set_option linter.unusedVariables false
set_option linter.unusedSimpArgs false
set_option linter.deprecated false
set_option maxRecDepth 100000
namespace Go.Proofs.YtfoklncmfoogcaaGreatDoor
open Go.Sx
noncomputable def PhasP (s t:List UInt8):Tr:=brT (decide ((↑(List.length t):Int)<=(↑(List.length s):Int))) (Tr.owe ((0:Int)<=(0:Int)/\(0:Int)<=(↑(List.length t):Int)/\(↑(List.length t):Int)<=(↑(List.length s):Int)) (Tr.ret (D.bool (decide (List.drop 0 (List.take (Int.toNat (↑(List.length t):Int)) s)=t))) [])) (Tr.ret (D.bool false) [])
theorem PhasP_eq (s t:List UInt8):goT Tryz.prog (ctr libT) 0 (finF true 0 rs121) 2000 [Fr.sc sc121] { tm:=envOf 0 [D.str s,D.str t],ob:=[] }=PhasP s t:=by kernel_rfl
theorem hasP_ok (s t:List UInt8):FnOK Tryz.prog 121 [.str s,.str t] (.bool (t.isPrefixOf s)):=by
 refine FnOK.tree hdraw fp121 (ctr_ok libT_ok qnone_ok) (PhasP_eq s t) ?_
 unfold PhasP
 simp only[SS,Int.ofNat_le]
 refine⟨fun h=>⟨by omega, ?_⟩,fun h=> ?_⟩
 ·rw[Bool.eq_iff_iff,decide_eq_true_eq,List.isPrefixOf_iff_prefix,List.prefix_iff_eq_take]
  exact eq_comm
 ·rw[eq_comm,<- Bool.not_eq_true,List.isPrefixOf_iff_prefix]
  exact fun hp=>h hp.length_le
noncomputable def Ptlb (s:List UInt8) (c:Int):Tr:=Tr.jmp (cut sc117 0) { tm:=[(0,D.str s),(1,D.int .u8 c)],ob:=[] }
theorem Ptlb_eq (s:List UInt8) (c:Int):goT Tryz.prog (ctr libT) 0 (finF true 0 rs117) 2000 [Fr.sc sc117] { tm:=envOf 0 [D.str s,D.int .u8 c],ob:=[] }=Ptlb s c:=by kernel_rfl
def hdTlb (s:List UInt8) (c:Int):St:=⟨[(0,.str s),(1,.int .u8 c)],[]⟩
noncomputable def Ptlb2 (s:List UInt8) (c:Int):Tr:=brT (decide ((0:Int)<(↑(List.length s):Int))) (Tr.owe ((0:Int)<=(0:Int)/\(0:Int)<(↑(List.length s):Int)) (brT (decide ((↑(UInt8.toNat (List.getD s 0 (0:UInt8))):Int)=c)) (Tr.owe ((0:Int)<=(1:Int)/\(1:Int)<=(↑(List.length s):Int)/\(↑(List.length s):Int)<=(↑(List.length s):Int)) (Tr.jmp (cut sc117 0) { tm:=[(0,D.str (List.drop 1 (List.take (Int.toNat (↑(List.length s):Int)) s))),(1,D.int .u8 c)],ob:=[] })) (Tr.ret (D.str s) []))) (Tr.ret (D.str s) [])
theorem Ptlb2_eq (s:List UInt8) (c:Int):goT Tryz.prog (ctr libT) 0 (finF true 0 rs117) 2000 (cut sc117 0) (hdTlb s c)=Ptlb2 s c:=by kernel_rfl
theorem tlb_at (c:UInt8): ∀ (s:List UInt8),At Tryz.prog 0 (cut sc117 0) (hdTlb s c.toNat) (FinQ true 0 rs117 fun r _=>r= .str (s.dropWhile (· == c)))
 | []=>by
  refine At.tree (ctr_ok libT_ok qnone_ok) (Ptlb2_eq [] c.toNat) ?_
  unfold Ptlb2
  simp[ok_br,ok_owe,ok_ret]
 | b::r=>by
  refine At.tree (ctr_ok libT_ok qnone_ok) (Ptlb2_eq (b::r) c.toNat) ?_
  unfold Ptlb2
  simp only[SS,List.length_cons,List.getD_cons_zero]
  refine⟨fun _=>⟨by omega,fun h=>⟨by omega, ?_⟩,fun h=> ?_⟩,fun h=>by omega⟩
  ·have hb:b=c:=UInt8.toNat_inj.1 (by omega)
   have:=tlb_at c r
   simp only[List.dropWhile_cons,hb,beq_self_eq_true,if_true]
   simpa [Int.toNat_natCast,hdTlb] using this
  ·have hb:b≠c:=fun h'=>h (by rw[h'])
   simp[List.dropWhile_cons,hb]
theorem tlb_ok (s:List UInt8) (c:UInt8):FnOK Tryz.prog 117 [.str s,.int .u8 c.toNat] (.str (s.dropWhile (· == c))) :=
 FnOK.tree hdraw fp117 (ctr_ok libT_ok qnone_ok) (Ptlb_eq s c.toNat) (tlb_at c s)
def strP:PT:=fun f xs=>if f=117 then match xs with
  | [.str s,.int .u8 c]=>some (.ok (0<=c/\c<256) (.str (s.dropWhile (· == UInt8.ofNat c.toNat))) [])
  | _=>none
 else if f=121 then match xs with
  | [.str s,.str t]=>some (.ok True (.bool (t.isPrefixOf s)) [])
  | _=>none
 else none
theorem strP_ok:strP.OK:=by
 intro f xs rt h
 unfold strP at h
 split at h
 ·rename_i hf; subst hf
  split at h
  ·rename_i s c
   cases h
   intro hc
   have:=tlb_ok s (UInt8.ofNat c.toNat)
   rwa [show ((UInt8.ofNat c.toNat).toNat:Int)=c by rw[UInt8.toNat_ofNat_of_lt' (by show _<256; omega)]; omega] at this
  ·cases h
 split at h
 ·rename_i hf; subst hf
  split at h
  ·cases h; exact fun _=>hasP_ok _ _
  ·cases h
 ·cases h
noncomputable def PTrimL (s:List UInt8):Tr:=brT (decide (s=[])) (Tr.ret (D.str s) []) (Tr.owe ((0:Int)<=(0:Int)/\(0:Int)<(1:Int)) (Tr.owe ((0:Int)<=(0:Int)/\(0:Int)<(1:Int)) (Tr.owe ((0:Int)<=(95:Int)/\(95:Int)<(256:Int)) (Tr.ret (D.str (List.dropWhile (fun x=>x == UInt8.ofNat 95) s)) []))))
theorem PTrimL_eq (s:List UInt8):goT Tryz.prog (ctr strP) 0 (finF true 0 rs108) 2000 [Fr.sc sc108] { tm:=envOf 0 [D.str s,D.str [(95:UInt8)]],ob:=[] }=PTrimL s:=by kernel_rfl
theorem trimL_ok (s:List UInt8):FnOK Tryz.prog 108 [.str s,.str [95]] (.str (s.dropWhile Lx.isUnd)):=by
 refine FnOK.tree hdraw fp108 (ctr_ok strP_ok qnone_ok) (PTrimL_eq s) ?_
 unfold PTrimL
 simp only[SS]
 refine⟨fun h=>by rw[h]; rfl,fun h=>⟨by decide,by decide,by decide,rfl⟩⟩
noncomputable def PcutP (s t:List UInt8):Tr:=Tr.owe True (brT (!List.isPrefixOf t s) (Tr.ret (D.tuple [D.str s,D.bool false]) []) (Tr.owe ((0:Int)<=(↑(List.length t):Int)/\(↑(List.length t):Int)<=(↑(List.length s):Int)/\(↑(List.length s):Int)<=(↑(List.length s):Int)) (Tr.ret (D.tuple [D.str (List.drop (Int.toNat (↑(List.length t):Int)) (List.take (Int.toNat (↑(List.length s):Int)) s)),D.bool true]) [])))
theorem PcutP_eq (s t:List UInt8):goT Tryz.prog (ctr strP) 0 (finF true 0 rs110) 2000 [Fr.sc sc110] { tm:=envOf 0 [D.str s,D.str t],ob:=[] }=PcutP s t:=by kernel_rfl
theorem cutP_ok (s t:List UInt8):FnOK Tryz.prog 110 [.str s,.str t] (if t.isPrefixOf s=true then .tuple [.str (s.drop t.length),.bool true] else .tuple [.str s,.bool false]):=by
 refine FnOK.tree hdraw fp110 (ctr_ok strP_ok qnone_ok) (PcutP_eq s t) ?_
 unfold PcutP
 simp only[SS]
 refine⟨fun h=>by rw[if_neg (by simp[h])],fun h=> ?_⟩
 have hl:=(List.isPrefixOf_iff_prefix.1 h).length_le
 rw[if_pos h]
 exact⟨by omega,rfl⟩
def cutPP:PT:=fun f xs=>if f=110 then match xs with
  | [.str s,.str t]=>some (.br (t.isPrefixOf s) (.ok True (.tuple [.str (s.drop t.length),.bool true]) []) (.ok True (.tuple [.str s,.bool false]) []))
  | _=>none
 else if f=108 then match xs with
  | [.str s,.str [95]]=>some (.ok True (.str (s.dropWhile Lx.isUnd)) [])
  | _=>none
 else none
theorem cutPP_ok:cutPP.OK:=by
 intro f xs rt h
 unfold cutPP at h
 split at h
 ·rename_i hf; subst hf
  split at h
  ·rename_i s t
   cases h
   have:=cutP_ok s t
   cases hp:t.isPrefixOf s <;> (rw[hp] at this; exact fun _=>this)
  ·cases h
 split at h
 ·rename_i hf; subst hf
  split at h
  ·cases h; exact fun _=>trimL_ok _
  ·cases h
 ·cases h
noncomputable def PcutP2 (s t:List UInt8):Tr:=brT (List.isPrefixOf t s) (Tr.owe True (Tr.ret (D.tuple [D.str (List.drop (List.length t) s),D.bool true]) [])) (Tr.owe True (Tr.ret (D.tuple [D.str s,D.bool false]) []))
theorem PcutP2_eq (s t:List UInt8):goT Tryz.prog (ctr cutPP) 0 (finF true 0 rs94) 2000 [Fr.sc sc94] { tm:=envOf 0 [D.str s,D.str t],ob:=[] }=PcutP2 s t:=by kernel_rfl
theorem cutP2_ok (s t:List UInt8):FnOK Tryz.prog 94 [.str s,.str t] (if t.isPrefixOf s=true then .tuple [.str (s.drop t.length),.bool true] else .tuple [.str s,.bool false]):=by
 refine FnOK.tree hdraw fp94 (ctr_ok cutPP_ok qnone_ok) (PcutP2_eq s t) ?_
 unfold PcutP2
 simp only[SS]
 exact⟨fun h=>by rw[if_pos h],fun h=>by rw[if_neg (by simp[h])]⟩
def wqQ:QT:=bytQ.or allQ
theorem wqQ_ok:wqQ.OK:=QT.or_ok bytQ_ok allQ_ok
noncomputable def CwordL (s:List UInt8):Tr:=Tr.owe True (brT (!decide (List.dropWhile Lx.isUnd s=[])) (Tr.owe ((0:Int)<=(0:Int)/\(0:Int)<(↑(List.length (List.dropWhile Lx.isUnd s)):Int)) (Tr.owe ((0:Int)<=(↑(UInt8.toNat (List.getD (List.dropWhile Lx.isUnd s) 0 (0:UInt8))):Int)/\(↑(UInt8.toNat (List.getD (List.dropWhile Lx.isUnd s) 0 (0:UInt8))):Int)<(256:Int)) (brT (tb Lx.isLow (↑(UInt8.toNat (List.getD (List.dropWhile Lx.isUnd s) 0 (0:UInt8))):Int)) (Tr.owe (List.length (List.dropWhile Lx.isUnd s)<=4611686018427387904) (brT (List.all (List.dropWhile Lx.isUnd s) Lx.isName) (Tr.ret (D.bool (decide ((↑(List.length s):Int)<=(32:Int)))) []) (Tr.ret (D.bool false) []))) (Tr.ret (D.bool false) [])))) (Tr.ret (D.bool false) []))
theorem CwordL_eq (s:List UInt8):goT Tryz.prog (ctr cutPP wqQ) 0 (finF false 0 rs92) 2000 [Fr.sc sc92] { tm:=envOf 0 ([]++[D.str s,D.func (Fn.func 93) [] []]++[]),ob:=[] }=CwordL s:=by kernel_rfl
noncomputable def CwordU (s:List UInt8):Tr:=Tr.owe True (brT (!decide (List.dropWhile Lx.isUnd s=[])) (Tr.owe ((0:Int)<=(0:Int)/\(0:Int)<(↑(List.length (List.dropWhile Lx.isUnd s)):Int)) (Tr.owe ((0:Int)<=(↑(UInt8.toNat (List.getD (List.dropWhile Lx.isUnd s) 0 (0:UInt8))):Int)/\(↑(UInt8.toNat (List.getD (List.dropWhile Lx.isUnd s) 0 (0:UInt8))):Int)<(256:Int)) (brT (tb Lx.isUp (↑(UInt8.toNat (List.getD (List.dropWhile Lx.isUnd s) 0 (0:UInt8))):Int)) (Tr.owe (List.length (List.dropWhile Lx.isUnd s)<=4611686018427387904) (brT (List.all (List.dropWhile Lx.isUnd s) Lx.isName) (Tr.ret (D.bool (decide ((↑(List.length s):Int)<=(32:Int)))) []) (Tr.ret (D.bool false) []))) (Tr.ret (D.bool false) [])))) (Tr.ret (D.bool false) []))
theorem CwordU_eq (s:List UInt8):goT Tryz.prog (ctr cutPP wqQ) 0 (finF false 0 rs92) 2000 [Fr.sc sc92] { tm:=envOf 0 ([]++[D.str s,D.func (Fn.func 95) [] []]++[]),ob:=[] }=CwordU s:=by kernel_rfl
theorem drop_ne {p:UInt8->Bool} {s:List UInt8} (h: ¬ s.dropWhile p=[]): ∃ b r,s.dropWhile p=b::r:=by
 cases hd:s.dropWhile p with
 | nil=>exact (h hd).elim
 | cons b r=>exact⟨b,r,rfl⟩
theorem wordL_ok (s:List UInt8) (hl:s.length<=4611686018427387904):CallL Tryz.prog (.func (.func 92) [] []) [.str s,.func (.func 93) [] []] [] fun r ob=>r= .bool (Lx.wordB Lx.isLow s)/\ob=[]:=by
 refine CallL.tree hdraw fp92 (ctr_ok cutPP_ok wqQ_ok) (CwordL_eq s) ?_
 unfold CwordL Lx.wordB
 simp only[SS]
 refine⟨fun h=> ?_,fun h=>by rw[h]⟩
 obtain⟨b,r,hd⟩:=drop_ne h
 have h1:=(List.dropWhile_sublist (l:=s) Lx.isUnd).length_le
 rw[hd] at h1 ⊢
 simp only[List.length_cons,List.getD_cons_zero,tb_nat]
 rw[List.length_cons] at h1
 exact⟨by omega,⟨by omega,by have:=b.toNat_lt; omega⟩,fun h2=>⟨by omega,fun h3=>by simp only[h2,h3,Bool.true_and,Int.ofNat_le,show (32:Int)=((32:Nat):Int) from rfl],fun h3=>by simp only[h3,Bool.and_false,Bool.false_and]⟩,fun h2=>by simp only[h2,Bool.false_and]⟩
theorem wordU_ok (s:List UInt8) (hl:s.length<=4611686018427387904):CallL Tryz.prog (.func (.func 92) [] []) [.str s,.func (.func 95) [] []] [] fun r ob=>r= .bool (Lx.wordB Lx.isUp s)/\ob=[]:=by
 refine CallL.tree hdraw fp92 (ctr_ok cutPP_ok wqQ_ok) (CwordU_eq s) ?_
 unfold CwordU Lx.wordB
 simp only[SS]
 refine⟨fun h=> ?_,fun h=>by rw[h]⟩
 obtain⟨b,r,hd⟩:=drop_ne h
 have h1:=(List.dropWhile_sublist (l:=s) Lx.isUnd).length_le
 rw[hd] at h1 ⊢
 simp only[List.length_cons,List.getD_cons_zero,tb_nat]
 rw[List.length_cons] at h1
 exact⟨by omega,⟨by omega,by have:=b.toNat_lt; omega⟩,fun h2=>⟨by omega,fun h3=>by simp only[h2,h3,Bool.true_and,Int.ofNat_le,show (32:Int)=((32:Nat):Int) from rfl],fun h3=>by simp only[h3,Bool.and_false,Bool.false_and]⟩,fun h2=>by simp only[h2,Bool.false_and]⟩
def wordQ:QT:=fun d xs ob=>match d,xs,ob with
 | .func (.func f) [] [],[.str s,.func (.func g) [] []],[]=>if f=92 then (if g=93 then some (.ok (s.length<=4611686018427387904) (.bool (Lx.wordB Lx.isLow s)) [])
   else if g=95 then some (.ok (s.length<=4611686018427387904) (.bool (Lx.wordB Lx.isUp s)) []) else none) else none
 | _,_,_=>none
theorem wordQ_ok:wordQ.OK:=by
 intro d xs ob rt h
 unfold wordQ at h
 split at h
 ·split at h
  ·rename_i hf
   subst hf
   split at h
   ·rename_i hg; subst hg; cases h; exact fun hl=>wordL_ok _ hl
   split at h
   ·rename_i hg; subst hg; cases h; exact fun hl=>wordU_ok _ hl
   ·cases h
  ·cases h
 ·cases h
def cut2P:PT:=fun f xs=>if f=94 then match xs with
  | [.str s,.str t]=>some (.br (t.isPrefixOf s) (.ok True (.tuple [.str (s.drop t.length),.bool true]) []) (.ok True (.tuple [.str s,.bool false]) []))
  | _=>none
 else none
theorem cut2P_ok:cut2P.OK:=by
 intro f xs rt h
 unfold cut2P at h
 split at h
 ·rename_i hf; subst hf
  split at h
  ·rename_i s t
   cases h
   have:=cutP2_ok s t
   cases hp:t.isPrefixOf s <;> (rw[hp] at this; exact fun _=>this)
  ·cases h
 ·cases h
def wq2:QT:=wordQ.or allQ
theorem wq2_ok:wq2.OK:=QT.or_ok wordQ_ok allQ_ok
noncomputable def PSym (s:List UInt8):Tr:=Tr.owe (List.length s<=4611686018427387904) (brT (Lx.wordB Lx.isLow s) (Tr.ret (D.bool !decide (s=[(110:UInt8),(111:UInt8),(116:UInt8)])) []) (Tr.ret (D.bool false) []))
theorem PSym_eq (s:List UInt8):goT Tryz.prog (ctr libT wq2) 0 (finF true 0 rs69) 2000 [Fr.sc sc69] { tm:=envOf 0 [D.str s],ob:=[] }=PSym s:=by kernel_rfl
noncomputable def PVar (s:List UInt8):Tr:=brT (List.isPrefixOf [(95:UInt8)] s) (Tr.owe True (Tr.owe (List.length s<=4611686018427387904) (brT (Lx.wordB Lx.isUp s) (Tr.ret (D.bool true) []) (Tr.owe (List.length (List.drop 1 s)<=4611686018427387904) (brT (List.all (List.drop 1 s) Lx.isDig) (Tr.ret (D.bool (decide ((↑(List.length s):Int)<=(32:Int)))) []) (Tr.ret (D.bool false) [])))))) (Tr.owe True (Tr.owe (List.length s<=4611686018427387904) (brT (Lx.wordB Lx.isUp s) (Tr.ret (D.bool true) []) (Tr.ret (D.bool false) []))))
theorem PVar_eq (s:List UInt8):goT Tryz.prog (ctr cut2P wq2) 0 (finF true 0 rs71) 2000 [Fr.sc sc71] { tm:=envOf 0 [D.str s],ob:=[] }=PVar s:=by kernel_rfl
theorem symbol_ok (s:List UInt8) (hl:s.length<=4611686018427387904):FnOK Tryz.prog 69 [.str s] (.bool (Lx.symbolB s)):=by
 refine FnOK.tree hdraw fp69 (ctr_ok libT_ok wq2_ok) (PSym_eq s) ?_
 unfold PSym Lx.symbolB
 simp only[SS]
 refine⟨hl,fun h=> ?_,fun h=>by simp only[h,Bool.false_and]⟩
 simp only[h,Bool.true_and,Lx.notS]
 exact (decide_not (p:=s=[110,111,116])).symm
theorem variable_ok (s:List UInt8) (hl:s.length<=4611686018427387904):FnOK Tryz.prog 71 [.str s] (.bool (Lx.variableB s)):=by
 refine FnOK.tree hdraw fp71 (ctr_ok cut2P_ok wq2_ok) (PVar_eq s) ?_
 unfold PVar Lx.variableB
 simp only[SS]
 have hd:(s.drop 1).length<=s.length:=by simp
 have h0:List.isPrefixOf [95] s=true-> ∃ r,s=95::r:=fun h=>by
  obtain⟨t,ht⟩:=List.isPrefixOf_iff_prefix.1 h
  exact⟨t,ht.symm⟩
 have h0':List.isPrefixOf [95] s=false-> ∀ r,s≠95::r:=fun h r hr=>by rw[hr] at h; simp[List.isPrefixOf] at h
 refine⟨fun h=>⟨hl,fun hw=>by simp only[hw,Bool.true_or],fun hw=> ?_⟩,fun h=>⟨hl,fun hw=>by simp only[hw,Bool.true_or],fun hw=> ?_⟩⟩
 ·obtain⟨r,rfl⟩:=h0 h
  simp only[List.length_cons,List.length_nil,List.drop_succ_cons,List.drop_zero] at hd hl ⊢
  exact⟨by omega,fun ha=>by simp only[hw,ha,Bool.false_or,Bool.true_and,Int.ofNat_le,show (32:Int)=((32:Nat):Int) from rfl],fun ha=>by simp only[hw,ha,Bool.false_or,Bool.false_and]⟩
 ·simp only[hw,Bool.false_or]
  split
  ·rename_i r; exact absurd rfl (h0' h r)
  ·rfl
end Go.Proofs.YtfoklncmfoogcaaGreatDoor
