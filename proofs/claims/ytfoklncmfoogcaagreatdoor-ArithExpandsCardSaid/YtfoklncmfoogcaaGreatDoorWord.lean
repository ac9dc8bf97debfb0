/- The words of terms. -/
import Derived.Test.YtfoklncmfoogcaaGreatDoorLibT
import Derived.Test.YtfoklncmfoogcaaGreatDoorSx8
set_option linter.unusedSectionVars false
set_option linter.unusedVariables false
set_option linter.unusedSimpArgs false
set_option linter.deprecated false
set_option maxRecDepth 100000
namespace Go.Proofs.YtfoklncmfoogcaaGreatDoor
open Go.Sx
def tb (p:UInt8->Bool) (b:Int):Bool:=p (UInt8.ofNat b.toNat)
theorem tb_nat (p:UInt8->Bool) (b:UInt8):tb p (b.toNat:Int)=p b:=by simp[tb]
theorem tb_of (p:UInt8->Bool) (b:Int) (hb:0<=b/\b<256) {q:Int->Bool} (h:(List.range 256).all (fun n=>tb p (n:Int) == q (n:Int))=true):tb p b=q b:=by
 have:=List.all_eq_true.1 h b.toNat (List.mem_range.2 (by omega))
 rw[Int.toNat_of_nonneg hb.1] at this
 simpa using this

noncomputable def Plow (b:Int):Tr:=brT (decide ((97:Int)<=b)) (Tr.ret (D.bool (decide (b<=(122:Int)))) []) (Tr.ret (D.bool false) [])
theorem Plow_eq (b:Int):goT Tryz.prog (ctr libT) 0 (finF true 0 rs93) 2000 [Fr.sc sc93] { tm:=envOf 0 [D.int .u8 b],ob:=[] }=Plow b:=by kernel_rfl
noncomputable def Pupp (b:Int):Tr:=brT (decide ((65:Int)<=b)) (Tr.ret (D.bool (decide (b<=(90:Int)))) []) (Tr.ret (D.bool false) [])
theorem Pupp_eq (b:Int):goT Tryz.prog (ctr libT) 0 (finF true 0 rs95) 2000 [Fr.sc sc95] { tm:=envOf 0 [D.int .u8 b],ob:=[] }=Pupp b:=by kernel_rfl
noncomputable def Pdig (b:Int):Tr:=brT (decide ((48:Int)<=b)) (Tr.ret (D.bool (decide (b<=(57:Int)))) []) (Tr.ret (D.bool false) [])
theorem Pdig_eq (b:Int):goT Tryz.prog (ctr libT) 0 (finF true 0 rs97) 2000 [Fr.sc sc97] { tm:=envOf 0 [D.int .u8 b],ob:=[] }=Pdig b:=by kernel_rfl
theorem lowP_ok (b:Int) (hb:0<=b/\b<256):FnOK Tryz.prog 93 [.int .u8 b] (.bool (tb Lx.isLow b)):=by
 refine FnOK.tree hdraw fp93 (ctr_ok libT_ok qnone_ok) (Plow_eq b) ?_
 unfold Plow
 rw[tb_of Lx.isLow b hb (q:=fun b=>decide (97<=b) && decide (b<=122)) (by kernel_rfl)]
 cases h:decide (97<=b) <;> simp[brT,ok_ret]
theorem uppP_ok (b:Int) (hb:0<=b/\b<256):FnOK Tryz.prog 95 [.int .u8 b] (.bool (tb Lx.isUp b)):=by
 refine FnOK.tree hdraw fp95 (ctr_ok libT_ok qnone_ok) (Pupp_eq b) ?_
 unfold Pupp
 rw[tb_of Lx.isUp b hb (q:=fun b=>decide (65<=b) && decide (b<=90)) (by kernel_rfl)]
 cases h:decide (65<=b) <;> simp[brT,ok_ret]
theorem digP_ok (b:Int) (hb:0<=b/\b<256):FnOK Tryz.prog 97 [.int .u8 b] (.bool (tb Lx.isDig b)):=by
 refine FnOK.tree hdraw fp97 (ctr_ok libT_ok qnone_ok) (Pdig_eq b) ?_
 unfold Pdig
 rw[tb_of Lx.isDig b hb (q:=fun b=>decide (48<=b) && decide (b<=57)) (by kernel_rfl)]
 cases h:decide (48<=b) <;> simp[brT,ok_ret]
def bytP:PT:=fun f xs=>match xs with
 | [.int .u8 b]=>if f=93 then some (.ok (0<=b/\b<256) (.bool (tb Lx.isLow b)) []) else if f=95 then some (.ok (0<=b/\b<256) (.bool (tb Lx.isUp b)) [])
  else if f=97 then some (.ok (0<=b/\b<256) (.bool (tb Lx.isDig b)) []) else none
 | _=>none
theorem bytP_ok:bytP.OK:=by
 intro f xs rt h
 unfold bytP at h
 split at h
 ·split at h
  ·rename_i hf; subst hf; cases h; exact fun hp=>lowP_ok _ hp
  split at h
  ·rename_i hf; subst hf; cases h; exact fun hp=>uppP_ok _ hp
  split at h
  ·rename_i hf; subst hf; cases h; exact fun hp=>digP_ok _ hp
  ·cases h
 ·cases h
noncomputable def Clow (b:Int):Tr:=brT (decide ((97:Int)<=b)) (Tr.ret (D.bool (decide (b<=(122:Int)))) []) (Tr.ret (D.bool false) [])
theorem Clow_eq (b:Int):goT Tryz.prog (ctr libT) 0 (finF false 0 rs93) 2000 [Fr.sc sc93] { tm:=envOf 0 ([]++[D.int .u8 b]++[]),ob:=[] }=Clow b:=by kernel_rfl
noncomputable def Cupp (b:Int):Tr:=brT (decide ((65:Int)<=b)) (Tr.ret (D.bool (decide (b<=(90:Int)))) []) (Tr.ret (D.bool false) [])
theorem Cupp_eq (b:Int):goT Tryz.prog (ctr libT) 0 (finF false 0 rs95) 2000 [Fr.sc sc95] { tm:=envOf 0 ([]++[D.int .u8 b]++[]),ob:=[] }=Cupp b:=by kernel_rfl
noncomputable def Cdig (b:Int):Tr:=brT (decide ((48:Int)<=b)) (Tr.ret (D.bool (decide (b<=(57:Int)))) []) (Tr.ret (D.bool false) [])
theorem Cdig_eq (b:Int):goT Tryz.prog (ctr libT) 0 (finF false 0 rs97) 2000 [Fr.sc sc97] { tm:=envOf 0 ([]++[D.int .u8 b]++[]),ob:=[] }=Cdig b:=by kernel_rfl
noncomputable def Cins (b:Int):Tr:=Tr.owe ((0:Int)<=b/\b<(256:Int)) (brT (tb Lx.isLow b) (Tr.ret (D.bool true) []) (Tr.owe ((0:Int)<=b/\b<(256:Int)) (brT (tb Lx.isUp b) (Tr.ret (D.bool true) []) (Tr.owe ((0:Int)<=b/\b<(256:Int)) (brT (tb Lx.isDig b) (Tr.ret (D.bool true) []) (Tr.ret (D.bool (decide (b=(95:Int)))) []))))))
theorem Cins_eq (b:Int):goT Tryz.prog (ctr bytP) 0 (finF false 0 rs109) 2000 [Fr.sc sc109] { tm:=envOf 0 ([]++[D.int .u8 b]++[]),ob:=[] }=Cins b:=by kernel_rfl
theorem lowC_ok (b:Int) (hb:0<=b/\b<256):CallL Tryz.prog (.func (.func 93) [] []) [.int .u8 b] [] fun r ob=>r= .bool (tb Lx.isLow b)/\ob=[]:=by
 refine CallL.tree hdraw fp93 (ctr_ok libT_ok qnone_ok) (Clow_eq b) ?_
 unfold Clow
 rw[tb_of Lx.isLow b hb (q:=fun b=>decide (97<=b) && decide (b<=122)) (by kernel_rfl)]
 cases h:decide (97<=b) <;> simp[brT,ok_ret]
theorem uppC_ok (b:Int) (hb:0<=b/\b<256):CallL Tryz.prog (.func (.func 95) [] []) [.int .u8 b] [] fun r ob=>r= .bool (tb Lx.isUp b)/\ob=[]:=by
 refine CallL.tree hdraw fp95 (ctr_ok libT_ok qnone_ok) (Cupp_eq b) ?_
 unfold Cupp
 rw[tb_of Lx.isUp b hb (q:=fun b=>decide (65<=b) && decide (b<=90)) (by kernel_rfl)]
 cases h:decide (65<=b) <;> simp[brT,ok_ret]
theorem digC_ok (b:Int) (hb:0<=b/\b<256):CallL Tryz.prog (.func (.func 97) [] []) [.int .u8 b] [] fun r ob=>r= .bool (tb Lx.isDig b)/\ob=[]:=by
 refine CallL.tree hdraw fp97 (ctr_ok libT_ok qnone_ok) (Cdig_eq b) ?_
 unfold Cdig
 rw[tb_of Lx.isDig b hb (q:=fun b=>decide (48<=b) && decide (b<=57)) (by kernel_rfl)]
 cases h:decide (48<=b) <;> simp[brT,ok_ret]
theorem insC_ok (b:Int) (hb:0<=b/\b<256):CallL Tryz.prog (.func (.func 109) [] []) [.int .u8 b] [] fun r ob=>r= .bool (tb Lx.isName b)/\ob=[]:=by
 refine CallL.tree hdraw fp109 (ctr_ok bytP_ok qnone_ok) (Cins_eq b) ?_
 unfold Cins
 rw[tb_of Lx.isName b hb (q:=fun b=>tb Lx.isLow b || tb Lx.isUp b || tb Lx.isDig b || decide (b=95)) (by kernel_rfl)]
 simp only[ok_br,ok_owe,ok_ret]
 refine⟨hb,fun h1=>by simp[h1],fun h1=>⟨hb,fun h2=>by simp[h2],fun h2=>⟨hb,fun h3=>by simp[h3],fun h3=>by simp[h1,h2,h3]⟩⟩⟩

def bytF (f:FuncId):Option (UInt8->Bool):=if f=93 then some Lx.isLow else if f=95 then some Lx.isUp else if f=97 then some Lx.isDig else if f=109 then some Lx.isName else none
theorem bytF_ok {f:FuncId} {p:UInt8->Bool} (h:bytF f=some p) (b:Int) (hb:0<=b/\b<256):CallL Tryz.prog (.func (.func f) [] []) [.int .u8 b] [] fun r ob=>r= .bool (tb p b)/\ob=[]:=by
 unfold bytF at h
 split at h
 ·rename_i hf; subst hf; cases h; exact lowC_ok b hb
 split at h
 ·rename_i hf; subst hf; cases h; exact uppC_ok b hb
 split at h
 ·rename_i hf; subst hf; cases h; exact digC_ok b hb
 split at h
 ·rename_i hf; subst hf; cases h; exact insC_ok b hb
 ·cases h
def bytQ:QT:=fun d xs ob=>match d,xs,ob with
 | .func (.func f) [] [],[.int .u8 b],[]=>match bytF f with
  | some p=>some (.ok (0<=b/\b<256) (.bool (tb p b)) [])
  | none=>none
 | _,_,_=>none
theorem bytQ_ok:bytQ.OK:=by
 intro d xs ob rt h
 unfold bytQ at h
 split at h
 ·split at h
  ·rename_i p hp; cases h; exact fun hb=>bytF_ok hp _ hb
  ·cases h
 ·cases h

noncomputable def CallD (s:List UInt8):Tr:=Tr.jmp (cut sc96 0) { tm:=[(0,D.str s),(1,D.func (Fn.func 97) [] []),(7,D.int .i64 (↑(List.length s):Int)),(8,D.int .i64 (0:Int))],ob:=[] }
theorem CallD_eq (s:List UInt8):goT Tryz.prog (ctr libT bytQ) 0 (finF false 0 rs96) 2000 [Fr.sc sc96] { tm:=envOf 0 ([]++[D.str s,D.func (Fn.func 97) [] []]++[]),ob:=[] }=CallD s:=by kernel_rfl
noncomputable def CallI (s:List UInt8):Tr:=Tr.jmp (cut sc96 0) { tm:=[(0,D.str s),(1,D.func (Fn.func 109) [] []),(7,D.int .i64 (↑(List.length s):Int)),(8,D.int .i64 (0:Int))],ob:=[] }
theorem CallI_eq (s:List UInt8):goT Tryz.prog (ctr libT bytQ) 0 (finF false 0 rs96) 2000 [Fr.sc sc96] { tm:=envOf 0 ([]++[D.str s,D.func (Fn.func 109) [] []]++[]),ob:=[] }=CallI s:=by kernel_rfl
def hdAll (f:FuncId) (s:List UInt8) (i:Int):St:=⟨[(0,.str s),(1,.func (.func f) [] []),(7,.int .i64 s.length),(8,.int .i64 i)],[]⟩
noncomputable def CallD2 (s:List UInt8) (i:Int):Tr:=brT (decide (i<(↑(List.length s):Int))) (Tr.owe ((0:Int)<=i/\i<(↑(List.length s):Int)) (Tr.owe ((0:Int)<=(↑(UInt8.toNat (List.getD s (Int.toNat i) (0:UInt8))):Int)/\(↑(UInt8.toNat (List.getD s (Int.toNat i) (0:UInt8))):Int)<(256:Int)) (brT (!tb Lx.isDig (↑(UInt8.toNat (List.getD s (Int.toNat i) (0:UInt8))):Int)) (Tr.ret (D.bool false) []) (Tr.owe ((-9223372036854775808:Int)<=i+(1:Int)/\i+(1:Int)<=(9223372036854775807:Int)) (Tr.jmp (cut sc96 0) { tm:=[(0,D.str s),(1,D.func (Fn.func 97) [] []),(7,D.int .i64 (↑(List.length s):Int)),(8,D.int .i64 (i+(1:Int)))],ob:=[] }))))) (Tr.ret (D.bool true) [])
theorem CallD2_eq (s:List UInt8) (i:Int):goT Tryz.prog (ctr libT bytQ) 0 (finF false 0 rs96) 2000 (cut sc96 0) (hdAll 97 s i)=CallD2 s i:=by kernel_rfl
noncomputable def CallI2 (s:List UInt8) (i:Int):Tr:=brT (decide (i<(↑(List.length s):Int))) (Tr.owe ((0:Int)<=i/\i<(↑(List.length s):Int)) (Tr.owe ((0:Int)<=(↑(UInt8.toNat (List.getD s (Int.toNat i) (0:UInt8))):Int)/\(↑(UInt8.toNat (List.getD s (Int.toNat i) (0:UInt8))):Int)<(256:Int)) (brT (!tb Lx.isName (↑(UInt8.toNat (List.getD s (Int.toNat i) (0:UInt8))):Int)) (Tr.ret (D.bool false) []) (Tr.owe ((-9223372036854775808:Int)<=i+(1:Int)/\i+(1:Int)<=(9223372036854775807:Int)) (Tr.jmp (cut sc96 0) { tm:=[(0,D.str s),(1,D.func (Fn.func 109) [] []),(7,D.int .i64 (↑(List.length s):Int)),(8,D.int .i64 (i+(1:Int)))],ob:=[] }))))) (Tr.ret (D.bool true) [])
theorem CallI2_eq (s:List UInt8) (i:Int):goT Tryz.prog (ctr libT bytQ) 0 (finF false 0 rs96) 2000 (cut sc96 0) (hdAll 109 s i)=CallI2 s i:=by kernel_rfl
theorem all_drop {p:UInt8->Bool} {s:List UInt8} {i:Nat} (h:i<s.length):(s.drop i).all p=(p (s.getD i 0) && (s.drop (i+1)).all p):=by
 rw[List.drop_eq_getElem_cons h,List.all_cons,List.getD_eq_getElem?_getD,List.getElem?_eq_getElem h]; rfl
theorem allD_at (s:List UInt8) (hl:s.length<=4611686018427387904): ∀ (m i:Nat),s.length-i=m->i<=s.length →
  At Tryz.prog 0 (cut sc96 0) (hdAll 97 s i) (FinQ false 0 rs96 fun r ob=>r= .bool ((s.drop i).all Lx.isDig)/\ob=[]):=by
 intro m
 induction m with
 | zero =>
  intro i hm hi
  refine At.tree (ctr_ok libT_ok bytQ_ok) (CallD2_eq s i) ?_
  unfold CallD2
  rw[List.drop_eq_nil_of_le (by omega)]
  simp only[SS]
  exact⟨fun h=>by omega,fun _=>rfl⟩
 | succ m ih =>
  intro i hm hi
  refine At.tree (ctr_ok libT_ok bytQ_ok) (CallD2_eq s i) ?_
  unfold CallD2
  rw[all_drop (by omega)]
  simp only[SS,tb_nat]
  refine⟨fun _=>⟨by omega,byte_lt _ _,fun h=>by simp only[h,Bool.false_and],fun h=>⟨by omega, ?_⟩⟩,fun h=>by omega⟩
  rw[h,Bool.true_and]
  exact ih (i+1) (by omega) (by omega)
theorem allI_at (s:List UInt8) (hl:s.length<=4611686018427387904): ∀ (m i:Nat),s.length-i=m->i<=s.length →
  At Tryz.prog 0 (cut sc96 0) (hdAll 109 s i) (FinQ false 0 rs96 fun r ob=>r= .bool ((s.drop i).all Lx.isName)/\ob=[]):=by
 intro m
 induction m with
 | zero =>
  intro i hm hi
  refine At.tree (ctr_ok libT_ok bytQ_ok) (CallI2_eq s i) ?_
  unfold CallI2
  rw[List.drop_eq_nil_of_le (by omega)]
  simp only[SS]
  exact⟨fun h=>by omega,fun _=>rfl⟩
 | succ m ih =>
  intro i hm hi
  refine At.tree (ctr_ok libT_ok bytQ_ok) (CallI2_eq s i) ?_
  unfold CallI2
  rw[all_drop (by omega)]
  simp only[SS,tb_nat]
  refine⟨fun _=>⟨by omega,byte_lt _ _,fun h=>by simp only[h,Bool.false_and],fun h=>⟨by omega, ?_⟩⟩,fun h=>by omega⟩
  rw[h,Bool.true_and]
  exact ih (i+1) (by omega) (by omega)
def allQ:QT:=fun d xs ob=>match d,xs,ob with
 | .func (.func f) [] [],[.str s,.func (.func g) [] []],[]=>if f=96 then (if g=97 then some (.ok (s.length<=4611686018427387904) (.bool (s.all Lx.isDig)) [])
   else if g=109 then some (.ok (s.length<=4611686018427387904) (.bool (s.all Lx.isName)) []) else none) else none
 | _,_,_=>none
theorem allQ_ok:allQ.OK:=by
 intro d xs ob rt h
 unfold allQ at h
 split at h
 ·rename_i f s g
  split at h
  ·rename_i hf
   subst hf
   split at h
   ·rename_i hg
    subst hg
    cases h
    exact fun hl=>CallL.tree hdraw fp96 (ctr_ok libT_ok bytQ_ok) (CallD_eq s) (allD_at s hl _ 0 rfl (Nat.zero_le _))
   split at h
   ·rename_i hg
    subst hg
    cases h
    exact fun hl=>CallL.tree hdraw fp96 (ctr_ok libT_ok bytQ_ok) (CallI_eq s) (allI_at s hl _ 0 rfl (Nat.zero_le _))
   ·cases h
  ·cases h
 ·cases h
end Go.Proofs.YtfoklncmfoogcaaGreatDoor
