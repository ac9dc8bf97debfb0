/- Own work: a layer over the kit: plain data,a walk over it,its soundness. -/
import Derived.Test.YtiafmjolbacdaaaGreatSafA
import Derived.Test.YtiafmjolbacdaaaGreatSx9
set_option linter.unusedSectionVars false
set_option linter.unusedVariables false
set_option linter.unusedSimpArgs false
set_option linter.deprecated false
set_option maxRecDepth 100000
/- close,bound,sorted: trees. -/
namespace Go.Proofs.YtiafmjolbacdaaaGreat
open Go.Sx
noncomputable def CCl (ks cs : List D) (es : List (List D)) : Tr := Tr.jmp (cut sc37 0) { tm := [(1,D.slice es []),(2,D.ptr 1 0),(4,D.int .i64 (-1 : Int))],ob := [(0,Ob.gen (Gen.mapC ks cs) []),(1,Ob.cells [D.map 0])] }
theorem CCl_eq (ks cs : List D) (es : List (List D)) : goT Tryz.prog (ctr libT) 1 (finF false 1 rs37) 2000 [Fr.sc sc37] { tm := envOf 0 ([] ++ [D.agg [D.map 0],D.slice es []] ++ []),ob := [(0,Ob.gen (Gen.mapC ks cs) [])] } = CCl ks cs es := by kernel_rfl
def hdCl (es : List (List D)) (n : Int) (ks cs : List D) : St := ⟨[(1,.slice es []),(2,.ptr 1 0),(4,.int .i64 n)],[(0,.gen (.mapC ks cs) []),(1,.cells [.map 0])]⟩
noncomputable def CCl2 (ks cs : List D) (es : List (List D)) (n : Int) : Tr := brT (!decide (n = (↑(List.length ks) : Int))) (Tr.jmp (cut sc37 1) { tm := [(1,D.slice es []),(2,D.ptr 1 0),(4,D.int .i64 (↑(List.length ks) : Int)),(15,D.slice es []),(16,D.int .i64 (↑(List.length es) : Int)),(17,D.int .i64 (0 : Int))],ob := [(0,Ob.gen (Gen.mapC ks cs) []),(1,Ob.cells [D.map 0])] }) (Tr.ret (D.tuple []) [(0,Ob.gen (Gen.mapC ks cs) [])])
theorem CCl2_eq (ks cs : List D) (es : List (List D)) (n : Int) : goT Tryz.prog (ctr libT) 1 (finF false 1 rs37) 2000 (cut sc37 0) (hdCl es n ks cs) = CCl2 ks cs es n := by kernel_rfl
def hdCi (es : List (List D)) (n m i : Int) (ks cs : List D) : St := ⟨[(1,.slice es []),(2,.ptr 1 0),(4,.int .i64 n),(15,.slice es []),(16,.int .i64 m),(17,.int .i64 i)],[(0,.gen (.mapC ks cs) []),(1,.cells [.map 0])]⟩
noncomputable def CCl3 (ks cs ks' cs' : List D) (es : List (List D)) (n m i k : Int) (no : Bool) (p : List UInt8) (a : List (List D)) (op kx nx : Int) (sx : List UInt8) (ax : List (List D)) (ky ny : Int) (sy : List UInt8) (ay : List (List D)) : Tr := brT (decide (i < m)) (Tr.owe ((0 : Int) <= i /\ es[Int.toNat i]? = some [D.int .u8 k,D.bool no,D.str p,D.slice a [],D.int .u8 op,D.int .u8 kx,D.int .i64 nx,D.str sx,D.slice ax [],D.int .u8 ky,D.int .i64 ny,D.str sy,D.slice ay []]) (Tr.owe (CallL Tryz.prog (D.func (Fn.func 55) [] []) [D.agg [D.map 0],D.agg [D.int .u8 k,D.bool no,D.str p,D.slice a [],D.int .u8 op,D.int .u8 kx,D.int .i64 nx,D.str sx,D.slice ax [],D.int .u8 ky,D.int .i64 ny,D.str sy,D.slice ay []]] [(0,Ob.gen (Gen.mapC ks cs) [])] fun r0 ob0 => r0 = D.tuple [] /\ ob0 = [(0,Ob.gen (Gen.mapC ks' cs') [])]) (Tr.owe ((-9223372036854775808 : Int) <= i + (1 : Int) /\ i + (1 : Int) <= (9223372036854775807 : Int)) (Tr.jmp (cut sc37 1) { tm := [(1,D.slice es []),(2,D.ptr 1 0),(4,D.int .i64 n),(15,D.slice es []),(16,D.int .i64 m),(17,D.int .i64 (i + (1 : Int)))],ob := [(0,Ob.gen (Gen.mapC ks' cs') []),(1,Ob.cells [D.map 0])] })))) (Tr.jmp (cut sc37 0) { tm := [(1,D.slice es []),(2,D.ptr 1 0),(4,D.int .i64 n)],ob := [(0,Ob.gen (Gen.mapC ks cs) []),(1,Ob.cells [D.map 0])] })
theorem CCl3_eq (ks cs ks' cs' : List D) (es : List (List D)) (n m i k : Int) (no : Bool) (p : List UInt8) (a : List (List D)) (op kx nx : Int) (sx : List UInt8) (ax : List (List D)) (ky ny : Int) (sy : List UInt8) (ay : List (List D)) : goT Tryz.prog (ctr libT (asmA (D.tuple []) (updM ks' cs')) (eOne (lC k no p a op kx nx sx ax ky ny sy ay))) 1 (finF false 1 rs37) 2000 (cut sc37 1) (hdCi es n m i ks cs) = CCl3 ks cs ks' cs' es n m i k no p a op kx nx sx ax ky ny sy ay := by kernel_rfl
def asmO (r : D) (ob' : Obs) : QT := fun d xs ob => some (.ok (CallL Tryz.prog d xs ob fun r0 ob0 => r0 = r /\ ob0 = ob') r ob')
theorem asmO_ok (r : D) (ob' : Obs) : (asmO r ob').OK := by intro d xs ob rt h; cases h; exact fun hp => hp
noncomputable def CBd (ks cs ks' cs' : List D) (es : List (List D)) : Tr := Tr.owe (CallL Tryz.prog (D.func (Fn.func 36) [] []) [D.map 0] [(0,Ob.gen (Gen.mapC ks cs) [])] fun r0 ob0 => r0 = D.map 1 /\ ob0 = [(0,Ob.gen (Gen.mapC ks cs) []),(1,Ob.gen (Gen.mapC ks cs) [])]) (Tr.owe (CallL Tryz.prog (D.func (Fn.func 37) [] []) [D.agg [D.map 0],D.slice es []] [(0,Ob.gen (Gen.mapC ks cs) [])] fun r0 ob0 => r0 = D.tuple [] /\ ob0 = [(0,Ob.gen (Gen.mapC ks' cs') [])]) (Tr.ret (D.map 1) [(0,Ob.gen (Gen.mapC ks cs) []),(1,Ob.gen (Gen.mapC ks' cs') [])]))
theorem CBd_eq (ks cs ks' cs' : List D) (es : List (List D)) : goT Tryz.prog (ctr libT (QT.or (onF 36 (asmO (D.map 1) [(0,Ob.gen (Gen.mapC ks cs) []),(1,Ob.gen (Gen.mapC ks cs) [])])) (asmA (D.tuple []) (updM ks' cs')))) 1 (finF false 1 rs26) 2000 [Fr.sc sc26] { tm := envOf 0 ([] ++ [D.map 0,D.slice es []] ++ []),ob := [(0,Ob.gen (Gen.mapC ks cs) [])] } = CBd ks cs ks' cs' es := by kernel_rfl
abbrev fY : FuncId := 58
def keyQ : QT := fun d xs ob => match d,xs,ob with
 | .func (.func f) [] [],[.map 0],[(0,.gen (.mapC ks cs) [])] => if f = 39 then some (.ok True (.func (.func fY) [] [.ptr 1 0]) [(0,.gen (.mapC ks cs) []),(1,.cells [.map 0])]) else none
 | _,_,_ => none
theorem keyQ_ok : keyQ.OK := by
 intro d xs ob rt h
 unfold keyQ at h
 split at h
 ·split at h
  ·rename_i hf
   subst hf
   cases h
   intro _
   exact CallL.tree hdraw fp39 (ctr_ok libT_ok qnone_ok) (CKey_eq _ _) ⟨rfl,rfl⟩
  ·cases h
 ·cases h
noncomputable def CSo (ks cs : List D) (r : List (List D)) : Tr := Tr.owe True (Tr.owe (CallL Tryz.prog (D.func (Fn.func 38) [] []) [D.func (Fn.func 58) [] [D.ptr 0 0]] [(0,Ob.cells [D.map 1]),(1,Ob.gen (Gen.mapC ks cs) [])] fun r0 ob0 => r0 = D.vec 2 /\ ob0 = [(0,Ob.cells [D.map 1]),(1,Ob.gen (Gen.mapC ks cs) []),(2,Ob.arr false 1 9 r)]) (Tr.ret (D.vec 1) [(0,Ob.gen (Gen.mapC ks cs) []),(1,Ob.arr false 1 9 r)]))
theorem CSo_eq (ks cs : List D) (r : List (List D)) : goT Tryz.prog (ctr libT (QT.or keyQ (asmO (D.vec 2) [(0,Ob.cells [D.map 1]),(1,Ob.gen (Gen.mapC ks cs) []),(2,Ob.arr false 1 9 r)]))) 1 (finF false 1 rs27) 2000 [Fr.sc sc27] { tm := envOf 0 ([] ++ [D.map 0] ++ []),ob := [(0,Ob.gen (Gen.mapC ks cs) [])] } = CSo ks cs r := by kernel_rfl
noncomputable def CSoN (ks cs : List D) : Tr := Tr.owe True (Tr.owe (CallL Tryz.prog (D.func (Fn.func 38) [] []) [D.func (Fn.func 58) [] [D.ptr 0 0]] [(0,Ob.cells [D.map 1]),(1,Ob.gen (Gen.mapC ks cs) [])] fun r0 ob0 => r0 = D.nils /\ ob0 = [(0,Ob.cells [D.map 1]),(1,Ob.gen (Gen.mapC ks cs) [])]) (Tr.ret D.nils [(0,Ob.gen (Gen.mapC ks cs) [])]))
theorem CSoN_eq (ks cs : List D) : goT Tryz.prog (ctr libT (QT.or keyQ (asmO D.nils [(0,Ob.cells [D.map 1]),(1,Ob.gen (Gen.mapC ks cs) [])]))) 1 (finF false 1 rs27) 2000 [Fr.sc sc27] { tm := envOf 0 ([] ++ [D.map 0] ++ []),ob := [(0,Ob.gen (Gen.mapC ks cs) [])] } = CSoN ks cs := by kernel_rfl
end Go.Proofs.YtiafmjolbacdaaaGreat

/- close,bound. -/
namespace Go.Proofs.YtiafmjolbacdaaaGreat
open Go.Sx Go.RowKit
section
variable (ls : List Lt) (hl : ls.length <= 281474976710656) (hok : ∀ x ∈ ls,okL x)
include hl hok
theorem closeI_at (n : Int) (R : D -> Obs -> Prop) (T : List Nm) (K : At Tryz.prog 1 (cut sc37 0) (hdCl (ltL ls) n (kS T) (uS T)) (FinQ false 1 rs37 R)) : ∀ (m i : Nat) (S : List Nm),ls.length - i = m -> i <= ls.length -> roundS S (ls.drop i) = T →
  At Tryz.prog 1 (cut sc37 1) (hdCi (ltL ls) n ls.length i (kS S) (uS S)) (FinQ false 1 rs37 R) := by
 intro m
 induction m with
 | zero =>
  intro i S hm hi hT
  refine At.tree (ctr_ok libT_ok (asmA_ok _ _)) (CCl3_eq (kS S) (uS S) [] [] (ltL ls) n ls.length i 0 true [] [] 0 0 0 [] [] 0 0 [] []) ?_
  unfold CCl3
  rw [List.drop_eq_nil_of_le (by omega : ls.length <= i)] at hT
  have hT : S = T := hT
  subst hT
  rw [ok_br]
  refine ⟨fun h => ?_,fun _ => ?_⟩
  ·have := of_decide_eq_true h
   omega
  ·rw [ok_jmp]
   exact K
 | succ m ih =>
  intro i S hm hi hT
  have h1 : i < ls.length := by omega
  rw [drop_cons h1] at hT
  have hI := ih (i + 1) (stepS S ls[i]) (by omega) (by omega) hT
  have hg := ltL_get h1
  have hs := step_ok S ls[i] (hok _ (List.getElem_mem h1))
  generalize stepS S ls[i] = S2 at hI hs
  generalize ls[i] = x at hg hs
  obtain ⟨k,no,p,a,op,⟨kx,nx,sx,ax⟩,⟨ky,ny,sy,ay⟩⟩ := x
  refine At.tree (ctr_ok libT_ok (asmA_ok _ _)) (CCl3_eq (kS S) (uS S) (kS S2) (uS S2) (ltL ls) n ls.length i k no p (Tm.cellsL a) op kx nx sx (Tm.cellsL ax) ky ny sy (Tm.cellsL ay)) ?_
  unfold CCl3
  rw [ok_br]
  refine ⟨fun _ => ?_,fun h => ?_⟩
  ·rw [ok_owe,Int.toNat_natCast,ok_owe,ok_owe,ok_jmp]
   exact ⟨⟨by omega,hg⟩,hs,by omega,hI⟩
  ·have := of_decide_eq_false h; omega
theorem closeO_at : ∀ (m : Nat) (S : List Nm) (n : Int),S.Nodup -> gapS S ls < m -> n ≠ (S.length : Int) →
  At Tryz.prog 1 (cut sc37 0) (hdCl (ltL ls) n (kS S) (uS S)) (FinQ false 1 rs37 fun r ob => r = .tuple [] /\ ob = [(0,setO (closeS S ls))]) := by
 intro m
 induction m with
 | zero => intro S n _ h; omega
 | succ m ih =>
  intro S n hS hg hn
  have hst := closeS_step ls hS
  have hgl := gap_lt (ls := ls) hS
  have hnd := roundS_nd ls hS
  have K : At Tryz.prog 1 (cut sc37 0) (hdCl (ltL ls) S.length (kS (roundS S ls)) (uS (roundS S ls))) (FinQ false 1 rs37 fun r ob => r = .tuple [] /\ ob = [(0,setO (closeS S ls))]) := by
   by_cases hT : (roundS S ls).length = S.length
   ·rw [if_pos hT] at hst
    rw [hst]
    refine At.tree (ctr_ok libT_ok qnone_ok) (CCl2_eq (kS (roundS S ls)) (uS (roundS S ls)) (ltL ls) S.length) ?_
    unfold CCl2
    rw [kS_len,hT,ok_br]
    exact ⟨fun h => by simp at h,fun _ => ⟨rfl,rfl⟩⟩
   ·rw [if_neg hT] at hst
    rw [hst]
    exact ih (roundS S ls) S.length hnd (by have := hgl hT; omega) (by omega)
  refine At.tree (ctr_ok libT_ok qnone_ok) (CCl2_eq (kS S) (uS S) (ltL ls) n) ?_
  unfold CCl2
  rw [kS_len,ltL_len,ok_br]
  refine ⟨fun _ => ?_,fun h => ?_⟩
  ·rw [ok_jmp]
   exact closeI_at ls hl hok S.length _ _ K _ 0 S rfl (Nat.zero_le _) rfl
  ·simp only [Bool.not_eq_false',decide_eq_true_eq] at h
   exact absurd h hn
theorem close_ok (S : List Nm) (hS : S.Nodup) : CallL Tryz.prog (.func (.func 37) [] []) [.agg [.map 0],.slice (ltL ls) []] [(0,setO S)] fun r ob => r = .tuple [] /\ ob = [(0,setO (closeS S ls))] := by
 refine CallL.tree hdraw fp37 (ctr_ok libT_ok qnone_ok) (CCl_eq (kS S) (uS S) (ltL ls)) ?_
 unfold CCl
 rw [ok_jmp]
 exact closeO_at ls hl hok _ S (-1) hS (Nat.lt_succ_self _) (by omega)
theorem bound_ok (S : List Nm) (hS : S.Nodup) : CallL Tryz.prog (.func (.func 26) [] []) [.map 0,.slice (ltL ls) []] [(0,setO S)] fun r ob => r = .map 1 /\ ob = [(0,setO S),(1,setO (closeS S ls))] := by
 refine CallL.tree hdraw fp26 (ctr_ok libT_ok (QT.or_ok (onF_ok (asmO_ok _ _)) (asmA_ok _ _))) (CBd_eq (kS S) (uS S) (kS (closeS S ls)) (uS (closeS S ls)) (ltL ls)) ?_
 unfold CBd
 rw [ok_owe,ok_owe,ok_ret]
 exact ⟨CallL.clone (by kernel_rfl) (fun b es clock w h => Tryz.maps_Clone b es clock w h) _ _,close_ok ls hl hok S hS,rfl,rfl⟩
end
end Go.Proofs.YtiafmjolbacdaaaGreat

/- Keys gathered: trees. -/
namespace Go.Proofs.YtiafmjolbacdaaaGreat
open Go.Sx
noncomputable def CAq (ks cs : List D) : Tr := Tr.jmp [Fr.sc (SC.rangeF 13 (xt 6) #[7] (SC.reg [so 5 AOp.mv [xt 7]]) (SC.block 1 (SC.reg [so 8 (AOp.load false 1) [xt 2],so 9 AOp.mv [xt 5],so 10 (AOp.bslice true 1 1 9 [D.str []] [(0,1)]) [xt 9],SOp.app 11 none false 1 9 (xt 8) (xt 10),SOp.st none (SK.c 1) (xt 2) (xt 11)]))),Fr.blk 0,Fr.sc (SC.seq (SC.reg [so 12 (AOp.load false 1) [xt 2],so 4 AOp.mv [xt 12]]) SC.ret)] { tm := [(6,D.func (Fn.func 58) [] [D.ptr 0 0]),(4,D.vec 6),(2,D.ptr 4 0),(0,D.nils),(1,D.func (Fn.func 58) [] [D.ptr 0 0])],ob := [(6,Ob.arr true 1 9 []),(4,Ob.cells [D.nils]),(0,Ob.cells [D.map 1]),(1,Ob.gen (Gen.mapC ks cs) [])] }
theorem CAq_eq (ks cs : List D) : goT Tryz.prog (ctr libT) 2 (finF false 2 rs74) 2000 [Fr.sc sc74] { tm := envOf 0 ([] ++ [D.nils,D.func (Fn.func fY) [] [D.ptr 0 0]] ++ []),ob := [(0,Ob.cells [D.map 1]),(1,Ob.gen (Gen.mapC ks cs) [])] } = CAq ks cs := by kernel_rfl
def keysP : List Nat := [6,4,2,0,1]
def dsP (a v c : Nat) : List D := [.func (.func fY) [] [.ptr a 0],.vec v,.ptr c 0,.nils,.func (.func fY) [] [.ptr a 0]]
def recP (ds : List D) : Ob := .gen (.loop .ready none #[7] (sc74.rngA 0) (sc74.rngB 0) 13 keysP) ds
def obPN (m : Ob) : Obs := [(0,.cells [.map 2]),(1,recP (dsP 0 3 4)),(2,m),(3,.arr true 1 9 []),(4,.cells [.nils])]
def obPA (m : Ob) (j : Nat) (o : List (List D)) : Obs := [(0,.cells [.map 2]),(1,recP (dsP 0 3 4)),(2,m),(3,.arr true 1 9 []),(4,.cells [.vec j]),(j,.arr false 1 9 o)]
noncomputable def TyPN (x : List UInt8) (ks cs : List D) (l : List Nat) (cl : Nat) : Tr := Tr.owe (allLen 1 [[D.str x]] /\ 1 <= 1073741824) (Tr.ret (D.bool true) [(0,Ob.gen (Gen.loop LoopState.ready none #[7] (SC.rngA sc74 0) (SC.rngB sc74 0) 13 [6,4,2,0,1]) [D.func (Fn.func 58) [] [D.ptr 1 0],D.vec 2,D.ptr 3 0,D.nils,D.func (Fn.func 58) [] [D.ptr 1 0]]),(1,Ob.cells [D.map 4]),(2,Ob.arr true 1 9 []),(3,Ob.cells [D.vec 5]),(4,Ob.gen (Gen.mapB ks cs l cl) []),(5,Ob.arr false 1 9 [[D.str x]])])
theorem TyPN_eq (x : List UInt8) (ks cs : List D) (l : List Nat) (cl : Nat) : yldT Tryz.prog (ctr libT) 5 0 13 #[7] (SC.rngA sc74 0) (SC.rngB sc74 0) keysP (dsP 1 2 3) 2000 { tm := putP (List.zip [7] [D.str x]) (List.zip keysP (dsP 1 2 3)),ob := [(1,Ob.cells [D.map 4]),(2,Ob.arr true 1 9 []),(3,Ob.cells [D.nils]),(4,Ob.gen (Gen.mapB ks cs l cl) [])] } = TyPN x ks cs l cl := by kernel_rfl
noncomputable def TyPA (x : List UInt8) (ks cs : List D) (l : List Nat) (cl : Nat) (o : List (List D)) : Tr := Tr.owe (allLen 1 [[D.str x]] /\ List.length o + 1 <= 1073741824) (Tr.ret (D.bool true) [(0,Ob.gen (Gen.loop LoopState.ready none #[7] (SC.rngA sc74 0) (SC.rngB sc74 0) 13 [6,4,2,0,1]) [D.func (Fn.func 58) [] [D.ptr 1 0],D.vec 2,D.ptr 3 0,D.nils,D.func (Fn.func 58) [] [D.ptr 1 0]]),(1,Ob.cells [D.map 4]),(2,Ob.arr true 1 9 []),(3,Ob.cells [D.vec 6]),(4,Ob.gen (Gen.mapB ks cs l cl) []),(6,Ob.arr false 1 9 (o ++ [[D.str x]]))])
theorem TyPA_eq (x : List UInt8) (ks cs : List D) (l : List Nat) (cl : Nat) (o : List (List D)) : yldT Tryz.prog (ctr libT) 6 0 13 #[7] (SC.rngA sc74 0) (SC.rngB sc74 0) keysP (dsP 1 2 3) 2000 { tm := putP (List.zip [7] [D.str x]) (List.zip keysP (dsP 1 2 3)),ob := [(1,Ob.cells [D.map 4]),(2,Ob.arr true 1 9 []),(3,Ob.cells [D.vec 5]),(4,Ob.gen (Gen.mapB ks cs l cl) []),(5,Ob.arr false 1 9 o)] } = TyPA x ks cs l cl o := by kernel_rfl
def addR (x : D) : Obs -> Obs
 | [(0,r),(1,c),(2,e),(3,.cells [.nils]),(4,m)] => [(0,r),(1,c),(2,e),(3,.cells [.vec 5]),(4,m),(5,.arr false 1 9 [[x]])]
 | [(0,r),(1,c),(2,e),(3,.cells [.vec 5]),(4,m),(5,.arr fz sz ty o)] => [(0,r),(1,c),(2,e),(3,.cells [.vec 6]),(4,m),(6,.arr fz sz ty (o ++ [[x]]))]
 | ob => ob
noncomputable def CKs (ks cs : List D) : Tr := Tr.jmp (spc sc58 0) { tm := [(0,D.yld 1),(1,D.ptr 0 0)],ob := [(0,Ob.cells [D.map 2]),(1,Ob.gen (Gen.loop LoopState.ready none #[7] (SC.rngA sc74 0) (SC.rngB sc74 0) 13 [6,4,2,0,1]) [D.func (Fn.func 58) [] [D.ptr 0 0],D.vec 3,D.ptr 4 0,D.nils,D.func (Fn.func 58) [] [D.ptr 0 0]]),(2,Ob.gen (Gen.mapC ks cs) []),(3,Ob.arr true 1 9 []),(4,Ob.cells [D.nils])] }
theorem CKs_eq (ks cs : List D) : goT Tryz.prog (ctr libT) 5 (finF false 5 rs58) 2000 [Fr.sc sc58] { tm := envOf 0 ([] ++ [D.yld 1] ++ [D.ptr 0 0]),ob := obPN (Ob.gen (Gen.mapC ks cs) []) } = CKs ks cs := by kernel_rfl
abbrev itO (l ix : List Nat) (cl mid : Nat) : Ob := .gen (.iter l ix cl) [.map mid]
abbrev mbO (ks cs : List D) (l : List Nat) (cl : Nat) : Ob := .gen (.mapB ks cs l cl) []
noncomputable def CKa (ks cs : List D) (l : List Nat) (cl : Nat) : Tr := Tr.jmp (cut sc58 0) { tm := [(0,D.yld 1),(5,D.ptr 5 0)],ob := [(0,Ob.cells [D.map 2]),(1,Ob.gen (Gen.loop LoopState.ready none #[7] (SC.rngA sc74 0) (SC.rngB sc74 0) 13 [6,4,2,0,1]) [D.func (Fn.func 58) [] [D.ptr 0 0],D.vec 3,D.ptr 4 0,D.nils,D.func (Fn.func 58) [] [D.ptr 0 0]]),(2,Ob.gen (Gen.mapB ks cs l cl) []),(3,Ob.arr true 1 9 []),(4,Ob.cells [D.nils]),(5,Ob.gen (Gen.iter l [] cl) [D.map 2])] }
theorem CKa_eq (ks cs : List D) (l : List Nat) (cl : Nat) : goT Tryz.prog (ctr libT) 5 (finF false 5 rs58) 2000 (aft sc58 0) { tm := [(5,D.ptr 10 0),(4,D.map 2),(0,D.yld 1),(1,D.ptr 0 0)],ob := [(10,itO l [] cl 2),(2,mbO ks cs l cl),(0,Ob.cells [D.map 2]),(1,recP (dsP 0 3 4)),(3,Ob.arr true 1 9 []),(4,Ob.cells [D.nils])] } = CKa ks cs l cl := by kernel_rfl
noncomputable def CKhN (ks cs : List D) (l ix : List Nat) (cl : Nat) : Tr := Tr.jmp (spc sc58 1) { tm := [(0,D.yld 1),(5,D.ptr 5 0)],ob := [(0,Ob.cells [D.map 2]),(1,Ob.gen (Gen.loop LoopState.ready none #[7] (SC.rngA sc74 0) (SC.rngB sc74 0) 13 [6,4,2,0,1]) [D.func (Fn.func 58) [] [D.ptr 0 0],D.vec 3,D.ptr 4 0,D.nils,D.func (Fn.func 58) [] [D.ptr 0 0]]),(2,Ob.gen (Gen.mapB ks cs l cl) []),(3,Ob.arr true 1 9 []),(4,Ob.cells [D.nils]),(5,Ob.gen (Gen.iter l ix cl) [D.map 2])] }
theorem CKhN_eq (ks cs : List D) (l ix : List Nat) (cl : Nat) : goT Tryz.prog (ctr libT) 5 (finF false 5 rs58) 2000 (cut sc58 0) { tm := [(0,D.yld 1),(5,D.ptr 5 0)],ob := obPN (mbO ks cs l cl) ++ [(5,itO l ix cl 2)] } = CKhN ks cs l ix cl := by kernel_rfl
noncomputable def CKfN (ks cs : List D) (l ix : List Nat) (cl : Nat) : Tr := Tr.ret (D.tuple []) [(0,Ob.cells [D.map 2]),(1,Ob.gen (Gen.loop LoopState.ready none #[7] (SC.rngA sc74 0) (SC.rngB sc74 0) 13 [6,4,2,0,1]) [D.func (Fn.func 58) [] [D.ptr 0 0],D.vec 3,D.ptr 4 0,D.nils,D.func (Fn.func 58) [] [D.ptr 0 0]]),(2,Ob.gen (Gen.mapC ks cs) []),(3,Ob.arr true 1 9 []),(4,Ob.cells [D.nils])]
theorem CKfN_eq (ks cs : List D) (l ix : List Nat) (cl : Nat) : goT Tryz.prog (ctr libT) 5 (finF false 5 rs58) 2000 (aft sc58 1) { tm := [(7,D.bool false),(6,D.undef),(0,D.yld 1),(5,D.ptr 5 0)],ob := [(2,Ob.gen (Gen.mapC ks cs) []),(0,Ob.cells [D.map 2]),(1,recP (dsP 0 3 4)),(3,Ob.arr true 1 9 []),(4,Ob.cells [D.nils]),(5,itO l ix cl 2)] } = CKfN ks cs l ix cl := by kernel_rfl
noncomputable def CKtN (ks cs : List D) (l ix : List Nat) (cl : Nat) (x : List UInt8) : Tr := Tr.owe (extD Ext.entry [D.ptr 5 0] (lk (St.ob { tm := [(7,D.bool true),(6,D.undef),(0,D.yld 1),(5,D.ptr 5 0)],ob := [(5,itO l ix cl 2),(0,Ob.cells [D.map 2]),(1,recP (dsP 0 3 4)),(2,mbO ks cs l cl),(3,Ob.arr true 1 9 []),(4,Ob.cells [D.nils])] })) = some (D.tuple [D.str x,D.agg []])) (Tr.owe (CallL Tryz.prog (D.yld 0) [D.str x] [(0,Ob.gen (Gen.loop LoopState.ready none #[7] (SC.rngA sc74 0) (SC.rngB sc74 0) 13 [6,4,2,0,1]) [D.func (Fn.func 58) [] [D.ptr 1 0],D.vec 2,D.ptr 3 0,D.nils,D.func (Fn.func 58) [] [D.ptr 1 0]]),(1,Ob.cells [D.map 4]),(2,Ob.arr true 1 9 []),(3,Ob.cells [D.nils]),(4,Ob.gen (Gen.mapB ks cs l cl) [])] fun r0 ob0 => r0 = D.bool true /\ ob0 = [(0,Ob.gen (Gen.loop LoopState.ready none #[7] (SC.rngA sc74 0) (SC.rngB sc74 0) 13 [6,4,2,0,1]) [D.func (Fn.func 58) [] [D.ptr 1 0],D.vec 2,D.ptr 3 0,D.nils,D.func (Fn.func 58) [] [D.ptr 1 0]]),(1,Ob.cells [D.map 4]),(2,Ob.arr true 1 9 []),(3,Ob.cells [D.vec 5]),(4,Ob.gen (Gen.mapB ks cs l cl) []),(5,Ob.arr false 1 9 [[D.str x]])]) (Tr.jmp (cut sc58 0) { tm := [(0,D.yld 1),(5,D.ptr 5 0)],ob := [(0,Ob.cells [D.map 2]),(1,Ob.gen (Gen.loop LoopState.ready none #[7] (SC.rngA sc74 0) (SC.rngB sc74 0) 13 [6,4,2,0,1]) [D.func (Fn.func 58) [] [D.ptr 0 0],D.vec 3,D.ptr 4 0,D.nils,D.func (Fn.func 58) [] [D.ptr 0 0]]),(2,Ob.gen (Gen.mapB ks cs l cl) []),(3,Ob.arr true 1 9 []),(4,Ob.cells [D.vec 6]),(5,Ob.gen (Gen.iter l ix cl) [D.map 2]),(6,Ob.arr false 1 9 [[D.str x]])] }))
theorem CKtN_eq (ks cs : List D) (l ix : List Nat) (cl : Nat) (x : List UInt8) : goT Tryz.prog (ctr libT (asmA (D.bool true) (addR (D.str x))) (eOne [D.tuple [D.str x,D.agg []]])) 5 (finF false 5 rs58) 2000 (aft sc58 1) { tm := [(7,D.bool true),(6,D.undef),(0,D.yld 1),(5,D.ptr 5 0)],ob := [(5,itO l ix cl 2),(0,Ob.cells [D.map 2]),(1,recP (dsP 0 3 4)),(2,mbO ks cs l cl),(3,Ob.arr true 1 9 []),(4,Ob.cells [D.nils])] } = CKtN ks cs l ix cl x := by kernel_rfl
noncomputable def CKhA (ks cs : List D) (l ix : List Nat) (cl : Nat) (o : List (List D)) : Tr := Tr.jmp (spc sc58 1) { tm := [(0,D.yld 1),(5,D.ptr 5 0)],ob := [(0,Ob.cells [D.map 2]),(1,Ob.gen (Gen.loop LoopState.ready none #[7] (SC.rngA sc74 0) (SC.rngB sc74 0) 13 [6,4,2,0,1]) [D.func (Fn.func 58) [] [D.ptr 0 0],D.vec 3,D.ptr 4 0,D.nils,D.func (Fn.func 58) [] [D.ptr 0 0]]),(2,Ob.gen (Gen.mapB ks cs l cl) []),(3,Ob.arr true 1 9 []),(4,Ob.cells [D.vec 6]),(5,Ob.gen (Gen.iter l ix cl) [D.map 2]),(6,Ob.arr false 1 9 o)] }
theorem CKhA_eq (ks cs : List D) (l ix : List Nat) (cl : Nat) (o : List (List D)) : goT Tryz.prog (ctr libT) 5 (finF false 5 rs58) 2000 (cut sc58 0) { tm := [(0,D.yld 1),(5,D.ptr 5 0)],ob := [(0,Ob.cells [D.map 2]),(1,recP (dsP 0 3 4)),(2,mbO ks cs l cl),(3,Ob.arr true 1 9 []),(4,Ob.cells [D.vec 6]),(5,itO l ix cl 2),(6,Ob.arr false 1 9 o)] } = CKhA ks cs l ix cl o := by kernel_rfl
noncomputable def CKfA (ks cs : List D) (l ix : List Nat) (cl : Nat) (o : List (List D)) : Tr := Tr.ret (D.tuple []) [(0,Ob.cells [D.map 2]),(1,Ob.gen (Gen.loop LoopState.ready none #[7] (SC.rngA sc74 0) (SC.rngB sc74 0) 13 [6,4,2,0,1]) [D.func (Fn.func 58) [] [D.ptr 0 0],D.vec 3,D.ptr 4 0,D.nils,D.func (Fn.func 58) [] [D.ptr 0 0]]),(2,Ob.gen (Gen.mapC ks cs) []),(3,Ob.arr true 1 9 []),(4,Ob.cells [D.vec 5]),(5,Ob.arr false 1 9 o)]
theorem CKfA_eq (ks cs : List D) (l ix : List Nat) (cl : Nat) (o : List (List D)) : goT Tryz.prog (ctr libT) 5 (finF false 5 rs58) 2000 (aft sc58 1) { tm := [(7,D.bool false),(6,D.undef),(0,D.yld 1),(5,D.ptr 5 0)],ob := [(2,Ob.gen (Gen.mapC ks cs) []),(0,Ob.cells [D.map 2]),(1,recP (dsP 0 3 4)),(3,Ob.arr true 1 9 []),(4,Ob.cells [D.vec 6]),(5,itO l ix cl 2),(6,Ob.arr false 1 9 o)] } = CKfA ks cs l ix cl o := by kernel_rfl
noncomputable def CKtA (ks cs : List D) (l ix : List Nat) (cl : Nat) (o : List (List D)) (x : List UInt8) : Tr := Tr.owe (extD Ext.entry [D.ptr 5 0] (lk (St.ob { tm := [(7,D.bool true),(6,D.undef),(0,D.yld 1),(5,D.ptr 5 0)],ob := [(5,itO l ix cl 2),(0,Ob.cells [D.map 2]),(1,recP (dsP 0 3 4)),(2,mbO ks cs l cl),(3,Ob.arr true 1 9 []),(4,Ob.cells [D.vec 6]),(6,Ob.arr false 1 9 o)] })) = some (D.tuple [D.str x,D.agg []])) (Tr.owe (CallL Tryz.prog (D.yld 0) [D.str x] [(0,Ob.gen (Gen.loop LoopState.ready none #[7] (SC.rngA sc74 0) (SC.rngB sc74 0) 13 [6,4,2,0,1]) [D.func (Fn.func 58) [] [D.ptr 1 0],D.vec 2,D.ptr 3 0,D.nils,D.func (Fn.func 58) [] [D.ptr 1 0]]),(1,Ob.cells [D.map 4]),(2,Ob.arr true 1 9 []),(3,Ob.cells [D.vec 5]),(4,Ob.gen (Gen.mapB ks cs l cl) []),(5,Ob.arr false 1 9 o)] fun r0 ob0 => r0 = D.bool true /\ ob0 = [(0,Ob.gen (Gen.loop LoopState.ready none #[7] (SC.rngA sc74 0) (SC.rngB sc74 0) 13 [6,4,2,0,1]) [D.func (Fn.func 58) [] [D.ptr 1 0],D.vec 2,D.ptr 3 0,D.nils,D.func (Fn.func 58) [] [D.ptr 1 0]]),(1,Ob.cells [D.map 4]),(2,Ob.arr true 1 9 []),(3,Ob.cells [D.vec 6]),(4,Ob.gen (Gen.mapB ks cs l cl) []),(6,Ob.arr false 1 9 (o ++ [[D.str x]]))]) (Tr.jmp (cut sc58 0) { tm := [(0,D.yld 1),(5,D.ptr 5 0)],ob := [(0,Ob.cells [D.map 2]),(1,Ob.gen (Gen.loop LoopState.ready none #[7] (SC.rngA sc74 0) (SC.rngB sc74 0) 13 [6,4,2,0,1]) [D.func (Fn.func 58) [] [D.ptr 0 0],D.vec 3,D.ptr 4 0,D.nils,D.func (Fn.func 58) [] [D.ptr 0 0]]),(2,Ob.gen (Gen.mapB ks cs l cl) []),(3,Ob.arr true 1 9 []),(4,Ob.cells [D.vec 6]),(5,Ob.gen (Gen.iter l ix cl) [D.map 2]),(6,Ob.arr false 1 9 (o ++ [[D.str x]]))] }))
theorem CKtA_eq (ks cs : List D) (l ix : List Nat) (cl : Nat) (o : List (List D)) (x : List UInt8) : goT Tryz.prog (ctr libT (asmA (D.bool true) (addR (D.str x))) (eOne [D.tuple [D.str x,D.agg []]])) 5 (finF false 5 rs58) 2000 (aft sc58 1) { tm := [(7,D.bool true),(6,D.undef),(0,D.yld 1),(5,D.ptr 5 0)],ob := [(5,itO l ix cl 2),(0,Ob.cells [D.map 2]),(1,recP (dsP 0 3 4)),(2,mbO ks cs l cl),(3,Ob.arr true 1 9 []),(4,Ob.cells [D.vec 6]),(6,Ob.arr false 1 9 o)] } = CKtA ks cs l ix cl o x := by kernel_rfl
end Go.Proofs.YtiafmjolbacdaaaGreat

/- Keys gathered. -/
namespace Go.Proofs.YtiafmjolbacdaaaGreat
open Go.Sx Go.RowKit
theorem pN_ok (x : Nm) (ks cs : List D) (l : List Nat) (cl : Nat) : CallL Tryz.prog (.yld 0) [.str x] [(0,recP (dsP 1 2 3)),(1,.cells [.map 4]),(2,.arr true 1 9 []),(3,.cells [.nils]),(4,mbO ks cs l cl)] fun r ob => r = .bool true /\ ob = [(0,recP (dsP 1 2 3)),(1,.cells [.map 4]),(2,.arr true 1 9 []),(3,.cells [.vec 5]),(4,mbO ks cs l cl),(5,.arr false 1 9 [[.str x]])] := by
 refine CallL.yldT hdraw (ctr_ok libT_ok qnone_ok) rfl (TyPN_eq x ks cs l cl) ?_
 unfold TyPN
 rw [ok_owe,ok_ret]
 exact ⟨⟨alS [x],by decide⟩,rfl,rfl⟩
theorem pA_ok (x : Nm) (ks cs : List D) (l : List Nat) (cl : Nat) (o : List Nm) (ho : o.length + 1 <= 1073741824) : CallL Tryz.prog (.yld 0) [.str x] [(0,recP (dsP 1 2 3)),(1,.cells [.map 4]),(2,.arr true 1 9 []),(3,.cells [.vec 5]),(4,mbO ks cs l cl),(5,.arr false 1 9 (strC o))] fun r ob => r = .bool true /\ ob = [(0,recP (dsP 1 2 3)),(1,.cells [.map 4]),(2,.arr true 1 9 []),(3,.cells [.vec 6]),(4,mbO ks cs l cl),(6,.arr false 1 9 (strC o ++ [[.str x]]))] := by
 refine CallL.yldT hdraw (ctr_ok libT_ok qnone_ok) rfl (TyPA_eq x ks cs l cl (strC o)) ?_
 unfold TyPA
 rw [ok_owe,ok_ret]
 exact ⟨⟨alS [x],by rw [strC_len]; exact ho⟩,rfl,rfl⟩
def pickI (S : List Nm) (ix : List Nat) : List Nm := ix.map fun i => S.getD i []
theorem pick_perm {S : List Nm} {ix : List Nat} (hnd : ix.Nodup) (hlt : ∀ i ∈ ix,i < S.length) (hall : ∀ i,i < S.length -> i ∈ ix) : (pickI S ix).Perm S := by
 have h : ix.Perm (List.range S.length) := (List.perm_ext_iff_of_nodup hnd List.nodup_range).2 fun i => ⟨fun hi => List.mem_range.2 (hlt i hi),fun hi => hall i (List.mem_range.1 hi)⟩
 refine (h.map _).trans ?_
 have e : (List.range S.length).map (fun i => S.getD i []) = S := by
  refine List.ext_getElem? fun j => ?_
  rw [List.getElem?_map]
  by_cases hj : j < S.length
  ·simp [hj]
  ·rw [List.getElem?_eq_none (by simpa using hj),List.getElem?_eq_none (by omega)]; rfl
 rw [e]
theorem ix_le {n : Nat} {ix : List Nat} (hnd : ix.Nodup) (hlt : ∀ i ∈ ix,i < n) : ix.length <= n := by
 have := List.Nodup.length_le_of_subset hnd (l₂ := List.range n) (fun i hi => List.mem_range.2 (hlt i hi))
 simpa using this
theorem kS_get {S : List Nm} {i : Nat} (h : i < S.length) : (kS S)[i]? = some (.str (S.getD i [])) := by simp [kS,h]
theorem uS_get {S : List Nm} {i : Nat} (h : i < S.length) : (uS S)[i]? = some (.agg []) := by simp [uS,h]
theorem spc0 : spc sc58 0 = .sc (.spec (.rng [so 4 (.load false 1) [xt 1]] 5 (xt 4))) :: aft sc58 0 := rfl
theorem spc1 : spc sc58 1 = .sc (.spec (.nxt (xt 5) 6 7)) :: aft sc58 1 := rfl
def outP (S : List Nm) : List Nm -> Obs
 | [] => obPN (setO S)
 | c :: r => obPA (setO S) 5 (strC (c :: r))
def hdKs (S : List Nm) (l ix : List Nat) (cl : Nat) : List Nm -> St
 | [] => ⟨[(0,.yld 1),(5,.ptr 5 0)],obPN (mbO (kS S) (uS S) l cl) ++ [(5,itO l ix cl 2)]⟩
 | c :: r => ⟨[(0,.yld 1),(5,.ptr 5 0)],[(0,.cells [.map 2]),(1,recP (dsP 0 3 4)),(2,mbO (kS S) (uS S) l cl),(3,.arr true 1 9 []),(4,.cells [.vec 6]),(5,itO l ix cl 2),(6,.arr false 1 9 (strC (c :: r)))]⟩
abbrev RP (S : List Nm) : D -> Obs -> Prop := fun r ob => r = .tuple [] /\ ∃ q : List Nm,q.Perm S /\ ob = outP S q
theorem keys_at (S : List Nm) (hS : S.length <= 1073741823) (l : List Nat) (hl : l.length = S.length) (cl : Nat) : ∀ (m : Nat) (ix : List Nat),ix.Nodup -> (∀ i ∈ ix,i < S.length) -> S.length - ix.length = m →
  swF Tryz.prog (6001 + 4001 * m) 5 (cut sc58 0) (hdKs S l ix cl (pickI S ix)) (FinQ false 5 rs58 (RP S)) := by
 intro m
 induction m with
 | zero =>
  intro ix hnd hlt hm
  have hlen := ix_le hnd hlt
  have hq : ∀ (hall : ∀ i,i < l.length -> i ∈ ix),(pickI S ix).Perm S := fun hall => pick_perm hnd hlt fun i hi => hall i (by omega)
  have hfull : ∀ i,i < l.length -> i ∉ ix -> False := fun i hi hn => hn (full_ix hnd hlt (by omega) i (by omega))
  generalize hg : pickI S ix = g at hq ⊢
  cases g with
  | nil =>
   refine swF.tree (n0 := 4001) (n := 2000) (ctr_ok libT_ok qnone_ok) (CKhN_eq (kS S) (uS S) l ix cl) ?_
   unfold CKhN
   rw [ok_jmp,spc1]
   refine swF_spec ⟨5,l,ix,cl,2,kS S,uS S,rfl,rfl,rfl,by decide,fun hall => ⟨rfl, ?_⟩,fun i hi hn => (hfull i hi hn).elim⟩
   refine swF.tree (n0 := 2000) (n := 2000) (ctr_ok libT_ok qnone_ok) (CKfN_eq (kS S) (uS S) l ix cl) ?_
   unfold CKfN
   rw [ok_ret]
   exact ⟨rfl,[],hq hall,rfl⟩
  | cons c r =>
   refine swF.tree (n0 := 4001) (n := 2000) (ctr_ok libT_ok qnone_ok) (CKhA_eq (kS S) (uS S) l ix cl (strC (c :: r))) ?_
   unfold CKhA
   rw [ok_jmp,spc1]
   refine swF_spec ⟨5,l,ix,cl,2,kS S,uS S,rfl,rfl,rfl,by decide,fun hall => ⟨rfl, ?_⟩,fun i hi hn => (hfull i hi hn).elim⟩
   refine swF.tree (n0 := 2000) (n := 2000) (ctr_ok libT_ok qnone_ok) (CKfA_eq (kS S) (uS S) l ix cl (strC (c :: r))) ?_
   unfold CKfA
   rw [ok_ret]
   exact ⟨rfl,c :: r,hq hall,rfl⟩
 | succ m ih =>
  intro ix hnd hlt hm
  have hlen := ix_le hnd hlt
  have hnot : (∀ i,i < l.length -> i ∈ ix) -> False := fun hall => by
   have hp := pick_perm hnd hlt fun i hi => hall i (by omega)
   have := hp.length_eq
   simp only [pickI,List.length_map] at this
   omega
  have hnext : ∀ i,i < l.length -> i ∉ ix -> swF Tryz.prog (6001 + 4001 * m) 5 (cut sc58 0) (hdKs S l (ix ++ [i]) cl (pickI S ix ++ [S.getD i []])) (FinQ false 5 rs58 (RP S)) := fun i hi hn => by
   have hI := ih (ix ++ [i]) (by rw [List.nodup_append]; exact ⟨hnd,by simp,fun a ha b hb e => by simp at hb; subst hb; subst e; exact hn ha⟩) (fun j hj => by
    rcases List.mem_append.1 hj with hj | hj
    ·exact hlt j hj
    ·simp at hj; omega) (by simp; omega)
   have e : pickI S (ix ++ [i]) = pickI S ix ++ [S.getD i []] := by simp [pickI]
   rw [e] at hI
   exact hI
  have hpl : (pickI S ix).length = ix.length := by simp [pickI]
  rw [show 6001 + 4001 * (m + 1) = (4000 + 4001 * (m + 1) + 1) + 2000 by omega]
  generalize pickI S ix = g at hnext hpl ⊢
  cases g with
  | nil =>
   refine swF.tree (n0 := 4000 + 4001 * (m + 1) + 1) (n := 2000) (ctr_ok libT_ok qnone_ok) (CKhN_eq (kS S) (uS S) l ix cl) ?_
   unfold CKhN
   rw [ok_jmp,spc1]
   refine swF_spec ⟨5,l,ix,cl,2,kS S,uS S,rfl,rfl,rfl,by decide,fun hall => (hnot hall).elim,fun i hi hn => ⟨rfl, ?_⟩⟩
   have hi' : i < S.length := by omega
   have hI := hnext i hi hn
   have h1 := kS_get hi'
   have h2 := uS_get hi'
   rw [show 4000 + 4001 * (m + 1) = (6001 + 4001 * m) + 2000 by omega]
   refine swF.tree (n0 := 6001 + 4001 * m) (n := 2000) (ctr_ok libT_ok (asmA_ok _ _)) (CKtN_eq (kS S) (uS S) l (ix ++ [i]) cl (S.getD i [])) ?_
   unfold CKtN
   rw [ok_owe,ok_owe,ok_jmp]
   refine ⟨?_,pN_ok _ _ _ _ _,hI⟩
   simp [extD,lk,h1,h2,kOK]
  | cons c r =>
   refine swF.tree (n0 := 4000 + 4001 * (m + 1) + 1) (n := 2000) (ctr_ok libT_ok qnone_ok) (CKhA_eq (kS S) (uS S) l ix cl (strC (c :: r))) ?_
   unfold CKhA
   rw [ok_jmp,spc1]
   refine swF_spec ⟨5,l,ix,cl,2,kS S,uS S,rfl,rfl,rfl,by decide,fun hall => (hnot hall).elim,fun i hi hn => ⟨rfl, ?_⟩⟩
   have hi' : i < S.length := by omega
   have hI := hnext i hi hn
   have h1 := kS_get hi'
   have h2 := uS_get hi'
   rw [show 4000 + 4001 * (m + 1) = (6001 + 4001 * m) + 2000 by omega]
   refine swF.tree (n0 := 6001 + 4001 * m) (n := 2000) (ctr_ok libT_ok (asmA_ok _ _)) (CKtA_eq (kS S) (uS S) l (ix ++ [i]) cl (strC (c :: r)) (S.getD i [])) ?_
   unfold CKtA
   rw [ok_owe,ok_owe,ok_jmp]
   have e : strC (c :: r) ++ [[D.str (S.getD i [])]] = strC (c :: (r ++ [S.getD i []])) := by simp [strC]
   refine ⟨?_,pA_ok _ _ _ _ _ _ (by simp only [List.length_cons] at hpl ⊢; omega), ?_⟩
   ·simp [extD,lk,h1,h2,kOK]
   ·rw [e]; exact hI
theorem keys_ok (S : List Nm) (hS : S.length <= 1073741823) : CallL Tryz.prog (.func (.func fY) [] [.ptr 0 0]) [.yld 1] (obPN (setO S)) (RP S) := by
 refine CallL.tree hdraw fp58 (ctr_ok libT_ok qnone_ok) (CKs_eq (kS S) (uS S)) ?_
 unfold CKs
 rw [ok_jmp,spc0]
 refine ⟨_,swF_spec (n := 6001 + 4001 * S.length + 2000) ⟨2,kS S,uS S,rfl,rfl,rfl,(by show (2 : Nat) ≠ 10; decide),fun l cl h1 h2 h3 => ⟨rfl, ?_⟩⟩⟩
 refine swF.tree (n0 := 6001 + 4001 * S.length) (n := 2000) (ctr_ok libT_ok qnone_ok) (CKa_eq (kS S) (uS S) l cl) ?_
 unfold CKa
 rw [ok_jmp]
 exact keys_at S hS l (by rw [h1,kS_len]) cl _ [] List.nodup_nil (fun i hi => by simp at hi) rfl
end Go.Proofs.YtiafmjolbacdaaaGreat
