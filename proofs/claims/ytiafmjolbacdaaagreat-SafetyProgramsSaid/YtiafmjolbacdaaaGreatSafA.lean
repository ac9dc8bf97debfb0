/- Own work: a layer over the kit: plain data,a walk over it,its soundness. -/
import Derived.Test.YtiafmjolbacdaaaGreatVarsA
import Derived.Test.YtiafmjolbacdaaaGreatSx9
set_option linter.unusedSectionVars false
set_option linter.unusedVariables false
set_option linter.unusedSimpArgs false
set_option linter.deprecated false
set_option maxRecDepth 100000
/- Values,vars,Keys; set.add: trees. -/
namespace Go.Proofs.YtiafmjolbacdaaaGreat
open Go.Sx
def asmP (r : D) : PT := fun f xs => some (.ok (FnOK Tryz.prog f xs r) r [])
theorem asmP_ok (r : D) : (asmP r).OK := by intro f xs rt h; cases h; exact fun hp => hp
def eOne (c : List D) : Nat -> Int -> List D := fun _ _ => c
def eMap (ks vs : List D) (r : D) : Nat -> Int -> List D := fun _ n => if n = -1 then [.agg ks,.agg vs] else [r]
theorem drop_cons {α : Type} {l : List α} {i : Nat} (h : i < l.length) : l.drop i = l[i] :: l.drop (i + 1) := List.drop_eq_getElem_cons h
noncomputable def CVal (es ext : List (List D)) : Tr := Tr.ret (D.func (Fn.func 35) [] [D.ptr 0 0]) [(0,Ob.cells [D.slice es ext])]
theorem CVal_eq (es ext : List (List D)) : goT Tryz.prog (ctr libT) 0 (finF false 0 rs25) 2000 [Fr.sc sc25] { tm := envOf 0 ([] ++ [D.slice es ext] ++ []),ob := [] } = CVal es ext := by kernel_rfl
noncomputable def CVrs (es ext : List (List D)) : Tr := Tr.ret (D.func (Fn.func 59) [] [D.ptr 0 0]) [(0,Ob.cells [D.slice es ext])]
theorem CVrs_eq (es ext : List (List D)) : goT Tryz.prog (ctr libT) 0 (finF false 0 rs42) 2000 [Fr.sc sc42] { tm := envOf 0 ([] ++ [D.slice es ext] ++ []),ob := [] } = CVrs es ext := by kernel_rfl
noncomputable def CKey (ks cs : List D) : Tr := Tr.ret (D.func (Fn.func 58) [] [D.ptr 1 0]) [(0,Ob.gen (Gen.mapC ks cs) []),(1,Ob.cells [D.map 0])]
theorem CKey_eq (ks cs : List D) : goT Tryz.prog (ctr libT) 1 (finF false 1 rs39) 2000 [Fr.sc sc39] { tm := envOf 0 ([] ++ [D.map 0] ++ []),ob := [(0,Ob.gen (Gen.mapC ks cs) [])] } = CKey ks cs := by kernel_rfl
abbrev fV : FuncId := 35
abbrev fT : FuncId := 59
def keysA : List Nat := [5,2,0,1]
def dsA (f : FuncId) (a b c : Nat) : List D := [.func (.func f) [] [.ptr a 0],.ptr b 0,.map c,.func (.func f) [] [.ptr a 0]]
def recA (ds : List D) : Ob := .gen (.loop .ready none #[6] (sc24.rngA 0) (sc24.rngB 0) 10 keysA) ds
def obAd (f : FuncId) (es : List (List D)) (ks cs : List D) : Obs := [(0,.cells [.slice es []]),(1,recA (dsA f 0 2 3)),(2,.cells [.map 3]),(3,.gen (.mapC ks cs) [])]
def obAy (es : List (List D)) (ks cs : List D) : Obs := [(1,.cells [.slice es []]),(2,.cells [.map 3]),(3,.gen (.mapC ks cs) [])]
def updM (ks vs : List D) : Obs -> Obs
 | [] => []
 | (i,.gen (.mapC _ _) []) :: r => (i,.gen (.mapC ks vs) []) :: updM ks vs r
 | x :: r => x :: updM ks vs r
noncomputable def CAdV (ks cs ks' cs' : List D) (es : List (List D)) : Tr := Tr.owe (CallL Tryz.prog (D.func (Fn.func 35) [] [D.ptr 0 0]) [D.yld 1] [(0,Ob.cells [D.slice es []]),(1,Ob.gen (Gen.loop LoopState.ready none #[6] (SC.reg [so 4 AOp.mv [xt 6]]) (SC.block 1 (SC.reg [so 7 (AOp.load false 1) [xt 2],so 8 AOp.mv [xt 4],so 9 (AOp.build [] []) [],SOp.st none (SK.k none (xt 8)) (xt 7) (xt 9)])) 10 [5,2,0,1]) [D.func (Fn.func 35) [] [D.ptr 0 0],D.ptr 2 0,D.map 3,D.func (Fn.func 35) [] [D.ptr 0 0]]),(2,Ob.cells [D.map 3]),(3,Ob.gen (Gen.mapC ks cs) [])] fun r0 ob0 => r0 = D.tuple [] /\ ob0 = [(0,Ob.cells [D.slice es []]),(1,Ob.gen (Gen.loop LoopState.ready none #[6] (SC.reg [so 4 AOp.mv [xt 6]]) (SC.block 1 (SC.reg [so 7 (AOp.load false 1) [xt 2],so 8 AOp.mv [xt 4],so 9 (AOp.build [] []) [],SOp.st none (SK.k none (xt 8)) (xt 7) (xt 9)])) 10 [5,2,0,1]) [D.func (Fn.func 35) [] [D.ptr 0 0],D.ptr 2 0,D.map 3,D.func (Fn.func 35) [] [D.ptr 0 0]]),(2,Ob.cells [D.map 3]),(3,Ob.gen (Gen.mapC ks' cs') [])]) (Tr.ret (D.tuple []) [(0,Ob.gen (Gen.mapC ks' cs') []),(1,Ob.cells [D.slice es []])])
theorem CAdV_eq (ks cs ks' cs' : List D) (es : List (List D)) : goT Tryz.prog (ctr libT (asmA (D.tuple []) (updM ks' cs'))) 2 (finF false 2 rs24) 2000 [Fr.sc sc24] { tm := envOf 0 ([] ++ [D.map 0,D.func (Fn.func fV) [] [D.ptr 1 0]] ++ []),ob := [(0,Ob.gen (Gen.mapC ks cs) []),(1,Ob.cells [D.slice es []])] } = CAdV ks cs ks' cs' es := by kernel_rfl
noncomputable def CAdT (ks cs ks' cs' : List D) (es : List (List D)) : Tr := Tr.owe (CallL Tryz.prog (D.func (Fn.func 59) [] [D.ptr 0 0]) [D.yld 1] [(0,Ob.cells [D.slice es []]),(1,Ob.gen (Gen.loop LoopState.ready none #[6] (SC.reg [so 4 AOp.mv [xt 6]]) (SC.block 1 (SC.reg [so 7 (AOp.load false 1) [xt 2],so 8 AOp.mv [xt 4],so 9 (AOp.build [] []) [],SOp.st none (SK.k none (xt 8)) (xt 7) (xt 9)])) 10 [5,2,0,1]) [D.func (Fn.func 59) [] [D.ptr 0 0],D.ptr 2 0,D.map 3,D.func (Fn.func 59) [] [D.ptr 0 0]]),(2,Ob.cells [D.map 3]),(3,Ob.gen (Gen.mapC ks cs) [])] fun r0 ob0 => r0 = D.tuple [] /\ ob0 = [(0,Ob.cells [D.slice es []]),(1,Ob.gen (Gen.loop LoopState.ready none #[6] (SC.reg [so 4 AOp.mv [xt 6]]) (SC.block 1 (SC.reg [so 7 (AOp.load false 1) [xt 2],so 8 AOp.mv [xt 4],so 9 (AOp.build [] []) [],SOp.st none (SK.k none (xt 8)) (xt 7) (xt 9)])) 10 [5,2,0,1]) [D.func (Fn.func 59) [] [D.ptr 0 0],D.ptr 2 0,D.map 3,D.func (Fn.func 59) [] [D.ptr 0 0]]),(2,Ob.cells [D.map 3]),(3,Ob.gen (Gen.mapC ks' cs') [])]) (Tr.ret (D.tuple []) [(0,Ob.gen (Gen.mapC ks' cs') []),(1,Ob.cells [D.slice es []])])
theorem CAdT_eq (ks cs ks' cs' : List D) (es : List (List D)) : goT Tryz.prog (ctr libT (asmA (D.tuple []) (updM ks' cs'))) 2 (finF false 2 rs24) 2000 [Fr.sc sc24] { tm := envOf 0 ([] ++ [D.map 0,D.func (Fn.func fT) [] [D.ptr 1 0]] ++ []),ob := [(0,Ob.gen (Gen.mapC ks cs) []),(1,Ob.cells [D.slice es []])] } = CAdT ks cs ks' cs' es := by kernel_rfl
noncomputable def TyAd (f : FuncId) (x : List UInt8) (es : List (List D)) (ks cs ks' cs' : List D) : Tr := Tr.owe (mput (D.str x) (D.agg []) ks cs = some (ks',cs')) (Tr.ret (D.bool true) [(0,Ob.gen (Gen.loop LoopState.ready none #[6] (SC.rngA sc24 0) (SC.rngB sc24 0) 10 [5,2,0,1]) [D.func (Fn.func f) [] [D.ptr 1 0],D.ptr 2 0,D.map 3,D.func (Fn.func f) [] [D.ptr 1 0]]),(1,Ob.cells [D.slice es []]),(2,Ob.cells [D.map 3]),(3,Ob.gen (Gen.mapC ks' cs') [])])
theorem TyAd_eq (f : FuncId) (x : List UInt8) (es : List (List D)) (ks cs ks' cs' : List D) : yldT Tryz.prog (ctr libT qnone (eMap ks' cs' D.undef)) 4 0 10 #[6] (SC.rngA sc24 0) (SC.rngB sc24 0) keysA (dsA f 1 2 3) 2000 { tm := putP (List.zip [6] [D.str x]) (List.zip keysA (dsA f 1 2 3)),ob := obAy es ks cs } = TyAd f x es ks cs ks' cs' := by kernel_rfl
noncomputable def CVl (es : List (List D)) (ks cs ks' cs' : List D) : Tr := Tr.jmp (cut sc35 0) { tm := [(0,D.yld 1),(5,D.slice es []),(6,D.int .i64 (↑(List.length es) : Int)),(7,D.int .i64 (0 : Int))],ob := [(0,Ob.cells [D.slice es []]),(1,Ob.gen (Gen.loop LoopState.ready none #[6] (SC.rngA sc24 0) (SC.rngB sc24 0) 10 [5,2,0,1]) [D.func (Fn.func 35) [] [D.ptr 0 0],D.ptr 2 0,D.map 3,D.func (Fn.func 35) [] [D.ptr 0 0]]),(2,Ob.cells [D.map 3]),(3,Ob.gen (Gen.mapC ks cs) [])] }
theorem CVl_eq (es : List (List D)) (ks cs ks' cs' : List D) : goT Tryz.prog (ctr libT (asmA (D.bool true) (updM ks' cs'))) 4 (finF false 4 rs35) 2000 [Fr.sc sc35] { tm := envOf 0 ([] ++ [D.yld 1] ++ [D.ptr 0 0]),ob := obAd fV es ks cs } = CVl es ks cs ks' cs' := by kernel_rfl
def hdVl (es : List (List D)) (m i : Int) (ob : Obs) : St := ⟨[(0,.yld 1),(5,.slice es []),(6,.int .i64 m),(7,.int .i64 i)],ob⟩
noncomputable def CVl2 (es : List (List D)) (ks cs ks' cs' : List D) (m i : Int) (x : List UInt8) : Tr := brT (decide (i < m)) (Tr.owe ((0 : Int) <= i /\ es[Int.toNat i]? = some [D.str x]) (Tr.owe (CallL Tryz.prog (D.yld 0) [D.str x] [(0,Ob.gen (Gen.loop LoopState.ready none #[6] (SC.rngA sc24 0) (SC.rngB sc24 0) 10 [5,2,0,1]) [D.func (Fn.func 35) [] [D.ptr 1 0],D.ptr 2 0,D.map 3,D.func (Fn.func 35) [] [D.ptr 1 0]]),(1,Ob.cells [D.slice es []]),(2,Ob.cells [D.map 3]),(3,Ob.gen (Gen.mapC ks cs) [])] fun r0 ob0 => r0 = D.bool true /\ ob0 = [(0,Ob.gen (Gen.loop LoopState.ready none #[6] (SC.rngA sc24 0) (SC.rngB sc24 0) 10 [5,2,0,1]) [D.func (Fn.func 35) [] [D.ptr 1 0],D.ptr 2 0,D.map 3,D.func (Fn.func 35) [] [D.ptr 1 0]]),(1,Ob.cells [D.slice es []]),(2,Ob.cells [D.map 3]),(3,Ob.gen (Gen.mapC ks' cs') [])]) (Tr.owe ((-9223372036854775808 : Int) <= i + (1 : Int) /\ i + (1 : Int) <= (9223372036854775807 : Int)) (Tr.jmp (cut sc35 0) { tm := [(0,D.yld 1),(5,D.slice es []),(6,D.int .i64 m),(7,D.int .i64 (i + (1 : Int)))],ob := [(0,Ob.cells [D.slice es []]),(1,Ob.gen (Gen.loop LoopState.ready none #[6] (SC.rngA sc24 0) (SC.rngB sc24 0) 10 [5,2,0,1]) [D.func (Fn.func 35) [] [D.ptr 0 0],D.ptr 2 0,D.map 3,D.func (Fn.func 35) [] [D.ptr 0 0]]),(2,Ob.cells [D.map 3]),(3,Ob.gen (Gen.mapC ks' cs') [])] })))) (Tr.ret (D.tuple []) [(0,Ob.cells [D.slice es []]),(1,Ob.gen (Gen.loop LoopState.ready none #[6] (SC.rngA sc24 0) (SC.rngB sc24 0) 10 [5,2,0,1]) [D.func (Fn.func 35) [] [D.ptr 0 0],D.ptr 2 0,D.map 3,D.func (Fn.func 35) [] [D.ptr 0 0]]),(2,Ob.cells [D.map 3]),(3,Ob.gen (Gen.mapC ks cs) [])])
theorem CVl2_eq (es : List (List D)) (ks cs ks' cs' : List D) (m i : Int) (x : List UInt8) : goT Tryz.prog (ctr libT (asmA (D.bool true) (updM ks' cs')) (eOne [D.str x])) 4 (finF false 4 rs35) 2000 (cut sc35 0) (hdVl es m i (obAd fV es ks cs)) = CVl2 es ks cs ks' cs' m i x := by kernel_rfl
noncomputable def CVr (es : List (List D)) (ks cs ks' cs' : List D) : Tr := Tr.jmp (cut sc59 0) { tm := [(0,D.yld 1),(7,D.slice es []),(8,D.int .i64 (↑(List.length es) : Int)),(9,D.int .i64 (0 : Int))],ob := [(0,Ob.cells [D.slice es []]),(1,Ob.gen (Gen.loop LoopState.ready none #[6] (SC.rngA sc24 0) (SC.rngB sc24 0) 10 [5,2,0,1]) [D.func (Fn.func 59) [] [D.ptr 0 0],D.ptr 2 0,D.map 3,D.func (Fn.func 59) [] [D.ptr 0 0]]),(2,Ob.cells [D.map 3]),(3,Ob.gen (Gen.mapC ks cs) [])] }
theorem CVr_eq (es : List (List D)) (ks cs ks' cs' : List D) : goT Tryz.prog (ctr libT (asmA (D.bool true) (updM ks' cs'))) 4 (finF false 4 rs59) 2000 [Fr.sc sc59] { tm := envOf 0 ([] ++ [D.yld 1] ++ [D.ptr 0 0]),ob := obAd fT es ks cs } = CVr es ks cs ks' cs' := by kernel_rfl
def hdVr (es : List (List D)) (m i : Int) (ob : Obs) : St := ⟨[(0,.yld 1),(7,.slice es []),(8,.int .i64 m),(9,.int .i64 i)],ob⟩
noncomputable def CVr2 (es V : List (List D)) (ks cs ks' cs' : List D) (m i k n : Int) (s : List UInt8) (a : List (List D)) : Tr := brT (decide (i < m)) (Tr.owe ((0 : Int) <= i /\ es[Int.toNat i]? = some (tC k n s a)) (Tr.owe (FnOK Tryz.prog 60 [D.agg (tC k n s a)] (D.slice V [])) (Tr.jmp (cut sc59 1) { tm := [(0,D.yld 1),(7,D.slice es []),(8,D.int .i64 m),(9,D.int .i64 i),(14,D.slice V []),(15,D.int .i64 (↑(List.length V) : Int)),(16,D.int .i64 (0 : Int))],ob := [(0,Ob.cells [D.slice es []]),(1,Ob.gen (Gen.loop LoopState.ready none #[6] (SC.rngA sc24 0) (SC.rngB sc24 0) 10 [5,2,0,1]) [D.func (Fn.func 59) [] [D.ptr 0 0],D.ptr 2 0,D.map 3,D.func (Fn.func 59) [] [D.ptr 0 0]]),(2,Ob.cells [D.map 3]),(3,Ob.gen (Gen.mapC ks cs) [])] }))) (Tr.ret (D.tuple []) [(0,Ob.cells [D.slice es []]),(1,Ob.gen (Gen.loop LoopState.ready none #[6] (SC.rngA sc24 0) (SC.rngB sc24 0) 10 [5,2,0,1]) [D.func (Fn.func 59) [] [D.ptr 0 0],D.ptr 2 0,D.map 3,D.func (Fn.func 59) [] [D.ptr 0 0]]),(2,Ob.cells [D.map 3]),(3,Ob.gen (Gen.mapC ks cs) [])])
theorem CVr2_eq (es V : List (List D)) (ks cs ks' cs' : List D) (m i k n : Int) (s : List UInt8) (a : List (List D)) : goT Tryz.prog (ctr (asmP (D.slice V [])) (asmA (D.bool true) (updM ks' cs')) (eOne (tC k n s a))) 4 (finF false 4 rs59) 2000 (cut sc59 0) (hdVr es m i (obAd fT es ks cs)) = CVr2 es V ks cs ks' cs' m i k n s a := by kernel_rfl
def hdVj (es V : List (List D)) (m i mv j : Int) (ob : Obs) : St := ⟨[(0,.yld 1),(7,.slice es []),(8,.int .i64 m),(9,.int .i64 i),(14,.slice V []),(15,.int .i64 mv),(16,.int .i64 j)],ob⟩
noncomputable def CVr3 (es V : List (List D)) (ks cs ks' cs' : List D) (m i mv j : Int) (x : List UInt8) : Tr := brT (decide (j < mv)) (Tr.owe ((0 : Int) <= j /\ V[Int.toNat j]? = some [D.str x]) (Tr.owe (CallL Tryz.prog (D.yld 0) [D.str x] [(0,Ob.gen (Gen.loop LoopState.ready none #[6] (SC.rngA sc24 0) (SC.rngB sc24 0) 10 [5,2,0,1]) [D.func (Fn.func 59) [] [D.ptr 1 0],D.ptr 2 0,D.map 3,D.func (Fn.func 59) [] [D.ptr 1 0]]),(1,Ob.cells [D.slice es []]),(2,Ob.cells [D.map 3]),(3,Ob.gen (Gen.mapC ks cs) [])] fun r0 ob0 => r0 = D.bool true /\ ob0 = [(0,Ob.gen (Gen.loop LoopState.ready none #[6] (SC.rngA sc24 0) (SC.rngB sc24 0) 10 [5,2,0,1]) [D.func (Fn.func 59) [] [D.ptr 1 0],D.ptr 2 0,D.map 3,D.func (Fn.func 59) [] [D.ptr 1 0]]),(1,Ob.cells [D.slice es []]),(2,Ob.cells [D.map 3]),(3,Ob.gen (Gen.mapC ks' cs') [])]) (Tr.owe ((-9223372036854775808 : Int) <= j + (1 : Int) /\ j + (1 : Int) <= (9223372036854775807 : Int)) (Tr.jmp (cut sc59 1) { tm := [(0,D.yld 1),(7,D.slice es []),(8,D.int .i64 m),(9,D.int .i64 i),(14,D.slice V []),(15,D.int .i64 mv),(16,D.int .i64 (j + (1 : Int)))],ob := [(0,Ob.cells [D.slice es []]),(1,Ob.gen (Gen.loop LoopState.ready none #[6] (SC.rngA sc24 0) (SC.rngB sc24 0) 10 [5,2,0,1]) [D.func (Fn.func 59) [] [D.ptr 0 0],D.ptr 2 0,D.map 3,D.func (Fn.func 59) [] [D.ptr 0 0]]),(2,Ob.cells [D.map 3]),(3,Ob.gen (Gen.mapC ks' cs') [])] })))) (Tr.owe ((-9223372036854775808 : Int) <= i + (1 : Int) /\ i + (1 : Int) <= (9223372036854775807 : Int)) (Tr.jmp (cut sc59 0) { tm := [(0,D.yld 1),(7,D.slice es []),(8,D.int .i64 m),(9,D.int .i64 (i + (1 : Int)))],ob := [(0,Ob.cells [D.slice es []]),(1,Ob.gen (Gen.loop LoopState.ready none #[6] (SC.rngA sc24 0) (SC.rngB sc24 0) 10 [5,2,0,1]) [D.func (Fn.func 59) [] [D.ptr 0 0],D.ptr 2 0,D.map 3,D.func (Fn.func 59) [] [D.ptr 0 0]]),(2,Ob.cells [D.map 3]),(3,Ob.gen (Gen.mapC ks cs) [])] }))
theorem CVr3_eq (es V : List (List D)) (ks cs ks' cs' : List D) (m i mv j : Int) (x : List UInt8) : goT Tryz.prog (ctr libT (asmA (D.bool true) (updM ks' cs')) (eOne [D.str x])) 4 (finF false 4 rs59) 2000 (cut sc59 1) (hdVj es V m i mv j (obAd fT es ks cs)) = CVr3 es V ks cs ks' cs' m i mv j x := by kernel_rfl
end Go.Proofs.YtiafmjolbacdaaaGreat

/- set.add,over texts and over the variables of terms. -/
namespace Go.Proofs.YtiafmjolbacdaaaGreat
open Go.Sx
theorem strC_gt {l : List Nm} {i : Nat} (h : i < l.length) : (strC l)[i]? = some [.str l[i]] := by simp [strC,h]
theorem addY (f : FuncId) (x : Nm) (es : List (List D)) (S : List Nm) : CallL Tryz.prog (.yld 0) [.str x] ((0,recA (dsA f 1 2 3)) :: obAy es (kS S) (uS S)) fun r ob => r = .bool true /\ ob = (0,recA (dsA f 1 2 3)) :: obAy es (kS (insS S x)) (uS (insS S x)) := by
 refine CallL.yldT hdraw (ctr_ok libT_ok qnone_ok) rfl (TyAd_eq f x es (kS S) (uS S) (kS (insS S x)) (uS (insS S x))) ?_
 unfold TyAd
 rw [ok_owe,ok_ret]
 exact ⟨mput_str x S,rfl,rfl⟩
abbrev setO (S : List Nm) : Ob := .gen (.mapC (kS S) (uS S)) []
theorem addV_at (l : List Nm) (hl : l.length <= 281474976710656) : ∀ (m i : Nat) (S : List Nm),l.length - i = m -> i <= l.length →
  At Tryz.prog 4 (cut sc35 0) (hdVl (strC l) l.length i (obAd fV (strC l) (kS S) (uS S))) (FinQ false 4 rs35 fun r ob => r = .tuple [] /\ ob = obAd fV (strC l) (kS (addS S (l.drop i))) (uS (addS S (l.drop i)))) := by
 intro m
 induction m with
 | zero =>
  intro i S hm hi
  refine At.tree (ctr_ok libT_ok (asmA_ok _ _)) (CVl2_eq (strC l) (kS S) (uS S) [] [] l.length i []) ?_
  unfold CVl2
  rw [List.drop_eq_nil_of_le (by omega : l.length <= i),ok_br]
  refine ⟨fun h => ?_,fun _ => ⟨rfl,rfl⟩⟩
  have := of_decide_eq_true h
  omega
 | succ m ih =>
  intro i S hm hi
  have h1 : i < l.length := by omega
  have hI := ih (i + 1) (insS S l[i]) (by omega) (by omega)
  rw [drop_cons h1]
  refine At.tree (ctr_ok libT_ok (asmA_ok _ _)) (CVl2_eq (strC l) (kS S) (uS S) (kS (insS S l[i])) (uS (insS S l[i])) l.length i l[i]) ?_
  unfold CVl2
  rw [ok_br]
  refine ⟨fun _ => ?_,fun h => ?_⟩
  ·rw [ok_owe,Int.toNat_natCast,ok_owe,ok_owe,ok_jmp]
   exact ⟨⟨by omega,strC_gt h1⟩,addY fV l[i] (strC l) S,by omega,hI⟩
  ·have := of_decide_eq_false h; omega
theorem addV_ok (l : List Nm) (hl : l.length <= 281474976710656) (S : List Nm) : CallL Tryz.prog (.func (.func 24) [] []) [.map 0,.func (.func fV) [] [.ptr 1 0]] [(0,setO S),(1,.cells [.slice (strC l) []])] fun r ob => r = .tuple [] /\ ob = [(0,setO (addS S l)),(1,.cells [.slice (strC l) []])] := by
 refine CallL.tree hdraw fp24 (ctr_ok libT_ok (asmA_ok _ _)) (CAdV_eq (kS S) (uS S) (kS (addS S l)) (uS (addS S l)) (strC l)) ?_
 unfold CAdV
 rw [ok_owe]
 refine ⟨?_,rfl,rfl⟩
 refine CallL.tree hdraw fp35 (ctr_ok libT_ok (asmA_ok (.bool true) (updM [] []))) (CVl_eq (strC l) (kS S) (uS S) [] []) ?_
 unfold CVl
 rw [ok_jmp,strC_len]
 exact addV_at l hl _ 0 S rfl (Nat.zero_le _)
def okT (l : List Tm) : Prop := l.length <= 281474976710656 /\ ∀ x ∈ l,x.wf 281474976710656 /\ x.vs.length <= 1073741824
theorem addT_at3 (es : List (List D)) (V : List Nm) (mm ii : Int) (Q : List Nm -> Prop) (hV : V.length <= 1073741824) (R : D -> Obs -> Prop)
  (hi : -9223372036854775808 <= ii + 1 /\ ii + 1 <= 9223372036854775807) (T : List Nm) (K : At Tryz.prog 4 (cut sc59 0) (hdVr es mm (ii + 1) (obAd fT es (kS T) (uS T))) (FinQ false 4 rs59 R)) : ∀ (m i : Nat) (S : List Nm),V.length - i = m -> i <= V.length -> addS S (V.drop i) = T →
  At Tryz.prog 4 (cut sc59 1) (hdVj es (strC V) mm ii V.length i (obAd fT es (kS S) (uS S))) (FinQ false 4 rs59 R) := by
 intro m
 induction m with
 | zero =>
  intro i S hm hi' hT
  refine At.tree (ctr_ok libT_ok (asmA_ok _ _)) (CVr3_eq es (strC V) (kS S) (uS S) [] [] mm ii V.length i []) ?_
  unfold CVr3
  rw [List.drop_eq_nil_of_le (by omega : V.length <= i)] at hT
  have hT : S = T := hT
  subst hT
  rw [ok_br]
  refine ⟨fun h => ?_,fun _ => ?_⟩
  ·have := of_decide_eq_true h
   omega
  ·rw [ok_owe,ok_jmp]
   exact ⟨hi,K⟩
 | succ m ih =>
  intro i S hm hi' hT
  have h1 : i < V.length := by omega
  rw [drop_cons h1] at hT
  have hI := ih (i + 1) (insS S V[i]) (by omega) (by omega) hT
  refine At.tree (ctr_ok libT_ok (asmA_ok _ _)) (CVr3_eq es (strC V) (kS S) (uS S) (kS (insS S V[i])) (uS (insS S V[i])) mm ii V.length i V[i]) ?_
  unfold CVr3
  rw [ok_br]
  refine ⟨fun _ => ?_,fun h => ?_⟩
  ·rw [ok_owe,Int.toNat_natCast,ok_owe,ok_owe,ok_jmp]
   exact ⟨⟨by omega,strC_gt h1⟩,addY fT V[i] es S,by omega,hI⟩
  ·have := of_decide_eq_false h; omega
theorem addT_at (l : List Tm) (hl : okT l) : ∀ (m i : Nat) (S : List Nm),l.length - i = m -> i <= l.length →
  At Tryz.prog 4 (cut sc59 0) (hdVr (Tm.cellsL l) l.length i (obAd fT (Tm.cellsL l) (kS S) (uS S))) (FinQ false 4 rs59 fun r ob => r = .tuple [] /\ ob = obAd fT (Tm.cellsL l) (kS (addS S (varsL (l.drop i)))) (uS (addS S (varsL (l.drop i))))) := by
 intro m
 have hl1 := hl.1
 induction m with
 | zero =>
  intro i S hm hi
  refine At.tree (ctr_ok (asmP_ok _) (asmA_ok _ _)) (CVr2_eq (Tm.cellsL l) [] (kS S) (uS S) [] [] l.length i 0 0 [] []) ?_
  unfold CVr2
  rw [List.drop_eq_nil_of_le (by omega : l.length <= i),ok_br]
  refine ⟨fun h => ?_,fun _ => ⟨rfl,rfl⟩⟩
  have := of_decide_eq_true h
  omega
 | succ m ih =>
  intro i S hm hi
  have h1 : i < l.length := by omega
  have hx : (Tm.cellsL l)[i]? = some l[i].cells := by rw [cellsL_map]; simp [h1]
  have hw := hl.2 _ (List.getElem_mem h1)
  have hv := vars_ok l[i] hw.1 hw.2
  have hVl := W_len l[i]
  have hI := ih (i + 1) (addS S l[i].W) (by omega) (by omega)
  have hd : addS S (varsL (l.drop i)) = addS (addS S l[i].W) (varsL (l.drop (i + 1))) := by
   rw [drop_cons h1]
   unfold varsL
   rw [List.flatMap_cons,addS_app]
  rw [hd]
  have h3 := addT_at3 (Tm.cellsL l) l[i].W l.length i (fun _ => True) (by omega) _ (by omega) _ hI _ 0 S rfl (Nat.zero_le _) rfl
  generalize Tm.W l[i] = V at hv h3
  generalize l[i] = x at hx hv
  obtain ⟨k,n,s,a⟩ := x
  refine At.tree (ctr_ok (asmP_ok _) (asmA_ok (.bool true) (updM [] []))) (CVr2_eq (Tm.cellsL l) (strC V) (kS S) (uS S) [] [] l.length i k n s (Tm.cellsL a)) ?_
  unfold CVr2
  rw [ok_br]
  refine ⟨fun _ => ?_,fun h => ?_⟩
  ·rw [ok_owe,Int.toNat_natCast,ok_owe,ok_jmp,strC_len]
   exact ⟨⟨by omega,hx⟩,hv,h3⟩
  ·have := of_decide_eq_false h; omega
theorem addT_ok (l : List Tm) (hl : okT l) (S : List Nm) : CallL Tryz.prog (.func (.func 24) [] []) [.map 0,.func (.func fT) [] [.ptr 1 0]] [(0,setO S),(1,.cells [.slice (Tm.cellsL l) []])] fun r ob => r = .tuple [] /\ ob = [(0,setO (addS S (varsL l))),(1,.cells [.slice (Tm.cellsL l) []])] := by
 refine CallL.tree hdraw fp24 (ctr_ok libT_ok (asmA_ok _ _)) (CAdT_eq (kS S) (uS S) (kS (addS S (varsL l))) (uS (addS S (varsL l))) (Tm.cellsL l)) ?_
 unfold CAdT
 rw [ok_owe]
 refine ⟨?_,rfl,rfl⟩
 refine CallL.tree hdraw fp59 (ctr_ok libT_ok (asmA_ok (.bool true) (updM [] []))) (CVr_eq (Tm.cellsL l) (kS S) (uS S) [] []) ?_
 unfold CVr
 rw [ok_jmp,cellsL_length]
 exact addT_at l hl _ 0 S rfl (Nat.zero_le _)
end Go.Proofs.YtiafmjolbacdaaaGreat

/- has,knows,equation,outer,step: trees. -/
namespace Go.Proofs.YtiafmjolbacdaaaGreat
open Go.Sx
def onF (f : FuncId) (q : QT) : QT := fun d xs ob => match d with
 | .func (.func g) _ _ => if g = f then q d xs ob else none
 | _ => none
theorem onF_ok {f : FuncId} {q : QT} (hq : q.OK) : (onF f q).OK := by
 intro d xs ob rt h
 unfold onF at h
 split at h
 ·split at h
  ·exact hq _ _ _ _ h
  ·cases h
 ·cases h
def valQ : QT := fun d xs ob => match d,xs,ob with
 | .func (.func f) [] [],[.slice es ext],[] => if f = 25 then some (.ok True (.func (.func fV) [] [.ptr 0 0]) [(0,.cells [.slice es ext])]) else none
 | _,_,_ => none
theorem valQ_ok : valQ.OK := by
 intro d xs ob rt h
 unfold valQ at h
 split at h
 ·split at h
  ·rename_i hf
   subst hf
   cases h
   intro _
   exact CallL.tree hdraw fp25 (ctr_ok libT_ok qnone_ok) (CVal_eq _ _) ⟨rfl,rfl⟩
  ·cases h
 ·cases h
def varQ : QT := fun d xs ob => match d,xs,ob with
 | .func (.func f) [] [],[.slice es ext],[] => if f = 42 then some (.ok True (.func (.func fT) [] [.ptr 0 0]) [(0,.cells [.slice es ext])]) else none
 | _,_,_ => none
theorem varQ_ok : varQ.OK := by
 intro d xs ob rt h
 unfold varQ at h
 split at h
 ·split at h
  ·rename_i hf
   subst hf
   cases h
   intro _
   exact CallL.tree hdraw fp42 (ctr_ok libT_ok qnone_ok) (CVrs_eq _ _) ⟨rfl,rfl⟩
  ·cases h
 ·cases h
def ctrS (p : PT) (q : Nat -> QT) (e : Nat -> Int -> List D := noE) : Ctr := ⟨fun _ => p,q,e⟩
theorem ctrS_ok {p : PT} {q : Nat -> QT} {e : Nat -> Int -> List D} (hp : p.OK) (hq : ∀ t,(q t).OK) : (ctrS p q e).OK Tryz.prog := ⟨fun _ => hp,hq⟩
def atT (t0 : Nat) (q q' : QT) : Nat -> QT := fun t => if t = t0 then q else q'
theorem atT_ok {t0 : Nat} {q q' : QT} (h : q.OK) (h' : q'.OK) (t : Nat) : (atT t0 q q' t).OK := by
 unfold atT
 split
 ·exact h
 ·exact h'
noncomputable def CHsT (ks cs : List D) (x : List UInt8) : Tr := Tr.owe (extD (Ext.look2 none (D.agg [])) [D.map 0,D.str x] (lk (St.ob (St.put (St.put (St.put { tm := envOf 0 ([] ++ [D.map 0,D.str x] ++ []),ob := [(0,Ob.gen (Gen.mapC ks cs) [])] } (some 4) (St.get { tm := envOf 0 ([] ++ [D.map 0,D.str x] ++ []),ob := [(0,Ob.gen (Gen.mapC ks cs) [])] } (xc (D.bool false)))) (some 8) (St.get (St.put { tm := envOf 0 ([] ++ [D.map 0,D.str x] ++ []),ob := [(0,Ob.gen (Gen.mapC ks cs) [])] } (some 4) (St.get { tm := envOf 0 ([] ++ [D.map 0,D.str x] ++ []),ob := [(0,Ob.gen (Gen.mapC ks cs) [])] } (xc (D.bool false)))) (xt 0))) (some 9) (St.get (St.put (St.put { tm := envOf 0 ([] ++ [D.map 0,D.str x] ++ []),ob := [(0,Ob.gen (Gen.mapC ks cs) [])] } (some 4) (St.get { tm := envOf 0 ([] ++ [D.map 0,D.str x] ++ []),ob := [(0,Ob.gen (Gen.mapC ks cs) [])] } (xc (D.bool false)))) (some 8) (St.get (St.put { tm := envOf 0 ([] ++ [D.map 0,D.str x] ++ []),ob := [(0,Ob.gen (Gen.mapC ks cs) [])] } (some 4) (St.get { tm := envOf 0 ([] ++ [D.map 0,D.str x] ++ []),ob := [(0,Ob.gen (Gen.mapC ks cs) [])] } (xc (D.bool false)))) (xt 0))) (xt 1))))) = some (D.tuple [D.agg [],D.bool true])) (Tr.ret (D.bool true) [(0,Ob.gen (Gen.mapC ks cs) [])])
theorem CHsT_eq (ks cs : List D) (x : List UInt8) : goT Tryz.prog (ctr libT qnone (eOne [D.tuple [D.agg [],D.bool true]])) 1 (finF false 1 rs61) 2000 [Fr.sc sc61] { tm := envOf 0 ([] ++ [D.map 0,D.str x] ++ []),ob := [(0,Ob.gen (Gen.mapC ks cs) [])] } = CHsT ks cs x := by kernel_rfl
noncomputable def CHsF (ks cs : List D) (x : List UInt8) : Tr := Tr.owe (extD (Ext.look2 none (D.agg [])) [D.map 0,D.str x] (lk (St.ob (St.put (St.put (St.put { tm := envOf 0 ([] ++ [D.map 0,D.str x] ++ []),ob := [(0,Ob.gen (Gen.mapC ks cs) [])] } (some 4) (St.get { tm := envOf 0 ([] ++ [D.map 0,D.str x] ++ []),ob := [(0,Ob.gen (Gen.mapC ks cs) [])] } (xc (D.bool false)))) (some 8) (St.get (St.put { tm := envOf 0 ([] ++ [D.map 0,D.str x] ++ []),ob := [(0,Ob.gen (Gen.mapC ks cs) [])] } (some 4) (St.get { tm := envOf 0 ([] ++ [D.map 0,D.str x] ++ []),ob := [(0,Ob.gen (Gen.mapC ks cs) [])] } (xc (D.bool false)))) (xt 0))) (some 9) (St.get (St.put (St.put { tm := envOf 0 ([] ++ [D.map 0,D.str x] ++ []),ob := [(0,Ob.gen (Gen.mapC ks cs) [])] } (some 4) (St.get { tm := envOf 0 ([] ++ [D.map 0,D.str x] ++ []),ob := [(0,Ob.gen (Gen.mapC ks cs) [])] } (xc (D.bool false)))) (some 8) (St.get (St.put { tm := envOf 0 ([] ++ [D.map 0,D.str x] ++ []),ob := [(0,Ob.gen (Gen.mapC ks cs) [])] } (some 4) (St.get { tm := envOf 0 ([] ++ [D.map 0,D.str x] ++ []),ob := [(0,Ob.gen (Gen.mapC ks cs) [])] } (xc (D.bool false)))) (xt 0))) (xt 1))))) = some (D.tuple [D.agg [],D.bool false])) (Tr.ret (D.bool false) [(0,Ob.gen (Gen.mapC ks cs) [])])
theorem CHsF_eq (ks cs : List D) (x : List UInt8) : goT Tryz.prog (ctr libT qnone (eOne [D.tuple [D.agg [],D.bool false]])) 1 (finF false 1 rs61) 2000 [Fr.sc sc61] { tm := envOf 0 ([] ++ [D.map 0,D.str x] ++ []),ob := [(0,Ob.gen (Gen.mapC ks cs) [])] } = CHsF ks cs x := by kernel_rfl
abbrev fK : FuncId := 121
noncomputable def CKn (ks cs : List D) (k n : Int) (s : List UInt8) (a V : List (List D)) (b : Bool) : Tr := Tr.owe (FnOK Tryz.prog 60 [D.agg (tC k n s a)] (D.slice V [])) (Tr.owe (CallL Tryz.prog (D.func (Fn.func 120) [] []) [D.slice V [],D.func (Fn.func 121) [] [D.ptr 0 0]] [(0,Ob.cells [D.map 1]),(1,Ob.gen (Gen.mapC ks cs) [])] fun r0 ob0 => r0 = D.bool b /\ ob0 = [(0,Ob.cells [D.map 1]),(1,Ob.gen (Gen.mapC ks cs) [])]) (Tr.ret (D.bool !b) [(0,Ob.gen (Gen.mapC ks cs) [])]))
theorem CKn_eq (ks cs : List D) (k n : Int) (s : List UInt8) (a V : List (List D)) (b : Bool) : goT Tryz.prog (ctr (asmP (D.slice V [])) (asmA (D.bool b) id)) 1 (finF false 1 rs99) 2000 [Fr.sc sc99] { tm := envOf 0 ([] ++ [D.agg [D.map 0],D.agg (tC k n s a)] ++ []),ob := [(0,Ob.gen (Gen.mapC ks cs) [])] } = CKn ks cs k n s a V b := by kernel_rfl
def obK (ks cs : List D) : Obs := [(0,.cells [.map 1]),(1,.gen (.mapC ks cs) [])]
noncomputable def CCt (ks cs : List D) (V : List (List D)) (r : Int) : Tr := Tr.owe (CallL Tryz.prog (D.func (Fn.func 136) [] []) [D.slice V [],D.func (Fn.func 121) [] [D.ptr 0 0]] [(0,Ob.cells [D.map 1]),(1,Ob.gen (Gen.mapC ks cs) [])] fun r0 ob0 => r0 = D.int .i64 r /\ ob0 = [(0,Ob.cells [D.map 1]),(1,Ob.gen (Gen.mapC ks cs) [])]) (Tr.ret (D.bool (decide ((0 : Int) <= r))) [(0,Ob.cells [D.map 1]),(1,Ob.gen (Gen.mapC ks cs) [])])
theorem CCt_eq (ks cs : List D) (V : List (List D)) (r : Int) : goT Tryz.prog (ctr libT (asmA (D.int .i64 r) id)) 2 (finF false 2 rs120) 2000 [Fr.sc sc120] { tm := envOf 0 ([] ++ [D.slice V [],D.func (Fn.func fK) [] [D.ptr 0 0]] ++ []),ob := obK ks cs } = CCt ks cs V r := by kernel_rfl
noncomputable def CIx (ks cs : List D) (V : List (List D)) : Tr := Tr.jmp (cut sc136 0) { tm := [(0,D.slice V []),(1,D.func (Fn.func 121) [] [D.ptr 0 0]),(7,D.int .i64 (↑(List.length V) : Int)),(8,D.int .i64 (0 : Int))],ob := [(0,Ob.cells [D.map 1]),(1,Ob.gen (Gen.mapC ks cs) [])] }
theorem CIx_eq (ks cs : List D) (V : List (List D)) : goT Tryz.prog (ctr libT) 2 (finF false 2 rs136) 2000 [Fr.sc sc136] { tm := envOf 0 ([] ++ [D.slice V [],D.func (Fn.func fK) [] [D.ptr 0 0]] ++ []),ob := obK ks cs } = CIx ks cs V := by kernel_rfl
def hdIx (V : List (List D)) (m i : Int) (ob : Obs) : St := ⟨[(0,.slice V []),(1,.func (.func fK) [] [.ptr 0 0]),(7,.int .i64 m),(8,.int .i64 i)],ob⟩
noncomputable def CIx2 (ks cs : List D) (V : List (List D)) (m i : Int) (x : List UInt8) (b : Bool) : Tr := brT (decide (i < m)) (Tr.owe ((0 : Int) <= i /\ V[Int.toNat i]? = some [D.str x]) (Tr.owe (CallL Tryz.prog (D.func (Fn.func 121) [] [D.ptr 0 0]) [D.str x] [(0,Ob.cells [D.map 1]),(1,Ob.gen (Gen.mapC ks cs) [])] fun r0 ob0 => r0 = D.bool b /\ ob0 = [(0,Ob.cells [D.map 1]),(1,Ob.gen (Gen.mapC ks cs) [])]) (brT b (Tr.ret (D.int .i64 i) [(0,Ob.cells [D.map 1]),(1,Ob.gen (Gen.mapC ks cs) [])]) (Tr.owe ((-9223372036854775808 : Int) <= i + (1 : Int) /\ i + (1 : Int) <= (9223372036854775807 : Int)) (Tr.jmp (cut sc136 0) { tm := [(0,D.slice V []),(1,D.func (Fn.func 121) [] [D.ptr 0 0]),(7,D.int .i64 m),(8,D.int .i64 (i + (1 : Int)))],ob := [(0,Ob.cells [D.map 1]),(1,Ob.gen (Gen.mapC ks cs) [])] }))))) (Tr.ret (D.int .i64 (-1 : Int)) [(0,Ob.cells [D.map 1]),(1,Ob.gen (Gen.mapC ks cs) [])])
theorem CIx2_eq (ks cs : List D) (V : List (List D)) (m i : Int) (x : List UInt8) (b : Bool) : goT Tryz.prog (ctr libT (asmA (D.bool b) id) (eOne [D.str x])) 2 (finF false 2 rs136) 2000 (cut sc136 0) (hdIx V m i (obK ks cs)) = CIx2 ks cs V m i x b := by kernel_rfl
noncomputable def CK1 (ks cs : List D) (x : List UInt8) (b : Bool) : Tr := Tr.owe (CallL Tryz.prog (D.func (Fn.func 61) [] []) [D.map 0,D.str x] [(0,Ob.gen (Gen.mapC ks cs) [])] fun r0 ob0 => r0 = D.bool b /\ ob0 = [(0,Ob.gen (Gen.mapC ks cs) [])]) (Tr.ret (D.bool !b) [(0,Ob.cells [D.map 1]),(1,Ob.gen (Gen.mapC ks cs) [])])
theorem CK1_eq (ks cs : List D) (x : List UInt8) (b : Bool) : goT Tryz.prog (ctr libT (asmA (D.bool b) id)) 2 (finF false 2 rs121) 2000 [Fr.sc sc121] { tm := envOf 0 ([] ++ [D.str x] ++ [D.ptr 0 0]),ob := obK ks cs } = CK1 ks cs x b := by kernel_rfl
noncomputable def POu (es ext : List (List D)) : Tr := Tr.jmp (cut sc72 0) { tm := [(2,D.vec 0),(5,D.slice es ext),(6,D.int .i64 (↑(List.length es) : Int)),(7,D.int .i64 (0 : Int))],ob := [(0,Ob.arr true 1 9 [])] }
theorem POu_eq (es ext : List (List D)) : goT Tryz.prog (ctr libT) 0 (finF true 0 rs72) 2000 [Fr.sc sc72] { tm := envOf 0 [D.slice es ext],ob := [] } = POu es ext := by kernel_rfl
def hdOu (es ext rs : List (List D)) (m i : Int) : St := ⟨[(2,.vec 0),(5,.slice es ext),(6,.int .i64 m),(7,.int .i64 i)],[(0,.arr true 1 9 rs)]⟩
noncomputable def POu2 (es ext rs q : List (List D)) (m i k n : Int) (s : List UInt8) (a : List (List D)) : Tr := brT (decide (i < m)) (Tr.owe ((0 : Int) <= i /\ es[Int.toNat i]? = some (tC k n s a)) (brT (decide (k = (5 : Int))) (brT (decide (k = (5 : Int))) (Tr.owe ((-9223372036854775808 : Int) <= i + (1 : Int) /\ i + (1 : Int) <= (9223372036854775807 : Int)) (Tr.jmp (cut sc72 0) { tm := [(2,D.vec 0),(5,D.slice es ext),(6,D.int .i64 m),(7,D.int .i64 (i + (1 : Int)))],ob := [(0,Ob.arr true 1 9 rs)] })) (brT (decide (k = (3 : Int))) (Tr.owe (allLen 1 [[D.str s]] /\ List.length rs + 1 <= 1073741824) (Tr.owe (FnOK Tryz.prog 72 [D.slice a []] (D.slice q [])) (Tr.owe (allLen 1 q /\ List.length (rs ++ [[D.str s]]) + List.length q <= 1073741824) (Tr.owe ((-9223372036854775808 : Int) <= i + (1 : Int) /\ i + (1 : Int) <= (9223372036854775807 : Int)) (Tr.jmp (cut sc72 0) { tm := [(2,D.vec 0),(5,D.slice es ext),(6,D.int .i64 m),(7,D.int .i64 (i + (1 : Int)))],ob := [(0,Ob.arr true 1 9 (rs ++ [[D.str s]] ++ q))] }))))) (Tr.owe (FnOK Tryz.prog 72 [D.slice a []] (D.slice q [])) (Tr.owe (allLen 1 q /\ List.length rs + List.length q <= 1073741824) (Tr.owe ((-9223372036854775808 : Int) <= i + (1 : Int) /\ i + (1 : Int) <= (9223372036854775807 : Int)) (Tr.jmp (cut sc72 0) { tm := [(2,D.vec 0),(5,D.slice es ext),(6,D.int .i64 m),(7,D.int .i64 (i + (1 : Int)))],ob := [(0,Ob.arr true 1 9 (rs ++ q))] })))))) (brT (decide (k = (6 : Int))) (Tr.owe ((-9223372036854775808 : Int) <= i + (1 : Int) /\ i + (1 : Int) <= (9223372036854775807 : Int)) (Tr.jmp (cut sc72 0) { tm := [(2,D.vec 0),(5,D.slice es ext),(6,D.int .i64 m),(7,D.int .i64 (i + (1 : Int)))],ob := [(0,Ob.arr true 1 9 rs)] })) (brT (decide (k = (3 : Int))) (Tr.owe (allLen 1 [[D.str s]] /\ List.length rs + 1 <= 1073741824) (Tr.owe (FnOK Tryz.prog 72 [D.slice a []] (D.slice q [])) (Tr.owe (allLen 1 q /\ List.length (rs ++ [[D.str s]]) + List.length q <= 1073741824) (Tr.owe ((-9223372036854775808 : Int) <= i + (1 : Int) /\ i + (1 : Int) <= (9223372036854775807 : Int)) (Tr.jmp (cut sc72 0) { tm := [(2,D.vec 0),(5,D.slice es ext),(6,D.int .i64 m),(7,D.int .i64 (i + (1 : Int)))],ob := [(0,Ob.arr true 1 9 (rs ++ [[D.str s]] ++ q))] }))))) (Tr.owe (FnOK Tryz.prog 72 [D.slice a []] (D.slice q [])) (Tr.owe (allLen 1 q /\ List.length rs + List.length q <= 1073741824) (Tr.owe ((-9223372036854775808 : Int) <= i + (1 : Int) /\ i + (1 : Int) <= (9223372036854775807 : Int)) (Tr.jmp (cut sc72 0) { tm := [(2,D.vec 0),(5,D.slice es ext),(6,D.int .i64 m),(7,D.int .i64 (i + (1 : Int)))],ob := [(0,Ob.arr true 1 9 (rs ++ q))] })))))))) (Tr.ret (D.own 1 9 rs) [])
theorem POu2_eq (es ext rs q : List (List D)) (m i k n : Int) (s : List UInt8) (a : List (List D)) : goT Tryz.prog (ctr (asmP (D.slice q [])) qnone (eOne (tC k n s a))) 0 (finF true 0 rs72) 2000 (cut sc72 0) (hdOu es ext rs m i) = POu2 es ext rs q m i k n s a := by kernel_rfl
noncomputable def CEq (ks cs ks' cs' : List D) (kx nx : Int) (sx : List UInt8) (ax : List (List D)) (k n : Int) (s : List UInt8) (a : List (List D)) (b : Bool) : Tr := brT (decide (kx = (3 : Int))) (Tr.owe (CallL Tryz.prog (D.func (Fn.func 99) [] []) [D.agg [D.map 0],D.agg (tC k n s a)] [(0,Ob.gen (Gen.mapC ks cs) [])] fun r0 ob0 => r0 = D.bool b /\ ob0 = [(0,Ob.gen (Gen.mapC ks cs) [])]) (brT b (Tr.owe True (Tr.owe (CallL Tryz.prog (D.func (Fn.func 24) [] []) [D.map 0,D.func (Fn.func 35) [] [D.ptr 1 0]] [(0,Ob.gen (Gen.mapC ks cs) []),(1,Ob.cells [D.slice [[D.str sx]] []])] fun r0 ob0 => r0 = D.tuple [] /\ ob0 = [(0,Ob.gen (Gen.mapC ks' cs') []),(1,Ob.cells [D.slice [[D.str sx]] []])]) (Tr.ret (D.tuple []) [(0,Ob.gen (Gen.mapC ks' cs') [])]))) (Tr.ret (D.tuple []) [(0,Ob.gen (Gen.mapC ks cs) [])]))) (Tr.ret (D.tuple []) [(0,Ob.gen (Gen.mapC ks cs) [])])
theorem CEq_eq (ks cs ks' cs' : List D) (kx nx : Int) (sx : List UInt8) (ax : List (List D)) (k n : Int) (s : List UInt8) (a : List (List D)) (b : Bool) : goT Tryz.prog (ctr libT (QT.or (QT.or (onF 99 (asmA (D.bool b) id)) valQ) (onF 24 (asmA (D.tuple []) (updM ks' cs'))))) 1 (finF false 1 rs73) 2000 [Fr.sc sc73] { tm := envOf 0 ([] ++ [D.agg [D.map 0],D.agg (tC kx nx sx ax),D.agg (tC k n s a)] ++ []),ob := [(0,Ob.gen (Gen.mapC ks cs) [])] } = CEq ks cs ks' cs' kx nx sx ax k n s a b := by kernel_rfl
abbrev lC (k : Int) (no : Bool) (p : List UInt8) (a : List (List D)) (op : Int) (kx nx : Int) (sx : List UInt8) (ax : List (List D)) (ky ny : Int) (sy : List UInt8) (ay : List (List D)) : List D := [.int .u8 k,.bool no,.str p,.slice a [],.int .u8 op,.int .u8 kx,.int .i64 nx,.str sx,.slice ax [],.int .u8 ky,.int .i64 ny,.str sy,.slice ay []]
noncomputable def CSt (ks cs k1 c1 k2 c2 : List D) (k : Int) (no : Bool) (p : List UInt8) (a : List (List D)) (op kx nx : Int) (sx : List UInt8) (ax : List (List D)) (ky ny : Int) (sy : List UInt8) (ay q : List (List D)) : Tr := brT no (Tr.ret (D.tuple []) [(0,Ob.gen (Gen.mapC ks cs) [])]) (brT (decide (k = (1 : Int))) (Tr.owe (FnOK Tryz.prog 72 [D.slice a []] (D.slice q [])) (Tr.owe True (Tr.owe (CallL Tryz.prog (D.func (Fn.func 24) [] []) [D.map 0,D.func (Fn.func 35) [] [D.ptr 1 0]] [(0,Ob.gen (Gen.mapC ks cs) []),(1,Ob.cells [D.slice q []])] fun r0 ob0 => r0 = D.tuple [] /\ ob0 = [(0,Ob.gen (Gen.mapC k2 c2) []),(1,Ob.cells [D.slice q []])]) (Tr.ret (D.tuple []) [(0,Ob.gen (Gen.mapC k2 c2) [])])))) (brT (decide (k = (2 : Int))) (brT (decide (op = (1 : Int))) (Tr.owe (CallL Tryz.prog (D.func (Fn.func 73) [] []) [D.agg [D.map 0],D.agg (tC kx nx sx ax),D.agg (tC ky ny sy ay)] [(0,Ob.gen (Gen.mapC ks cs) [])] fun r0 ob0 => r0 = D.tuple [] /\ ob0 = [(0,Ob.gen (Gen.mapC k1 c1) [])]) (Tr.owe (CallL Tryz.prog (D.func (Fn.func 73) [] []) [D.agg [D.map 0],D.agg (tC ky ny sy ay),D.agg (tC kx nx sx ax)] [(0,Ob.gen (Gen.mapC k1 c1) [])] fun r0 ob0 => r0 = D.tuple [] /\ ob0 = [(0,Ob.gen (Gen.mapC k2 c2) [])]) (Tr.ret (D.tuple []) [(0,Ob.gen (Gen.mapC k2 c2) [])]))) (Tr.ret (D.tuple []) [(0,Ob.gen (Gen.mapC ks cs) [])])) (Tr.ret (D.tuple []) [(0,Ob.gen (Gen.mapC ks cs) [])])))
theorem CSt_eq (ks cs k1 c1 k2 c2 : List D) (k : Int) (no : Bool) (p : List UInt8) (a : List (List D)) (op kx nx : Int) (sx : List UInt8) (ax : List (List D)) (ky ny : Int) (sy : List UInt8) (ay q : List (List D)) : goT Tryz.prog (ctrS (asmP (D.slice q [])) (atT 33 (asmA (D.tuple []) (updM k1 c1)) (QT.or valQ (asmA (D.tuple []) (updM k2 c2))))) 1 (finF false 1 rs55) 2000 [Fr.sc sc55] { tm := envOf 0 ([] ++ [D.agg [D.map 0],D.agg (lC k no p a op kx nx sx ax ky ny sy ay)] ++ []),ob := [(0,Ob.gen (Gen.mapC ks cs) [])] } = CSt ks cs k1 c1 k2 c2 k no p a op kx nx sx ax ky ny sy ay q := by kernel_rfl
end Go.Proofs.YtiafmjolbacdaaaGreat

/- has,knows,equation,outer,step. -/
namespace Go.Proofs.YtiafmjolbacdaaaGreat
open Go.Sx Go.RowKit
theorem look_ok (S : List Nm) (x : Nm) : extD (.look2 none (.agg [])) [.map 0,.str x] (lk [(0,setO S)]) = some (.tuple [.agg [],.bool (decide (x ∈ S))]) := by
 have h := mfind_str x S
 simp only [extD,lk,if_true,unpk,isKD,h]
 by_cases hx : x ∈ S <;> simp [hx]
theorem has_ok (S : List Nm) (x : Nm) : CallL Tryz.prog (.func (.func 61) [] []) [.map 0,.str x] [(0,setO S)] fun r ob => r = .bool (decide (x ∈ S)) /\ ob = [(0,setO S)] := by
 have h := look_ok S x
 by_cases hx : x ∈ S
 ·rw [show decide (x ∈ S) = true from decide_eq_true hx] at h ⊢
  refine CallL.tree hdraw fp61 (ctr_ok libT_ok qnone_ok) (CHsT_eq (kS S) (uS S) x) ?_
  unfold CHsT
  rw [ok_owe]
  exact ⟨h,rfl,rfl⟩
 ·rw [show decide (x ∈ S) = false from decide_eq_false hx] at h ⊢
  refine CallL.tree hdraw fp61 (ctr_ok libT_ok qnone_ok) (CHsF_eq (kS S) (uS S) x) ?_
  unfold CHsF
  rw [ok_owe]
  exact ⟨h,rfl,rfl⟩
def idxW (p : Nm -> Bool) : List Nm -> Int -> Int
 | [],_ => -1
 | a :: r,i => if p a = true then i else idxW p r (i + 1)
theorem idxW_ge (p : Nm -> Bool) : ∀ (l : List Nm) (i : Int),0 <= i -> decide (0 <= idxW p l i) = l.any p
 | [],i,_ => by simp [idxW]
 | a :: r,i,h => by
  unfold idxW
  by_cases hp : p a = true
  ·simp [hp,h]
  ·rw [if_neg hp,idxW_ge p r (i + 1) (by omega)]
   simp [hp]
theorem k1_ok (S : List Nm) (x : Nm) : CallL Tryz.prog (.func (.func fK) [] [.ptr 0 0]) [.str x] (obK (kS S) (uS S)) fun r ob => r = .bool (!decide (x ∈ S)) /\ ob = obK (kS S) (uS S) := by
 refine CallL.tree hdraw fp121 (ctr_ok libT_ok (asmA_ok _ _)) (CK1_eq (kS S) (uS S) x (decide (x ∈ S))) ?_
 unfold CK1
 rw [ok_owe]
 exact ⟨has_ok S x,rfl,rfl⟩
theorem ix_at (S V : List Nm) (hV : V.length <= 1073741824) : ∀ (m i : Nat),V.length - i = m -> i <= V.length →
  At Tryz.prog 2 (cut sc136 0) (hdIx (strC V) V.length i (obK (kS S) (uS S))) (FinQ false 2 rs136 fun r ob => r = .int .i64 (idxW (fun x => !decide (x ∈ S)) (V.drop i) i) /\ ob = obK (kS S) (uS S)) := by
 intro m
 induction m with
 | zero =>
  intro i hm hi
  refine At.tree (ctr_ok libT_ok (asmA_ok _ _)) (CIx2_eq (kS S) (uS S) (strC V) V.length i [] true) ?_
  unfold CIx2
  rw [List.drop_eq_nil_of_le (by omega : V.length <= i),ok_br]
  refine ⟨fun h => ?_,fun _ => ⟨rfl,rfl⟩⟩
  have := of_decide_eq_true h
  omega
 | succ m ih =>
  intro i hm hi
  have h1 : i < V.length := by omega
  have hI := ih (i + 1) (by omega) (by omega)
  rw [drop_cons h1]
  refine At.tree (ctr_ok libT_ok (asmA_ok _ _)) (CIx2_eq (kS S) (uS S) (strC V) V.length i V[i] (!decide (V[i] ∈ S))) ?_
  unfold CIx2
  rw [ok_br]
  refine ⟨fun _ => ?_,fun h => ?_⟩
  ·rw [ok_owe,Int.toNat_natCast,ok_owe,ok_br]
   refine ⟨⟨by omega,strC_gt h1⟩,k1_ok S V[i],fun h => ?_,fun h => ?_⟩
   ·rw [ok_ret]
    unfold idxW
    rw [if_pos h]
    exact ⟨rfl,rfl⟩
   ·rw [ok_owe,ok_jmp]
    refine ⟨by omega, ?_⟩
    unfold idxW
    rw [if_neg (by rw [h]; decide)]
    exact hI
  ·have := of_decide_eq_false h; omega
theorem ct_ok (S V : List Nm) (hV : V.length <= 1073741824) : CallL Tryz.prog (.func (.func 120) [] []) [.slice (strC V) [],.func (.func fK) [] [.ptr 0 0]] (obK (kS S) (uS S)) fun r ob => r = .bool (V.any fun x => !decide (x ∈ S)) /\ ob = obK (kS S) (uS S) := by
 refine CallL.tree hdraw fp120 (ctr_ok libT_ok (asmA_ok _ _)) (CCt_eq (kS S) (uS S) (strC V) (idxW (fun x => !decide (x ∈ S)) V 0)) ?_
 unfold CCt
 rw [ok_owe,ok_ret,idxW_ge _ _ _ (by decide)]
 refine ⟨?_,rfl,rfl⟩
 refine CallL.tree hdraw fp136 (ctr_ok libT_ok qnone_ok) (CIx_eq (kS S) (uS S) (strC V)) ?_
 unfold CIx
 rw [ok_jmp,strC_len]
 exact ix_at S V hV _ 0 rfl (Nat.zero_le _)
def okt (x : Tm) : Prop := x.wf 281474976710656 /\ x.vs.length <= 1073741824
theorem knows_ok (S : List Nm) (t : Tm) (ht : okt t) : CallL Tryz.prog (.func (.func 99) [] []) [.agg [.map 0],.agg t.cells] [(0,setO S)] fun r ob => r = .bool (knowsS S t) /\ ob = [(0,setO S)] := by
 have hv := vars_ok t ht.1 ht.2
 have hl := W_len t
 have hl2 := ht.2
 have e : knowsS S t = !(t.W.any fun x => !decide (x ∈ S)) := by unfold knowsS; rw [List.all_eq_not_any_not]
 have hc := ct_ok S t.W (by omega)
 rw [e]
 generalize Tm.W t = V at hv hc ⊢
 obtain ⟨k,n,s,a⟩ := t
 refine CallL.tree hdraw fp99 (ctr_ok (asmP_ok _) (asmA_ok _ _)) (CKn_eq (kS S) (uS S) k n s (Tm.cellsL a) (strC V) (V.any fun x => !decide (x ∈ S))) ?_
 unfold CKn
 rw [ok_owe,ok_owe,ok_ret]
 exact ⟨hv,hc,rfl,rfl⟩
theorem equation_ok (S : List Nm) (x t : Tm) (ht : okt t) : CallL Tryz.prog (.func (.func 73) [] []) [.agg [.map 0],.agg x.cells,.agg t.cells] [(0,setO S)] fun r ob => r = .tuple [] /\ ob = [(0,setO (eqS S x t))] := by
 have hk := knows_ok S t ht
 have he : eqS S x t = if x.kd = 3 /\ knowsS S t = true then insS S x.nm else S := rfl
 rw [he]
 generalize knowsS S t = b at hk ⊢
 obtain ⟨kx,nx,sx,ax⟩ := x
 have ha := addV_ok [sx] (by simp) S
 obtain ⟨k,n,s,a⟩ := t
 refine CallL.tree hdraw fp73 (ctr_ok libT_ok (QT.or_ok (QT.or_ok (onF_ok (asmA_ok _ _)) valQ_ok) (onF_ok (asmA_ok _ _)))) (CEq_eq (kS S) (uS S) (kS (insS S sx)) (uS (insS S sx)) kx nx sx (Tm.cellsL ax) k n s (Tm.cellsL a) b) ?_
 unfold CEq
 rw [ok_br]
 refine ⟨fun h => ?_,fun h => ?_⟩
 ·have h3 : kx = 3 := by have := of_decide_eq_true h; omega
  rw [ok_owe,ok_br]
  refine ⟨hk,fun hb => ?_,fun hb => ?_⟩
  ·rw [ok_owe,ok_owe,ok_ret,if_pos ⟨h3,hb⟩]
   exact ⟨trivial,ha,rfl,rfl⟩
  ·rw [ok_ret,if_neg (fun h => by rw [hb] at h; exact absurd h.2 (by decide))]
   exact ⟨rfl,rfl⟩
 ·have h3 : kx ≠ 3 := by have := of_decide_eq_false h; omega
  rw [ok_ret,if_neg (fun h => h3 h.1)]
  exact ⟨rfl,rfl⟩
theorem FnOK.freezeE {f : FuncId} {args : List D} {ty : TypeId} (h : FnOK Tryz.prog f args (.own 1 ty [])) : FnOK Tryz.prog f args (.slice [] []) := by
 intro φ hh w vs h1 h2 h3 h4 h5
 refine (h φ hh w vs h1 h2 h3 h4 h5).mono ?_
 rintro e w' ⟨v,φ',rfl,hR,rest⟩
 refine ⟨v,φ',rfl, ?_,rest⟩
 obtain ⟨_,_,xs,hown,_⟩ := hR
 intro h'
 rcases hown.2 with ⟨rfl,_⟩ | ⟨g,cap,cur,rfl,_⟩
 ·exact .pure .nil
 ·exact .pure (.nilA _ _)
theorem FnOK.freezeT {f : FuncId} {args : List D} {ty : TypeId} {l : List Nm} (h : FnOK Tryz.prog f args (.own 1 ty (strC l))) : FnOK Tryz.prog f args (.slice (strC l) []) := by
 cases l with
 | nil => exact FnOK.freezeE h
 | cons a r => exact h.freezeS (by simp)
theorem alS (l : List Nm) : allLen 1 (strC l) := by
 intro q hq
 obtain ⟨t,_,rfl⟩ := List.mem_map.1 hq
 rfl
theorem ovL_app (a b : List Tm) : Tm.ovL (a ++ b) = Tm.ovL a ++ Tm.ovL b := by
 induction a with
 | nil => rfl
 | cons x r ih => simp only [List.cons_append,Tm.ovL,ih,List.append_assoc]
theorem outer_at (l : List Tm) (hl : l.length <= 281474976710656) (hv : (Tm.ovL l).length <= 1073741824) (H : ∀ k n s a,Tm.mk k n s a ∈ l -> k ≠ 5 -> k ≠ 6 -> FnOK Tryz.prog 72 [.slice (Tm.cellsL a) []] (.slice (strC (Tm.ovL a)) [])) : ∀ (m i : Nat),l.length - i = m -> i <= l.length →
  At Tryz.prog 0 (cut sc72 0) (hdOu (Tm.cellsL l) [] (strC (Tm.ovL (l.take i))) l.length i) (FinQ true 0 rs72 fun r _ => r = .own 1 9 (strC (Tm.ovL l))) := by
 intro m
 induction m with
 | zero =>
  intro i hm hi
  refine At.tree (ctr_ok (asmP_ok _) qnone_ok) (POu2_eq (Tm.cellsL l) [] (strC (Tm.ovL (l.take i))) [] l.length i 0 0 [] []) ?_
  unfold POu2
  rw [List.take_of_length_le (by omega : l.length <= i),ok_br]
  refine ⟨fun h => ?_,fun _ => rfl⟩
  have := of_decide_eq_true h
  omega
 | succ m ih =>
  intro i hm hi
  have h1 : i < l.length := by omega
  have hx : (Tm.cellsL l)[i]? = some l[i].cells := by rw [cellsL_map]; simp [h1]
  have hI := ih (i + 1) (by omega) (by omega)
  have hm : l[i] ∈ l := List.getElem_mem h1
  have hlen : (Tm.ovL (l.take (i + 1))).length <= 1073741824 := by
   have e : Tm.ovL l = Tm.ovL (l.take (i + 1)) ++ Tm.ovL (l.drop (i + 1)) := by rw [<- ovL_app,List.take_append_drop]
   rw [e,List.length_append] at hv
   omega
  have ht : Tm.ovL (l.take (i + 1)) = Tm.ovL (l.take i) ++ l[i].ov := by
   rw [List.take_add_one,List.getElem?_eq_getElem h1,ovL_app]
   simp [Tm.ovL]
  rw [ht] at hI hlen
  generalize l[i] = x at hx hm hI hlen
  generalize Tm.ovL (l.take i) = R at hI hlen ⊢
  obtain ⟨k,n,s,a⟩ := x
  have hH := H k n s a hm
  simp only [Tm.ov,List.length_append] at hI hlen
  refine At.tree (ctr_ok (asmP_ok _) qnone_ok) (POu2_eq (Tm.cellsL l) [] (strC R) (strC (Tm.ovL a)) l.length i k n s (Tm.cellsL a)) ?_
  unfold POu2
  simp only [SS,strC_len]
  refine ⟨fun _ => ⟨⟨by omega,hx⟩, ?_⟩,fun h => by omega⟩
  have q1 : ∀ P : Prop,(k : Int) = 5 -> k = 5 := fun _ h => by omega
  by_cases h5 : k = 5 \/ k = 6
  ·rw [if_pos h5,List.append_nil] at hI
   exact ⟨fun g5 => ⟨fun _ => ⟨by omega,hI⟩,fun g => absurd g5 g⟩,fun g5 => ⟨fun g6 => ⟨by omega,hI⟩,fun g6 => by omega⟩⟩
  ·have hno5 : k ≠ 5 := fun e => h5 (.inl e)
   have hno6 : k ≠ 6 := fun e => h5 (.inr e)
   have hH2 := hH hno5 hno6
   rw [if_neg h5] at hI hlen
   have g5 : ¬ (k : Int) = 5 := by omega
   have g6 : ¬ (k : Int) = 6 := by omega
   simp only [g5,g6,false_implies,not_false_eq_true,true_implies,true_and]
   have al := alS (Tm.ovL a)
   have al1 : allLen 1 [[D.str s]] := alS [s]
   by_cases h3 : k = 3
   ·subst h3
    rw [if_pos rfl] at hI hlen
    simp only [List.length_cons] at hlen
    rw [show strC (R ++ s :: Tm.ovL a) = strC R ++ [[D.str s]] ++ strC (Tm.ovL a) by simp [strC]] at hI
    refine ⟨fun _ => ?_,fun h => absurd rfl h⟩
    simp only [List.length_append,strC_len,List.length_cons,List.length_nil]
    exact ⟨⟨al1,by omega⟩,hH2,⟨al,by omega⟩,by omega,hI⟩
   ·rw [if_neg h3] at hI hlen
    rw [strC_app] at hI
    have g3 : ¬ (k : Int) = 3 := by omega
    refine ⟨fun h => absurd h g3,fun _ => ?_⟩
    exact ⟨hH2,⟨al,by omega⟩,by omega,hI⟩
theorem outer_ok : ∀ l : List Tm,l.length <= 281474976710656 -> Tm.wfL 281474976710656 l -> (Tm.vsL l).length <= 1073741824 -> FnOK Tryz.prog 72 [.slice (Tm.cellsL l) []] (.slice (strC (Tm.ovL l)) [])
 | l,hl,hw,hv => by
  refine FnOK.freezeT (ty := 9) (FnOK.tree hdraw fp72 (ctr_ok libT_ok qnone_ok) (POu_eq (Tm.cellsL l) []) ?_)
  unfold POu
  rw [ok_jmp,cellsL_length]
  refine outer_at l hl (Nat.le_trans (ovL_len l) hv) (fun k n s a hm _ _ => ?_) _ 0 rfl (Nat.zero_le _)
  have h1 := wfL_all.1 hw _ hm
  have h2 := vsL_mem hm
  simp only [Tm.wf] at h1
  simp only [Tm.vs,List.length_append] at h2
  exact outer_ok a h1.2.2.2.2.1 h1.2.2.2.2.2 (by omega)
termination_by l => SizeOf.sizeOf l
decreasing_by
 have := List.sizeOf_lt_of_mem hm
 simp only [Tm.mk.sizeOf_spec] at this
 omega
def okL (x : Lt) : Prop := x.a.length <= 281474976710656 /\ Tm.wfL 281474976710656 x.a /\ (Tm.vsL x.a).length <= 1073741824 /\ okt x.l /\ okt x.r
theorem step_ok (S : List Nm) (x : Lt) (hx : okL x) : CallL Tryz.prog (.func (.func 55) [] []) [.agg [.map 0],.agg x.c] [(0,setO S)] fun r ob => r = .tuple [] /\ ob = [(0,setO (stepS S x))] := by
 obtain ⟨h1,h2,h3,h4,h5⟩ := hx
 obtain ⟨k,no,p,a,op,x,y⟩ := x
 simp only at h1 h2 h3 h4 h5
 have ho := outer_ok a h1 h2 h3
 have hol := ovL_len a
 have ha := addV_ok (Tm.ovL a) (by omega) S
 have he1 := equation_ok S x y h5
 have he2 := equation_ok (eqS S x y) y x h4
 unfold stepS
 simp only [Lt.c]
 generalize hT : eqS S x y = T1 at he1 he2 ⊢
 generalize hU : eqS T1 y x = T2 at he2 ⊢
 generalize Tm.ovL a = q at ho ha ⊢
 obtain ⟨kx,nx,sx,ax⟩ := x
 obtain ⟨ky,ny,sy,ay⟩ := y
 by_cases hk : k = 1
 ·refine CallL.tree hdraw fp55 (ctrS_ok (asmP_ok _) (atT_ok (asmA_ok _ _) (QT.or_ok valQ_ok (asmA_ok _ _)))) (CSt_eq (kS S) (uS S) (kS T1) (uS T1) (kS (addS S q)) (uS (addS S q)) k no p (Tm.cellsL a) op kx nx sx (Tm.cellsL ax) ky ny sy (Tm.cellsL ay) (strC q)) ?_
  unfold CSt
  simp only [SS]
  refine ⟨fun h => by simp [h],fun h => ⟨fun _ => ⟨ho,ha,by simp [h,hk]⟩,fun h => absurd (by omega) h⟩⟩
 ·refine CallL.tree hdraw fp55 (ctrS_ok (asmP_ok _) (atT_ok (asmA_ok _ _) (QT.or_ok valQ_ok (asmA_ok _ _)))) (CSt_eq (kS S) (uS S) (kS T1) (uS T1) (kS T2) (uS T2) k no p (Tm.cellsL a) op kx nx sx (Tm.cellsL ax) ky ny sy (Tm.cellsL ay) (strC q)) ?_
  unfold CSt
  simp only [SS]
  refine ⟨fun h => by simp [h],fun h => ⟨fun h => absurd (by omega) hk,fun _ => ⟨fun h2 => ⟨fun h3 => ⟨he1,he2, ?_⟩,fun h3 => ?_⟩,fun h2 => ?_⟩⟩⟩
  ·have e2 : k = 2 := by omega
   have e3 : op = 1 := by omega
   simp [h,e2,e3]
  ·have e3 : op ≠ 1 := by omega
   simp [h,hk,e3]
  ·have e2 : k ≠ 2 := by omega
   simp [h,hk,e2]
end Go.Proofs.YtiafmjolbacdaaaGreat
