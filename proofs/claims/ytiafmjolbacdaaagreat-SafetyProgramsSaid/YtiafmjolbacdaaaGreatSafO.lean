/- Own work: a layer over the kit: plain data,a walk over it,its soundness. -/
import Derived.Test.YtiafmjolbacdaaaGreatSafI
set_option linter.unusedSectionVars false
set_option linter.unusedVariables false
set_option linter.unusedSimpArgs false
set_option linter.deprecated false
set_option maxRecDepth 100000
/- check: trees. -/
namespace Go.Proofs.YtiafmjolbacdaaaGreat
open Go.Sx Go.RowKit
abbrev mO (ks cs : List D) : Ob := .gen (.mapC ks cs) []
def keysCk : List Nat := [7,5,3,0,1,2]
def dsCk (f : FuncId) (a b c g u d : Nat) : List D := [.func (.func f) [] [.ptr a 0],.ptr b 0,.ptr c 0,.agg [.map g,.map u],.func (.func f) [] [.ptr a 0],.map d]
def recCk (ds : List D) : Ob := .gen (.loop .ready none #[8] (sc43.rngA 0) (sc43.rngB 0) 19 keysCk) ds
def obCkT (es : List (List D)) (g u b : Ob) : Obs := [(0,.cells [.slice es []]),(1,recCk (dsCk fT 0 2 3 4 5 6)),(2,.cells [.map 6]),(3,.cells [.map 4,.map 5]),(4,g),(5,u),(6,b)]
def obCkY (g u b : Ob) : Obs := [(0,.cells [.map 2]),(1,recCk (dsCk fY 0 3 4 2 5 6)),(2,g),(3,.cells [.map 6]),(4,.cells [.map 2,.map 5]),(5,u),(6,b)]
def obCyT (es : List (List D)) (g u b : Ob) : Obs := [(1,.cells [.slice es []]),(2,.cells [.map 6]),(3,.cells [.map 4,.map 5]),(4,g),(5,u),(6,b)]
def obCyY (g u b : Ob) : Obs := [(1,.cells [.map 4]),(2,.cells [.map 6]),(3,.cells [.map 4,.map 5]),(4,g),(5,u),(6,b)]
def updK (j : Nat) (o : Ob) : Obs -> Obs
 | [] => []
 | (i,x) :: r => (i,if i = j then o else x) :: updK j o r
noncomputable def CCkT (gk gc uk uc bk bc uk' uc' : List D) (es : List (List D)) : Tr := Tr.owe (CallL Tryz.prog (D.func (Fn.func 59) [] [D.ptr 0 0]) [D.yld 1] [(0,Ob.cells [D.slice es []]),(1,Ob.gen (Gen.loop LoopState.ready none #[8] (SC.reg [so 6 AOp.mv [xt 8]]) (SC.block 1 (SC.seq (SC.reg [so 9 (AOp.load false 1) [xt 5],so 10 AOp.mv [xt 6],SOp.cd (some 11) none (xc (D.func (Fn.func 61) [] [])) [xt 9,xt 10],so 12 (AOp.un UnOp.not) [xt 11]]) (SC.cond (xt 12) (SC.drw [0,1,0,4,12,31] [so 13 (AOp.faddr 1) [xt 3],so 14 (AOp.load false 1) [xt 13],so 15 AOp.mv [xt 6],so 16 (AOp.bslice true 1 1 9 [D.str []] [(0,1)]) [xt 15],SOp.cd (some 17) none (xc (D.func (Fn.func 25) [] [])) [xt 16],SOp.cd (some 18) none (xc (D.func (Fn.func 24) [] [])) [xt 14,xt 17]]) SC.skip))) 19 [7,5,3,0,1,2]) [D.func (Fn.func 59) [] [D.ptr 0 0],D.ptr 2 0,D.ptr 3 0,D.agg [D.map 4,D.map 5],D.func (Fn.func 59) [] [D.ptr 0 0],D.map 6]),(2,Ob.cells [D.map 6]),(3,Ob.cells [D.map 4,D.map 5]),(4,Ob.gen (Gen.mapC gk gc) []),(5,Ob.gen (Gen.mapC uk uc) []),(6,Ob.gen (Gen.mapC bk bc) [])] fun r0 ob0 => r0 = D.tuple [] /\ ob0 = [(0,Ob.cells [D.slice es []]),(1,Ob.gen (Gen.loop LoopState.ready none #[8] (SC.reg [so 6 AOp.mv [xt 8]]) (SC.block 1 (SC.seq (SC.reg [so 9 (AOp.load false 1) [xt 5],so 10 AOp.mv [xt 6],SOp.cd (some 11) none (xc (D.func (Fn.func 61) [] [])) [xt 9,xt 10],so 12 (AOp.un UnOp.not) [xt 11]]) (SC.cond (xt 12) (SC.drw [0,1,0,4,12,31] [so 13 (AOp.faddr 1) [xt 3],so 14 (AOp.load false 1) [xt 13],so 15 AOp.mv [xt 6],so 16 (AOp.bslice true 1 1 9 [D.str []] [(0,1)]) [xt 15],SOp.cd (some 17) none (xc (D.func (Fn.func 25) [] [])) [xt 16],SOp.cd (some 18) none (xc (D.func (Fn.func 24) [] [])) [xt 14,xt 17]]) SC.skip))) 19 [7,5,3,0,1,2]) [D.func (Fn.func 59) [] [D.ptr 0 0],D.ptr 2 0,D.ptr 3 0,D.agg [D.map 4,D.map 5],D.func (Fn.func 59) [] [D.ptr 0 0],D.map 6]),(2,Ob.cells [D.map 6]),(3,Ob.cells [D.map 4,D.map 5]),(4,Ob.gen (Gen.mapC gk gc) []),(5,Ob.gen (Gen.mapC uk' uc') []),(6,Ob.gen (Gen.mapC bk bc) [])]) (Tr.ret (D.tuple []) [(0,Ob.gen (Gen.mapC gk gc) []),(1,Ob.gen (Gen.mapC uk' uc') []),(2,Ob.cells [D.slice es []]),(3,Ob.gen (Gen.mapC bk bc) [])])
theorem CCkT_eq (gk gc uk uc bk bc uk' uc' : List D) (es : List (List D)) : goT Tryz.prog (ctr libT (asmA (D.tuple []) (updK 5 (mO uk' uc')))) 4 (finF false 4 rs43) 2000 [Fr.sc sc43] { tm := envOf 0 ([] ++ [D.agg [D.map 0,D.map 1],D.func (Fn.func fT) [] [D.ptr 2 0],D.map 3] ++ []),ob := [(0,mO gk gc),(1,mO uk uc),(2,Ob.cells [D.slice es []]),(3,mO bk bc)] } = CCkT gk gc uk uc bk bc uk' uc' es := by kernel_rfl
noncomputable def CCkY (gk gc uk uc bk bc uk' : List D) : Tr := Tr.owe (CallL Tryz.prog (D.func (Fn.func 58) [] [D.ptr 0 0]) [D.yld 1] [(0,Ob.cells [D.map 2]),(1,Ob.gen (Gen.loop LoopState.ready none #[8] (SC.reg [so 6 AOp.mv [xt 8]]) (SC.block 1 (SC.seq (SC.reg [so 9 (AOp.load false 1) [xt 5],so 10 AOp.mv [xt 6],SOp.cd (some 11) none (xc (D.func (Fn.func 61) [] [])) [xt 9,xt 10],so 12 (AOp.un UnOp.not) [xt 11]]) (SC.cond (xt 12) (SC.drw [0,1,0,4,12,31] [so 13 (AOp.faddr 1) [xt 3],so 14 (AOp.load false 1) [xt 13],so 15 AOp.mv [xt 6],so 16 (AOp.bslice true 1 1 9 [D.str []] [(0,1)]) [xt 15],SOp.cd (some 17) none (xc (D.func (Fn.func 25) [] [])) [xt 16],SOp.cd (some 18) none (xc (D.func (Fn.func 24) [] [])) [xt 14,xt 17]]) SC.skip))) 19 [7,5,3,0,1,2]) [D.func (Fn.func 58) [] [D.ptr 0 0],D.ptr 3 0,D.ptr 4 0,D.agg [D.map 2,D.map 5],D.func (Fn.func 58) [] [D.ptr 0 0],D.map 6]),(2,Ob.gen (Gen.mapC gk gc) []),(3,Ob.cells [D.map 6]),(4,Ob.cells [D.map 2,D.map 5]),(5,Ob.gen (Gen.mapC uk uc) []),(6,Ob.gen (Gen.mapC bk bc) [])] fun r0 ob0 => r0 = D.tuple [] /\ ob0 = [(0,Ob.cells [D.map 2]),(1,Ob.gen (Gen.loop LoopState.ready none #[8] (SC.reg [so 6 AOp.mv [xt 8]]) (SC.block 1 (SC.seq (SC.reg [so 9 (AOp.load false 1) [xt 5],so 10 AOp.mv [xt 6],SOp.cd (some 11) none (xc (D.func (Fn.func 61) [] [])) [xt 9,xt 10],so 12 (AOp.un UnOp.not) [xt 11]]) (SC.cond (xt 12) (SC.drw [0,1,0,4,12,31] [so 13 (AOp.faddr 1) [xt 3],so 14 (AOp.load false 1) [xt 13],so 15 AOp.mv [xt 6],so 16 (AOp.bslice true 1 1 9 [D.str []] [(0,1)]) [xt 15],SOp.cd (some 17) none (xc (D.func (Fn.func 25) [] [])) [xt 16],SOp.cd (some 18) none (xc (D.func (Fn.func 24) [] [])) [xt 14,xt 17]]) SC.skip))) 19 [7,5,3,0,1,2]) [D.func (Fn.func 58) [] [D.ptr 0 0],D.ptr 3 0,D.ptr 4 0,D.agg [D.map 2,D.map 5],D.func (Fn.func 58) [] [D.ptr 0 0],D.map 6]),(2,Ob.gen (Gen.mapC gk gc) []),(3,Ob.cells [D.map 6]),(4,Ob.cells [D.map 2,D.map 5]),(5,Ob.gen (Gen.mapS uk' (D.agg [])) []),(6,Ob.gen (Gen.mapC bk bc) [])]) (Tr.ret (D.tuple []) [(0,Ob.gen (Gen.mapC gk gc) []),(1,Ob.gen (Gen.mapS uk' (D.agg [])) []),(2,Ob.cells [D.map 0]),(3,Ob.gen (Gen.mapC bk bc) [])])
theorem CCkY_eq (gk gc uk uc bk bc uk' : List D) : goT Tryz.prog (ctr libT (asmA (D.tuple []) (updK 5 (Ob.gen (Gen.mapS uk' (D.agg [])) [])))) 4 (finF false 4 rs43) 2000 [Fr.sc sc43] { tm := envOf 0 ([] ++ [D.agg [D.map 0,D.map 1],D.func (Fn.func fY) [] [D.ptr 2 0],D.map 3] ++ []),ob := [(0,mO gk gc),(1,mO uk uc),(2,Ob.cells [D.map 0]),(3,mO bk bc)] } = CCkY gk gc uk uc bk bc uk' := by kernel_rfl
def ckQ (b : Bool) (uk' uc' : List D) : QT := ((onF 61 (asmA (.bool b) id)).or valQ).or (onF 24 (asmA (.tuple []) (updM uk' uc')))
theorem ckQ_ok (b : Bool) (uk' uc' : List D) : (ckQ b uk' uc').OK := QT.or_ok (QT.or_ok (onF_ok (asmA_ok _ _)) valQ_ok) (onF_ok (asmA_ok _ _))
noncomputable def TyCkT (x : List UInt8) (es : List (List D)) (gk gc uk uc bk bc uk' uc' : List D) (b : Bool) : Tr := Tr.owe (CallL Tryz.prog (D.func (Fn.func 61) [] []) [D.map 0,D.str x] [(0,Ob.gen (Gen.mapC bk bc) [])] fun r0 ob0 => r0 = D.bool b /\ ob0 = [(0,Ob.gen (Gen.mapC bk bc) [])]) (brT (!b) (Tr.owe True (Tr.owe (CallL Tryz.prog (D.func (Fn.func 24) [] []) [D.map 0,D.func (Fn.func 35) [] [D.ptr 1 0]] [(0,Ob.gen (Gen.mapC uk uc) []),(1,Ob.cells [D.slice [[D.str x]] []])] fun r0 ob0 => r0 = D.tuple [] /\ ob0 = [(0,Ob.gen (Gen.mapC uk' uc') []),(1,Ob.cells [D.slice [[D.str x]] []])]) (Tr.ret (D.bool true) [(0,Ob.gen (Gen.loop LoopState.ready none #[8] (SC.rngA sc43 0) (SC.rngB sc43 0) 19 [7,5,3,0,1,2]) [D.func (Fn.func 59) [] [D.ptr 1 0],D.ptr 2 0,D.ptr 3 0,D.agg [D.map 4,D.map 5],D.func (Fn.func 59) [] [D.ptr 1 0],D.map 6]),(1,Ob.cells [D.slice es []]),(2,Ob.cells [D.map 6]),(3,Ob.cells [D.map 4,D.map 5]),(4,Ob.gen (Gen.mapC gk gc) []),(5,Ob.gen (Gen.mapC uk' uc') []),(6,Ob.gen (Gen.mapC bk bc) [])]))) (Tr.ret (D.bool true) [(0,Ob.gen (Gen.loop LoopState.ready none #[8] (SC.rngA sc43 0) (SC.rngB sc43 0) 19 [7,5,3,0,1,2]) [D.func (Fn.func 59) [] [D.ptr 1 0],D.ptr 2 0,D.ptr 3 0,D.agg [D.map 4,D.map 5],D.func (Fn.func 59) [] [D.ptr 1 0],D.map 6]),(1,Ob.cells [D.slice es []]),(2,Ob.cells [D.map 6]),(3,Ob.cells [D.map 4,D.map 5]),(4,Ob.gen (Gen.mapC gk gc) []),(5,Ob.gen (Gen.mapC uk uc) []),(6,Ob.gen (Gen.mapC bk bc) [])]))
theorem TyCkT_eq (x : List UInt8) (es : List (List D)) (gk gc uk uc bk bc uk' uc' : List D) (b : Bool) : yldT Tryz.prog (ctr libT (ckQ b uk' uc')) 7 0 19 #[8] (SC.rngA sc43 0) (SC.rngB sc43 0) keysCk (dsCk fT 1 2 3 4 5 6) 2000 { tm := putP (List.zip [8] [D.str x]) (List.zip keysCk (dsCk fT 1 2 3 4 5 6)),ob := obCyT es (mO gk gc) (mO uk uc) (mO bk bc) } = TyCkT x es gk gc uk uc bk bc uk' uc' b := by kernel_rfl
noncomputable def TyCkY (x : List UInt8) (gk gc uk uc bk bc uk' uc' : List D) (l : List Nat) (cl : Nat) (b : Bool) : Tr := Tr.owe (CallL Tryz.prog (D.func (Fn.func 61) [] []) [D.map 0,D.str x] [(0,Ob.gen (Gen.mapC bk bc) [])] fun r0 ob0 => r0 = D.bool b /\ ob0 = [(0,Ob.gen (Gen.mapC bk bc) [])]) (brT (!b) (Tr.owe True (Tr.owe (CallL Tryz.prog (D.func (Fn.func 24) [] []) [D.map 0,D.func (Fn.func 35) [] [D.ptr 1 0]] [(0,Ob.gen (Gen.mapC uk uc) []),(1,Ob.cells [D.slice [[D.str x]] []])] fun r0 ob0 => r0 = D.tuple [] /\ ob0 = [(0,Ob.gen (Gen.mapC uk' uc') []),(1,Ob.cells [D.slice [[D.str x]] []])]) (Tr.ret (D.bool true) [(0,Ob.gen (Gen.loop LoopState.ready none #[8] (SC.rngA sc43 0) (SC.rngB sc43 0) 19 [7,5,3,0,1,2]) [D.func (Fn.func 58) [] [D.ptr 1 0],D.ptr 2 0,D.ptr 3 0,D.agg [D.map 4,D.map 5],D.func (Fn.func 58) [] [D.ptr 1 0],D.map 6]),(1,Ob.cells [D.map 4]),(2,Ob.cells [D.map 6]),(3,Ob.cells [D.map 4,D.map 5]),(4,Ob.gen (Gen.mapB gk gc l cl) []),(5,Ob.gen (Gen.mapC uk' uc') []),(6,Ob.gen (Gen.mapC bk bc) [])]))) (Tr.ret (D.bool true) [(0,Ob.gen (Gen.loop LoopState.ready none #[8] (SC.rngA sc43 0) (SC.rngB sc43 0) 19 [7,5,3,0,1,2]) [D.func (Fn.func 58) [] [D.ptr 1 0],D.ptr 2 0,D.ptr 3 0,D.agg [D.map 4,D.map 5],D.func (Fn.func 58) [] [D.ptr 1 0],D.map 6]),(1,Ob.cells [D.map 4]),(2,Ob.cells [D.map 6]),(3,Ob.cells [D.map 4,D.map 5]),(4,Ob.gen (Gen.mapB gk gc l cl) []),(5,Ob.gen (Gen.mapC uk uc) []),(6,Ob.gen (Gen.mapC bk bc) [])]))
theorem TyCkY_eq (x : List UInt8) (gk gc uk uc bk bc uk' uc' : List D) (l : List Nat) (cl : Nat) (b : Bool) : yldT Tryz.prog (ctr libT (ckQ b uk' uc')) 7 0 19 #[8] (SC.rngA sc43 0) (SC.rngB sc43 0) keysCk (dsCk fY 1 2 3 4 5 6) 2000 { tm := putP (List.zip [8] [D.str x]) (List.zip keysCk (dsCk fY 1 2 3 4 5 6)),ob := obCyY (mbO gk gc l cl) (mO uk uc) (mO bk bc) } = TyCkY x gk gc uk uc bk bc uk' uc' l cl b := by kernel_rfl
noncomputable def CVk (es : List (List D)) (gk gc uk uc bk bc : List D) : Tr := Tr.jmp (cut sc59 0) { tm := [(0,D.yld 1),(7,D.slice es []),(8,D.int .i64 (↑(List.length es) : Int)),(9,D.int .i64 (0 : Int))],ob := [(0,Ob.cells [D.slice es []]),(1,Ob.gen (Gen.loop LoopState.ready none #[8] (SC.rngA sc43 0) (SC.rngB sc43 0) 19 [7,5,3,0,1,2]) [D.func (Fn.func 59) [] [D.ptr 0 0],D.ptr 2 0,D.ptr 3 0,D.agg [D.map 4,D.map 5],D.func (Fn.func 59) [] [D.ptr 0 0],D.map 6]),(2,Ob.cells [D.map 6]),(3,Ob.cells [D.map 4,D.map 5]),(4,Ob.gen (Gen.mapC gk gc) []),(5,Ob.gen (Gen.mapC uk uc) []),(6,Ob.gen (Gen.mapC bk bc) [])] }
theorem CVk_eq (es : List (List D)) (gk gc uk uc bk bc : List D) : goT Tryz.prog (ctr libT) 7 (finF false 7 rs59) 2000 [Fr.sc sc59] { tm := envOf 0 ([] ++ [D.yld 1] ++ [D.ptr 0 0]),ob := obCkT es (mO gk gc) (mO uk uc) (mO bk bc) } = CVk es gk gc uk uc bk bc := by kernel_rfl
noncomputable def CVk2 (es V : List (List D)) (gk gc uk uc bk bc : List D) (m i k n : Int) (s : List UInt8) (a : List (List D)) : Tr := brT (decide (i < m)) (Tr.owe ((0 : Int) <= i /\ es[Int.toNat i]? = some (tC k n s a)) (Tr.owe (FnOK Tryz.prog 60 [D.agg (tC k n s a)] (D.slice V [])) (Tr.jmp (cut sc59 1) { tm := [(0,D.yld 1),(7,D.slice es []),(8,D.int .i64 m),(9,D.int .i64 i),(14,D.slice V []),(15,D.int .i64 (↑(List.length V) : Int)),(16,D.int .i64 (0 : Int))],ob := [(0,Ob.cells [D.slice es []]),(1,Ob.gen (Gen.loop LoopState.ready none #[8] (SC.rngA sc43 0) (SC.rngB sc43 0) 19 [7,5,3,0,1,2]) [D.func (Fn.func 59) [] [D.ptr 0 0],D.ptr 2 0,D.ptr 3 0,D.agg [D.map 4,D.map 5],D.func (Fn.func 59) [] [D.ptr 0 0],D.map 6]),(2,Ob.cells [D.map 6]),(3,Ob.cells [D.map 4,D.map 5]),(4,Ob.gen (Gen.mapC gk gc) []),(5,Ob.gen (Gen.mapC uk uc) []),(6,Ob.gen (Gen.mapC bk bc) [])] }))) (Tr.ret (D.tuple []) [(0,Ob.cells [D.slice es []]),(1,Ob.gen (Gen.loop LoopState.ready none #[8] (SC.rngA sc43 0) (SC.rngB sc43 0) 19 [7,5,3,0,1,2]) [D.func (Fn.func 59) [] [D.ptr 0 0],D.ptr 2 0,D.ptr 3 0,D.agg [D.map 4,D.map 5],D.func (Fn.func 59) [] [D.ptr 0 0],D.map 6]),(2,Ob.cells [D.map 6]),(3,Ob.cells [D.map 4,D.map 5]),(4,Ob.gen (Gen.mapC gk gc) []),(5,Ob.gen (Gen.mapC uk uc) []),(6,Ob.gen (Gen.mapC bk bc) [])])
theorem CVk2_eq (es V : List (List D)) (gk gc uk uc bk bc : List D) (m i k n : Int) (s : List UInt8) (a : List (List D)) : goT Tryz.prog (ctr (asmP (D.slice V [])) qnone (eOne (tC k n s a))) 7 (finF false 7 rs59) 2000 (cut sc59 0) (hdVr es m i (obCkT es (mO gk gc) (mO uk uc) (mO bk bc))) = CVk2 es V gk gc uk uc bk bc m i k n s a := by kernel_rfl
noncomputable def CVk3 (es V : List (List D)) (gk gc uk uc bk bc uk' uc' : List D) (m i mv j : Int) (x : List UInt8) : Tr := brT (decide (j < mv)) (Tr.owe ((0 : Int) <= j /\ V[Int.toNat j]? = some [D.str x]) (Tr.owe (CallL Tryz.prog (D.yld 0) [D.str x] [(0,Ob.gen (Gen.loop LoopState.ready none #[8] (SC.rngA sc43 0) (SC.rngB sc43 0) 19 [7,5,3,0,1,2]) [D.func (Fn.func 59) [] [D.ptr 1 0],D.ptr 2 0,D.ptr 3 0,D.agg [D.map 4,D.map 5],D.func (Fn.func 59) [] [D.ptr 1 0],D.map 6]),(1,Ob.cells [D.slice es []]),(2,Ob.cells [D.map 6]),(3,Ob.cells [D.map 4,D.map 5]),(4,Ob.gen (Gen.mapC gk gc) []),(5,Ob.gen (Gen.mapC uk uc) []),(6,Ob.gen (Gen.mapC bk bc) [])] fun r0 ob0 => r0 = D.bool true /\ ob0 = [(0,Ob.gen (Gen.loop LoopState.ready none #[8] (SC.rngA sc43 0) (SC.rngB sc43 0) 19 [7,5,3,0,1,2]) [D.func (Fn.func 59) [] [D.ptr 1 0],D.ptr 2 0,D.ptr 3 0,D.agg [D.map 4,D.map 5],D.func (Fn.func 59) [] [D.ptr 1 0],D.map 6]),(1,Ob.cells [D.slice es []]),(2,Ob.cells [D.map 6]),(3,Ob.cells [D.map 4,D.map 5]),(4,Ob.gen (Gen.mapC gk gc) []),(5,Ob.gen (Gen.mapC uk' uc') []),(6,Ob.gen (Gen.mapC bk bc) [])]) (Tr.owe ((-9223372036854775808 : Int) <= j + (1 : Int) /\ j + (1 : Int) <= (9223372036854775807 : Int)) (Tr.jmp (cut sc59 1) { tm := [(0,D.yld 1),(7,D.slice es []),(8,D.int .i64 m),(9,D.int .i64 i),(14,D.slice V []),(15,D.int .i64 mv),(16,D.int .i64 (j + (1 : Int)))],ob := [(0,Ob.cells [D.slice es []]),(1,Ob.gen (Gen.loop LoopState.ready none #[8] (SC.rngA sc43 0) (SC.rngB sc43 0) 19 [7,5,3,0,1,2]) [D.func (Fn.func 59) [] [D.ptr 0 0],D.ptr 2 0,D.ptr 3 0,D.agg [D.map 4,D.map 5],D.func (Fn.func 59) [] [D.ptr 0 0],D.map 6]),(2,Ob.cells [D.map 6]),(3,Ob.cells [D.map 4,D.map 5]),(4,Ob.gen (Gen.mapC gk gc) []),(5,Ob.gen (Gen.mapC uk' uc') []),(6,Ob.gen (Gen.mapC bk bc) [])] })))) (Tr.owe ((-9223372036854775808 : Int) <= i + (1 : Int) /\ i + (1 : Int) <= (9223372036854775807 : Int)) (Tr.jmp (cut sc59 0) { tm := [(0,D.yld 1),(7,D.slice es []),(8,D.int .i64 m),(9,D.int .i64 (i + (1 : Int)))],ob := [(0,Ob.cells [D.slice es []]),(1,Ob.gen (Gen.loop LoopState.ready none #[8] (SC.rngA sc43 0) (SC.rngB sc43 0) 19 [7,5,3,0,1,2]) [D.func (Fn.func 59) [] [D.ptr 0 0],D.ptr 2 0,D.ptr 3 0,D.agg [D.map 4,D.map 5],D.func (Fn.func 59) [] [D.ptr 0 0],D.map 6]),(2,Ob.cells [D.map 6]),(3,Ob.cells [D.map 4,D.map 5]),(4,Ob.gen (Gen.mapC gk gc) []),(5,Ob.gen (Gen.mapC uk uc) []),(6,Ob.gen (Gen.mapC bk bc) [])] }))
theorem CVk3_eq (es V : List (List D)) (gk gc uk uc bk bc uk' uc' : List D) (m i mv j : Int) (x : List UInt8) : goT Tryz.prog (ctr libT (asmA (D.bool true) (updK 5 (mO uk' uc'))) (eOne [D.str x])) 7 (finF false 7 rs59) 2000 (cut sc59 1) (hdVj es V m i mv j (obCkT es (mO gk gc) (mO uk uc) (mO bk bc))) = CVk3 es V gk gc uk uc bk bc uk' uc' m i mv j x := by kernel_rfl
noncomputable def CKc (gk gc uk uc bk bc : List D) : Tr := Tr.jmp (spc sc58 0) { tm := [(0,D.yld 1),(1,D.ptr 0 0)],ob := [(0,Ob.cells [D.map 2]),(1,Ob.gen (Gen.loop LoopState.ready none #[8] (SC.rngA sc43 0) (SC.rngB sc43 0) 19 [7,5,3,0,1,2]) [D.func (Fn.func 58) [] [D.ptr 0 0],D.ptr 3 0,D.ptr 4 0,D.agg [D.map 2,D.map 5],D.func (Fn.func 58) [] [D.ptr 0 0],D.map 6]),(2,Ob.gen (Gen.mapC gk gc) []),(3,Ob.cells [D.map 6]),(4,Ob.cells [D.map 2,D.map 5]),(5,Ob.gen (Gen.mapC uk uc) []),(6,Ob.gen (Gen.mapC bk bc) [])] }
theorem CKc_eq (gk gc uk uc bk bc : List D) : goT Tryz.prog (ctr libT) 7 (finF false 7 rs58) 2000 [Fr.sc sc58] { tm := envOf 0 ([] ++ [D.yld 1] ++ [D.ptr 0 0]),ob := obCkY (mO gk gc) (mO uk uc) (mO bk bc) } = CKc gk gc uk uc bk bc := by kernel_rfl
noncomputable def CKca (gk gc uk uc bk bc : List D) (l : List Nat) (cl : Nat) : Tr := Tr.jmp (cut sc58 0) { tm := [(0,D.yld 1),(5,D.ptr 7 0)],ob := [(0,Ob.cells [D.map 2]),(1,Ob.gen (Gen.loop LoopState.ready none #[8] (SC.rngA sc43 0) (SC.rngB sc43 0) 19 [7,5,3,0,1,2]) [D.func (Fn.func 58) [] [D.ptr 0 0],D.ptr 3 0,D.ptr 4 0,D.agg [D.map 2,D.map 5],D.func (Fn.func 58) [] [D.ptr 0 0],D.map 6]),(2,Ob.gen (Gen.mapB gk gc l cl) []),(3,Ob.cells [D.map 6]),(4,Ob.cells [D.map 2,D.map 5]),(5,Ob.gen (Gen.mapC uk uc) []),(6,Ob.gen (Gen.mapC bk bc) []),(7,Ob.gen (Gen.iter l [] cl) [D.map 2])] }
theorem CKca_eq (gk gc uk uc bk bc : List D) (l : List Nat) (cl : Nat) : goT Tryz.prog (ctr libT) 7 (finF false 7 rs58) 2000 (aft sc58 0) { tm := [(5,D.ptr 12 0),(4,D.map 2),(0,D.yld 1),(1,D.ptr 0 0)],ob := [(12,itO l [] cl 2),(2,mbO gk gc l cl),(0,Ob.cells [D.map 2]),(1,recCk (dsCk fY 0 3 4 2 5 6)),(3,Ob.cells [D.map 6]),(4,Ob.cells [D.map 2,D.map 5]),(5,mO uk uc),(6,mO bk bc)] } = CKca gk gc uk uc bk bc l cl := by kernel_rfl
noncomputable def CKch (gk gc uk uc bk bc : List D) (l ix : List Nat) (cl : Nat) : Tr := Tr.jmp (spc sc58 1) { tm := [(0,D.yld 1),(5,D.ptr 7 0)],ob := [(0,Ob.cells [D.map 2]),(1,Ob.gen (Gen.loop LoopState.ready none #[8] (SC.rngA sc43 0) (SC.rngB sc43 0) 19 [7,5,3,0,1,2]) [D.func (Fn.func 58) [] [D.ptr 0 0],D.ptr 3 0,D.ptr 4 0,D.agg [D.map 2,D.map 5],D.func (Fn.func 58) [] [D.ptr 0 0],D.map 6]),(2,Ob.gen (Gen.mapB gk gc l cl) []),(3,Ob.cells [D.map 6]),(4,Ob.cells [D.map 2,D.map 5]),(5,Ob.gen (Gen.mapC uk uc) []),(6,Ob.gen (Gen.mapC bk bc) []),(7,Ob.gen (Gen.iter l ix cl) [D.map 2])] }
theorem CKch_eq (gk gc uk uc bk bc : List D) (l ix : List Nat) (cl : Nat) : goT Tryz.prog (ctr libT) 7 (finF false 7 rs58) 2000 (cut sc58 0) { tm := [(0,D.yld 1),(5,D.ptr 7 0)],ob := obCkY (mbO gk gc l cl) (mO uk uc) (mO bk bc) ++ [(7,itO l ix cl 2)] } = CKch gk gc uk uc bk bc l ix cl := by kernel_rfl
noncomputable def CKcf (gk gc uk uc bk bc : List D) (l ix : List Nat) (cl : Nat) : Tr := Tr.ret (D.tuple []) [(0,Ob.cells [D.map 2]),(1,Ob.gen (Gen.loop LoopState.ready none #[8] (SC.rngA sc43 0) (SC.rngB sc43 0) 19 [7,5,3,0,1,2]) [D.func (Fn.func 58) [] [D.ptr 0 0],D.ptr 3 0,D.ptr 4 0,D.agg [D.map 2,D.map 5],D.func (Fn.func 58) [] [D.ptr 0 0],D.map 6]),(2,Ob.gen (Gen.mapC gk gc) []),(3,Ob.cells [D.map 6]),(4,Ob.cells [D.map 2,D.map 5]),(5,Ob.gen (Gen.mapC uk uc) []),(6,Ob.gen (Gen.mapC bk bc) [])]
theorem CKcf_eq (gk gc uk uc bk bc : List D) (l ix : List Nat) (cl : Nat) : goT Tryz.prog (ctr libT) 7 (finF false 7 rs58) 2000 (aft sc58 1) { tm := [(7,D.bool false),(6,D.undef),(0,D.yld 1),(5,D.ptr 7 0)],ob := [(2,mO gk gc),(0,Ob.cells [D.map 2]),(1,recCk (dsCk fY 0 3 4 2 5 6)),(3,Ob.cells [D.map 6]),(4,Ob.cells [D.map 2,D.map 5]),(5,mO uk uc),(6,mO bk bc),(7,itO l ix cl 2)] } = CKcf gk gc uk uc bk bc l ix cl := by kernel_rfl
noncomputable def CKct (gk gc uk uc bk bc uk' uc' : List D) (l ix : List Nat) (cl : Nat) (x : List UInt8) : Tr := Tr.owe (extD Ext.entry [D.ptr 7 0] (lk (St.ob { tm := [(7,D.bool true),(6,D.undef),(0,D.yld 1),(5,D.ptr 7 0)],ob := [(7,itO l ix cl 2),(0,Ob.cells [D.map 2]),(1,recCk (dsCk fY 0 3 4 2 5 6)),(2,mbO gk gc l cl),(3,Ob.cells [D.map 6]),(4,Ob.cells [D.map 2,D.map 5]),(5,mO uk uc),(6,mO bk bc)] })) = some (D.tuple [D.str x,D.agg []])) (Tr.owe (CallL Tryz.prog (D.yld 0) [D.str x] [(0,Ob.gen (Gen.loop LoopState.ready none #[8] (SC.rngA sc43 0) (SC.rngB sc43 0) 19 [7,5,3,0,1,2]) [D.func (Fn.func 58) [] [D.ptr 1 0],D.ptr 2 0,D.ptr 3 0,D.agg [D.map 4,D.map 5],D.func (Fn.func 58) [] [D.ptr 1 0],D.map 6]),(1,Ob.cells [D.map 4]),(2,Ob.cells [D.map 6]),(3,Ob.cells [D.map 4,D.map 5]),(4,Ob.gen (Gen.mapB gk gc l cl) []),(5,Ob.gen (Gen.mapC uk uc) []),(6,Ob.gen (Gen.mapC bk bc) [])] fun r0 ob0 => r0 = D.bool true /\ ob0 = [(0,Ob.gen (Gen.loop LoopState.ready none #[8] (SC.rngA sc43 0) (SC.rngB sc43 0) 19 [7,5,3,0,1,2]) [D.func (Fn.func 58) [] [D.ptr 1 0],D.ptr 2 0,D.ptr 3 0,D.agg [D.map 4,D.map 5],D.func (Fn.func 58) [] [D.ptr 1 0],D.map 6]),(1,Ob.cells [D.map 4]),(2,Ob.cells [D.map 6]),(3,Ob.cells [D.map 4,D.map 5]),(4,Ob.gen (Gen.mapB gk gc l cl) []),(5,Ob.gen (Gen.mapC uk' uc') []),(6,Ob.gen (Gen.mapC bk bc) [])]) (Tr.jmp (cut sc58 0) { tm := [(0,D.yld 1),(5,D.ptr 7 0)],ob := [(0,Ob.cells [D.map 2]),(1,Ob.gen (Gen.loop LoopState.ready none #[8] (SC.rngA sc43 0) (SC.rngB sc43 0) 19 [7,5,3,0,1,2]) [D.func (Fn.func 58) [] [D.ptr 0 0],D.ptr 3 0,D.ptr 4 0,D.agg [D.map 2,D.map 5],D.func (Fn.func 58) [] [D.ptr 0 0],D.map 6]),(2,Ob.gen (Gen.mapB gk gc l cl) []),(3,Ob.cells [D.map 6]),(4,Ob.cells [D.map 2,D.map 5]),(5,Ob.gen (Gen.mapC uk' uc') []),(6,Ob.gen (Gen.mapC bk bc) []),(7,Ob.gen (Gen.iter l ix cl) [D.map 2])] }))
theorem CKct_eq (gk gc uk uc bk bc uk' uc' : List D) (l ix : List Nat) (cl : Nat) (x : List UInt8) : goT Tryz.prog (ctr libT (asmA (D.bool true) (updK 5 (mO uk' uc'))) (eOne [D.tuple [D.str x,D.agg []]])) 7 (finF false 7 rs58) 2000 (aft sc58 1) { tm := [(7,D.bool true),(6,D.undef),(0,D.yld 1),(5,D.ptr 7 0)],ob := [(7,itO l ix cl 2),(0,Ob.cells [D.map 2]),(1,recCk (dsCk fY 0 3 4 2 5 6)),(2,mbO gk gc l cl),(3,Ob.cells [D.map 6]),(4,Ob.cells [D.map 2,D.map 5]),(5,mO uk uc),(6,mO bk bc)] } = CKct gk gc uk uc bk bc uk' uc' l ix cl x := by kernel_rfl
end Go.Proofs.YtiafmjolbacdaaaGreat

/- check,proved. -/
namespace Go.Proofs.YtiafmjolbacdaaaGreat
open Go.Sx Go.RowKit
theorem ckYT (x : Nm) (es : List (List D)) (G U B : List Nm) : CallL Tryz.prog (.yld 0) [.str x] ((0,recCk (dsCk fT 1 2 3 4 5 6)) :: obCyT es (setO G) (setO U) (setO B)) fun r ob => r = .bool true /\ ob = (0,recCk (dsCk fT 1 2 3 4 5 6)) :: obCyT es (setO G) (setO (ckS U [x] B)) (setO B) := by
 have hh := has_ok B x
 have ha := addV_ok [x] (by simp) U
 have e : ckS U [x] B = if x ∈ B then U else insS U x := ckS_cons U x [] B
 rw [e]
 refine CallL.yldT hdraw (ctr_ok libT_ok (ckQ_ok _ _ _)) rfl (TyCkT_eq x es (kS G) (uS G) (kS U) (uS U) (kS B) (uS B) (kS (insS U x)) (uS (insS U x)) (decide (x ∈ B))) ?_
 unfold TyCkT
 rw [ok_owe,ok_br]
 refine ⟨hh,fun h => ?_,fun h => ?_⟩
 ·rw [ok_owe,ok_owe,ok_ret,if_neg (by simpa using h)]
  exact ⟨trivial,ha,rfl,rfl⟩
 ·rw [ok_ret,if_pos (by simpa using h)]
  exact ⟨rfl,rfl⟩
theorem ckYY (x : Nm) (G U B : List Nm) (l : List Nat) (cl : Nat) : CallL Tryz.prog (.yld 0) [.str x] ((0,recCk (dsCk fY 1 2 3 4 5 6)) :: obCyY (mbO (kS G) (uS G) l cl) (setO U) (setO B)) fun r ob => r = .bool true /\ ob = (0,recCk (dsCk fY 1 2 3 4 5 6)) :: obCyY (mbO (kS G) (uS G) l cl) (setO (ckS U [x] B)) (setO B) := by
 have hh := has_ok B x
 have ha := addV_ok [x] (by simp) U
 have e : ckS U [x] B = if x ∈ B then U else insS U x := ckS_cons U x [] B
 rw [e]
 refine CallL.yldT hdraw (ctr_ok libT_ok (ckQ_ok _ _ _)) rfl (TyCkY_eq x (kS G) (uS G) (kS U) (uS U) (kS B) (uS B) (kS (insS U x)) (uS (insS U x)) l cl (decide (x ∈ B))) ?_
 unfold TyCkY
 rw [ok_owe,ok_br]
 refine ⟨hh,fun h => ?_,fun h => ?_⟩
 ·rw [ok_owe,ok_owe,ok_ret,if_neg (by simpa using h)]
  exact ⟨trivial,ha,rfl,rfl⟩
 ·rw [ok_ret,if_pos (by simpa using h)]
  exact ⟨rfl,rfl⟩
theorem ckT_at3 (es : List (List D)) (V : List Nm) (mm ii : Int) (G B : List Nm) (hV : V.length <= 1073741824) (R : D -> Obs -> Prop)
  (hi : -9223372036854775808 <= ii + 1 /\ ii + 1 <= 9223372036854775807) (T : List Nm) (K : At Tryz.prog 7 (cut sc59 0) (hdVr es mm (ii + 1) (obCkT es (setO G) (setO T) (setO B))) (FinQ false 7 rs59 R)) : ∀ (m i : Nat) (S : List Nm),V.length - i = m -> i <= V.length -> ckS S (V.drop i) B = T →
  At Tryz.prog 7 (cut sc59 1) (hdVj es (strC V) mm ii V.length i (obCkT es (setO G) (setO S) (setO B))) (FinQ false 7 rs59 R) := by
 intro m
 induction m with
 | zero =>
  intro i S hm hi' hT
  refine At.tree (ctr_ok libT_ok (asmA_ok _ _)) (CVk3_eq es (strC V) (kS G) (uS G) (kS S) (uS S) (kS B) (uS B) [] [] mm ii V.length i []) ?_
  unfold CVk3
  rw [List.drop_eq_nil_of_le (by omega : V.length <= i)] at hT
  have hT : S = T := hT
  subst hT
  rw [ok_br]
  refine ⟨fun h => ?_,fun _ => ?_⟩
  ·have := of_decide_eq_true h
   omega
  ·rw [ok_owe,ok_jmp]
   exact ⟨hi,K⟩
 | succ m ih =>
  intro i S hm hi' hT
  have h1 : i < V.length := by omega
  have e : ckS S (V.drop i) B = ckS (ckS S [V[i]] B) (V.drop (i + 1)) B := by rw [<- ckS_app,drop_cons h1]; rfl
  rw [e] at hT
  have hI := ih (i + 1) (ckS S [V[i]] B) (by omega) (by omega) hT
  have hY := ckYT V[i] es G S B
  generalize ckS S [V[i]] B = S2 at hI hY
  refine At.tree (ctr_ok libT_ok (asmA_ok _ _)) (CVk3_eq es (strC V) (kS G) (uS G) (kS S) (uS S) (kS B) (uS B) (kS S2) (uS S2) mm ii V.length i V[i]) ?_
  unfold CVk3
  rw [ok_br]
  refine ⟨fun _ => ?_,fun h => ?_⟩
  ·rw [ok_owe,Int.toNat_natCast,ok_owe,ok_owe,ok_jmp]
   exact ⟨⟨by omega,strC_gt h1⟩,hY,by omega,hI⟩
  ·have := of_decide_eq_false h; omega
theorem ckT_at (l : List Tm) (hl : okT l) (G B : List Nm) : ∀ (m i : Nat) (S : List Nm),l.length - i = m -> i <= l.length →
  At Tryz.prog 7 (cut sc59 0) (hdVr (Tm.cellsL l) l.length i (obCkT (Tm.cellsL l) (setO G) (setO S) (setO B))) (FinQ false 7 rs59 fun r ob => r = .tuple [] /\ ob = obCkT (Tm.cellsL l) (setO G) (setO (ckS S (varsL (l.drop i)) B)) (setO B)) := by
 intro m
 have hl1 := hl.1
 induction m with
 | zero =>
  intro i S hm hi
  refine At.tree (ctr_ok (asmP_ok _) qnone_ok) (CVk2_eq (Tm.cellsL l) [] (kS G) (uS G) (kS S) (uS S) (kS B) (uS B) l.length i 0 0 [] []) ?_
  unfold CVk2
  rw [List.drop_eq_nil_of_le (by omega : l.length <= i),ok_br]
  refine ⟨fun h => ?_,fun _ => ⟨rfl,rfl⟩⟩
  have := of_decide_eq_true h
  omega
 | succ m ih =>
  intro i S hm hi
  have h1 : i < l.length := by omega
  have hx : (Tm.cellsL l)[i]? = some l[i].cells := by rw [cellsL_map]; simp [h1]
  have hw := hl.2 _ (List.getElem_mem h1)
  have hv := vars_ok l[i] hw.1 hw.2
  have hVl := W_len l[i]
  have hI := ih (i + 1) (ckS S l[i].W B) (by omega) (by omega)
  have hd : ckS S (varsL (l.drop i)) B = ckS (ckS S l[i].W B) (varsL (l.drop (i + 1))) B := by
   rw [drop_cons h1]
   unfold varsL
   rw [List.flatMap_cons,ckS_app]
  rw [hd]
  have h3 := ckT_at3 (Tm.cellsL l) l[i].W l.length i G B (by omega) _ (by omega) _ hI _ 0 S rfl (Nat.zero_le _) rfl
  generalize Tm.W l[i] = V at hv h3
  generalize l[i] = x at hx hv
  obtain ⟨k,n,s,a⟩ := x
  refine At.tree (ctr_ok (asmP_ok _) qnone_ok) (CVk2_eq (Tm.cellsL l) (strC V) (kS G) (uS G) (kS S) (uS S) (kS B) (uS B) l.length i k n s (Tm.cellsL a)) ?_
  unfold CVk2
  rw [ok_br]
  refine ⟨fun _ => ?_,fun h => ?_⟩
  ·rw [ok_owe,Int.toNat_natCast,ok_owe,ok_jmp,strC_len]
   exact ⟨⟨by omega,hx⟩,hv,h3⟩
  ·have := of_decide_eq_false h; omega
theorem checkT_ok (l : List Tm) (hl : okT l) (G U B : List Nm) : CallL Tryz.prog (.func (.func 43) [] []) [.agg [.map 0,.map 1],.func (.func fT) [] [.ptr 2 0],.map 3] [(0,setO G),(1,setO U),(2,.cells [.slice (Tm.cellsL l) []]),(3,setO B)] fun r ob => r = .tuple [] /\ ob = [(0,setO G),(1,setO (ckS U (varsL l) B)),(2,.cells [.slice (Tm.cellsL l) []]),(3,setO B)] := by
 refine CallL.tree hdraw fp43 (ctr_ok libT_ok (asmA_ok _ _)) (CCkT_eq (kS G) (uS G) (kS U) (uS U) (kS B) (uS B) (kS (ckS U (varsL l) B)) (uS (ckS U (varsL l) B)) (Tm.cellsL l)) ?_
 unfold CCkT
 rw [ok_owe]
 refine ⟨?_,rfl,rfl⟩
 refine CallL.tree hdraw fp59 (ctr_ok libT_ok qnone_ok) (CVk_eq (Tm.cellsL l) (kS G) (uS G) (kS U) (uS U) (kS B) (uS B)) ?_
 unfold CVk
 rw [ok_jmp,cellsL_length]
 exact ckT_at l hl G B _ 0 U rfl (Nat.zero_le _)
theorem ckK_at (G U B : List Nm) (l : List Nat) (hl : l.length = G.length) (cl : Nat) : ∀ (m : Nat) (ix : List Nat),ix.Nodup -> (∀ i ∈ ix,i < G.length) -> G.length - ix.length = m →
  swF Tryz.prog (6001 + 4001 * m) 7 (cut sc58 0) ⟨[(0,.yld 1),(5,.ptr 7 0)],obCkY (mbO (kS G) (uS G) l cl) (setO (ckS U (pickI G ix) B)) (setO B) ++ [(7,itO l ix cl 2)]⟩ (FinQ false 7 rs58 fun r ob => r = .tuple [] /\ ∃ q : List Nm,q.Perm G /\ ob = obCkY (setO G) (setO (ckS U q B)) (setO B)) := by
 intro m
 induction m with
 | zero =>
  intro ix hnd hlt hm
  have hlen := ix_le hnd hlt
  refine swF.tree (n0 := 4001) (n := 2000) (ctr_ok libT_ok qnone_ok) (CKch_eq (kS G) (uS G) (kS (ckS U (pickI G ix) B)) (uS (ckS U (pickI G ix) B)) (kS B) (uS B) l ix cl) ?_
  unfold CKch
  rw [ok_jmp,spc1]
  refine swF_spec ⟨7,l,ix,cl,2,kS G,uS G,rfl,rfl,rfl,by decide,fun hall => ⟨rfl, ?_⟩,fun i hi hn => ⟨rfl, ?_⟩⟩
  ·refine swF.tree (n0 := 2000) (n := 2000) (ctr_ok libT_ok qnone_ok) (CKcf_eq (kS G) (uS G) (kS (ckS U (pickI G ix) B)) (uS (ckS U (pickI G ix) B)) (kS B) (uS B) l ix cl) ?_
   unfold CKcf
   rw [ok_ret]
   exact ⟨rfl,_,pick_perm hnd hlt fun i hi => hall i (by omega),rfl⟩
  ·exact absurd (full_ix hnd hlt (by omega) i (by omega)) hn
 | succ m ih =>
  intro ix hnd hlt hm
  have hlen := ix_le hnd hlt
  rw [show 6001 + 4001 * (m + 1) = (4000 + 4001 * (m + 1) + 1) + 2000 by omega]
  refine swF.tree (n0 := 4000 + 4001 * (m + 1) + 1) (n := 2000) (ctr_ok libT_ok qnone_ok) (CKch_eq (kS G) (uS G) (kS (ckS U (pickI G ix) B)) (uS (ckS U (pickI G ix) B)) (kS B) (uS B) l ix cl) ?_
  unfold CKch
  rw [ok_jmp,spc1]
  refine swF_spec ⟨7,l,ix,cl,2,kS G,uS G,rfl,rfl,rfl,by decide,fun hall => ⟨rfl, ?_⟩,fun i hi hn => ⟨rfl, ?_⟩⟩
  ·have hp := pick_perm hnd hlt fun i hi => hall i (by omega)
   have := hp.length_eq
   simp only [pickI,List.length_map] at this
   omega
  ·have hi' : i < G.length := by omega
   have hI := ih (ix ++ [i]) (by rw [List.nodup_append]; exact ⟨hnd,by simp,fun a ha b hb e => by simp at hb; subst hb; subst e; exact hn ha⟩) (fun j hj => by
    rcases List.mem_append.1 hj with hj | hj
    ·exact hlt j hj
    ·simp at hj; omega) (by simp; omega)
   have e : ckS U (pickI G (ix ++ [i])) B = ckS (ckS U (pickI G ix) B) [G.getD i []] B := by rw [<- ckS_app]; simp [pickI]
   rw [e] at hI
   have hY := ckYY (G.getD i []) G (ckS U (pickI G ix) B) B l cl
   have h1 := kS_get hi'
   have h2 := uS_get hi'
   generalize ckS (ckS U (pickI G ix) B) [G.getD i []] B = U2 at hI hY
   generalize ckS U (pickI G ix) B = U1 at hY ⊢
   rw [show 4000 + 4001 * (m + 1) = (6001 + 4001 * m) + 2000 by omega]
   refine swF.tree (n0 := 6001 + 4001 * m) (n := 2000) (ctr_ok libT_ok (asmA_ok _ _)) (CKct_eq (kS G) (uS G) (kS U1) (uS U1) (kS B) (uS B) (kS U2) (uS U2) l (ix ++ [i]) cl (G.getD i [])) ?_
   unfold CKct
   rw [ok_owe,ok_owe,ok_jmp]
   refine ⟨?_,hY,hI⟩
   simp [extD,lk,h1,h2,kOK]
theorem checkY_ok (G U B : List Nm) (hU : U.Nodup) : CallL Tryz.prog (.func (.func 43) [] []) [.agg [.map 0,.map 1],.func (.func fY) [] [.ptr 2 0],.map 3] [(0,setO G),(1,setO U),(2,.cells [.map 0]),(3,setO B)] fun r ob => r = .tuple [] /\ ob = [(0,setO G),(1,.gen (.mapS (kS (ckS U G B)) (.agg [])) []),(2,.cells [.map 0]),(3,setO B)] := by
 refine CallL.tree hdraw fp43 (ctr_ok libT_ok (asmA_ok _ _)) (CCkY_eq (kS G) (uS G) (kS U) (uS U) (kS B) (uS B) (kS (ckS U G B))) ?_
 unfold CCkY
 rw [ok_owe]
 refine ⟨?_,rfl,rfl⟩
 have hK : CallL Tryz.prog (.func (.func fY) [] [.ptr 0 0]) [.yld 1] (obCkY (setO G) (setO U) (setO B)) fun r ob => r = .tuple [] /\ ∃ q : List Nm,q.Perm G /\ ob = obCkY (setO G) (setO (ckS U q B)) (setO B) := by
  refine CallL.tree hdraw fp58 (ctr_ok libT_ok qnone_ok) (CKc_eq (kS G) (uS G) (kS U) (uS U) (kS B) (uS B)) ?_
  unfold CKc
  rw [ok_jmp,spc0]
  refine ⟨_,swF_spec (n := 6001 + 4001 * G.length + 2000) ⟨2,kS G,uS G,rfl,rfl,rfl,(by show (2 : Nat) ≠ 12; decide),fun l cl h1 h2 h3 => ⟨rfl, ?_⟩⟩⟩
  refine swF.tree (n0 := 6001 + 4001 * G.length) (n := 2000) (ctr_ok libT_ok qnone_ok) (CKca_eq (kS G) (uS G) (kS U) (uS U) (kS B) (uS B) l cl) ?_
  unfold CKca
  rw [ok_jmp]
  exact ckK_at G U B l (by rw [h1,kS_len]) cl _ [] List.nodup_nil (fun i hi => by simp at hi) rfl
 refine hK.wk fun r o ⟨hr,q,hq,ho⟩ => ⟨obCkY (setO G) (.gen (.mapS (kS (ckS U G B)) (.agg [])) []) (setO B),⟨hr,rfl⟩, ?_⟩
 subst ho
 have e : ∀ S : List Nm,uS S = (kS S).map fun _ => D.agg [] := fun S => by simp [uS,kS]
 have hw : (setO (ckS U q B)).wk (.gen (.mapS (kS (ckS U G B)) (.agg [])) []) := by
  unfold setO
  rw [e]
  exact wk_set ((ckS_perm hU hq).map _)
 exact Obs.wk_cons (Ob.wk_refl _) (Obs.wk_cons (Ob.wk_refl _) (Obs.wk_cons (Ob.wk_refl _) (Obs.wk_cons (Ob.wk_refl _) (Obs.wk_cons (Ob.wk_refl _) (Obs.wk_cons hw (Obs.wk_cons (Ob.wk_refl _) (Obs.wk_refl _)))))))
end Go.Proofs.YtiafmjolbacdaaaGreat

/- within,element,global,unsafe: trees. -/
namespace Go.Proofs.YtiafmjolbacdaaaGreat
open Go.Sx Go.RowKit
noncomputable def CWi (es ext : List (List D)) : Tr := Tr.jmp (cut sc41 0) { tm := [(3,D.vec 0),(6,D.slice es ext),(7,D.int .i64 (↑(List.length es) : Int)),(8,D.int .i64 (0 : Int))],ob := [(0,Ob.arr true 4 32 [])] }
theorem CWi_eq (es ext : List (List D)) : goT Tryz.prog (ctr libT) 0 (finF false 0 rs41) 2000 [Fr.sc sc41] { tm := envOf 0 ([] ++ [D.slice es ext] ++ []),ob := [] } = CWi es ext := by kernel_rfl
def hdWi (es ext rs : List (List D)) (m i : Int) : St := ⟨[(3,.vec 0),(6,.slice es ext),(7,.int .i64 m),(8,.int .i64 i)],[(0,.arr true 4 32 rs)]⟩
noncomputable def CWi2 (es ext rs : List (List D)) (m i k : Int) (no : Bool) (p : List UInt8) (a : List (List D)) (op kx nx : Int) (sx : List UInt8) (ax : List (List D)) (ky ny : Int) (sy : List UInt8) (ay : List (List D)) : Tr := brT (decide (i < m)) (Tr.owe ((0 : Int) <= i /\ es[Int.toNat i]? = some [D.int .u8 k,D.bool no,D.str p,D.slice a [],D.int .u8 op,D.int .u8 kx,D.int .i64 nx,D.str sx,D.slice ax [],D.int .u8 ky,D.int .i64 ny,D.str sy,D.slice ay []]) (Tr.owe (allLen 4 a /\ List.length rs + List.length a <= 1073741824) (Tr.owe (allLen 4 [(tC kx nx sx ax),(tC ky ny sy ay)] /\ List.length (rs ++ a) + 2 <= 1073741824) (Tr.owe ((-9223372036854775808 : Int) <= i + (1 : Int) /\ i + (1 : Int) <= (9223372036854775807 : Int)) (Tr.jmp (cut sc41 0) { tm := [(3,D.vec 0),(6,D.slice es ext),(7,D.int .i64 m),(8,D.int .i64 (i + (1 : Int)))],ob := [(0,Ob.arr true 4 32 (rs ++ a ++ [(tC kx nx sx ax),(tC ky ny sy ay)]))] }))))) (Tr.owe True (Tr.ret (D.func (Fn.func 59) [] [D.ptr 0 0]) [(0,Ob.cells [D.slice rs []])]))
theorem CWi2_eq (es ext rs : List (List D)) (m i k : Int) (no : Bool) (p : List UInt8) (a : List (List D)) (op kx nx : Int) (sx : List UInt8) (ax : List (List D)) (ky ny : Int) (sy : List UInt8) (ay : List (List D)) : goT Tryz.prog (ctr libT varQ (eOne (lC k no p a op kx nx sx ax ky ny sy ay))) 0 (finF false 0 rs41) 2000 (cut sc41 0) (hdWi es ext rs m i) = CWi2 es ext rs m i k no p a op kx nx sx ax ky ny sy ay := by kernel_rfl
def byT (l : List (Nat × QT)) : Nat -> QT := fun t => match lk l t with
 | some q => q
 | none => qnone
theorem byT_ok : ∀ {l : List (Nat × QT)},(∀ x ∈ l,x.2.OK) -> ∀ t,(byT l t).OK
 | [],_,t => by unfold byT lk; exact qnone_ok
 | (j,q) :: r,h,t => by
  have ih := byT_ok (l := r) (fun x hx => h x (List.mem_cons_of_mem _ hx)) t
  unfold byT lk
  by_cases e : t = j
  ·rw [if_pos e]; exact h _ (List.mem_cons_self ..)
  ·rw [if_neg e]; exact ih
def asmW (w : List (List D)) : QT := asmO (.func (.func fT) [] [.ptr 0 0]) [(0,.cells [.slice w []])]
theorem asmW_ok (w : List (List D)) : (asmW w).OK := asmO_ok _ _
noncomputable def CEl (gk gc uk uc bk bc vk vc wk wc : List D) (c names w : List (List D)) : Tr := Tr.owe (CallL Tryz.prog (D.func (Fn.func 26) [] []) [D.map 0,D.slice c []] [(0,Ob.gen (Gen.mapC gk gc) [])] fun r0 ob0 => r0 = D.map 1 /\ ob0 = [(0,Ob.gen (Gen.mapC gk gc) []),(1,Ob.gen (Gen.mapC bk bc) [])]) (Tr.owe (CallL Tryz.prog (D.func (Fn.func 43) [] []) [D.agg [D.map 0,D.map 1],D.func (Fn.func 59) [] [D.ptr 2 0],D.map 3] [(0,Ob.gen (Gen.mapC gk gc) []),(1,Ob.gen (Gen.mapC uk uc) []),(2,Ob.cells [D.slice names []]),(3,Ob.gen (Gen.mapC bk bc) [])] fun r0 ob0 => r0 = D.tuple [] /\ ob0 = [(0,Ob.gen (Gen.mapC gk gc) []),(1,Ob.gen (Gen.mapC vk vc) []),(2,Ob.cells [D.slice names []]),(3,Ob.gen (Gen.mapC bk bc) [])]) (Tr.owe (CallL Tryz.prog (D.func (Fn.func 41) [] []) [D.slice c []] [] fun r0 ob0 => r0 = D.func (Fn.func 59) [] [D.ptr 0 0] /\ ob0 = [(0,Ob.cells [D.slice w []])]) (Tr.owe (CallL Tryz.prog (D.func (Fn.func 43) [] []) [D.agg [D.map 0,D.map 1],D.func (Fn.func 59) [] [D.ptr 2 0],D.map 3] [(0,Ob.gen (Gen.mapC gk gc) []),(1,Ob.gen (Gen.mapC vk vc) []),(2,Ob.cells [D.slice w []]),(3,Ob.gen (Gen.mapC bk bc) [])] fun r0 ob0 => r0 = D.tuple [] /\ ob0 = [(0,Ob.gen (Gen.mapC gk gc) []),(1,Ob.gen (Gen.mapC wk wc) []),(2,Ob.cells [D.slice w []]),(3,Ob.gen (Gen.mapC bk bc) [])]) (Tr.ret (D.tuple []) [(0,Ob.gen (Gen.mapC gk gc) []),(1,Ob.gen (Gen.mapC wk wc) []),(2,Ob.cells [D.slice names []])]))))
theorem CEl_eq (gk gc uk uc bk bc vk vc wk wc : List D) (c names w : List (List D)) : goT Tryz.prog (ctrS libT (byT [(10,asmO (D.map 1) [(0,mO gk gc),(1,mO bk bc)]),(14,asmA (D.tuple []) (updK 1 (mO vk vc))),(17,asmW w),(19,asmA (D.tuple []) (updK 1 (mO wk wc)))])) 3 (finF false 3 rs40) 2000 [Fr.sc sc40] { tm := envOf 0 ([] ++ [D.agg [D.map 0,D.map 1],D.slice c [],D.func (Fn.func fT) [] [D.ptr 2 0]] ++ []),ob := [(0,mO gk gc),(1,mO uk uc),(2,Ob.cells [D.slice names []])] } = CEl gk gc uk uc bk bc vk vc wk wc c names w := by kernel_rfl
abbrev rC (k : Int) (hs bs ts : List (List D)) (a1 a2 : Int) (a3 : List UInt8) (a4 : List (List D)) (b1 b2 : Int) (b3 : List UInt8) (b4 : List (List D)) (c1 c2 : Int) (c3 : List UInt8) (c4 : List (List D)) (d1 d2 : Int) (d3 : List UInt8) (d4 : List (List D)) : List D := [.int .u8 k,.slice hs [],.int .u8 a1,.int .i64 a2,.str a3,.slice a4 [],.int .u8 b1,.int .i64 b2,.str b3,.slice b4 [],.slice bs [],.int .u8 c1,.int .i64 c2,.str c3,.slice c4 [],.int .u8 d1,.int .i64 d2,.str d3,.slice d4 [],.slice ts []]
noncomputable def CGl (k : Int) (hs bs ts : List (List D)) (a1 a2 : Int) (a3 : List UInt8) (a4 : List (List D)) (b1 b2 : Int) (b3 : List UInt8) (b4 : List (List D)) (c1 c2 : Int) (c3 : List UInt8) (c4 : List (List D)) (d1 d2 : Int) (d3 : List UInt8) (d4 : List (List D)) (uk uc vk vc : List D) : Tr := Tr.owe True (Tr.owe (CallL Tryz.prog (D.func (Fn.func 24) [] []) [D.map 0,D.func (Fn.func 59) [] [D.ptr 1 0]] [(0,Ob.gen (Gen.mapC [] []) []),(1,Ob.cells [D.slice [(tC a1 a2 a3 a4),(tC b1 b2 b3 b4),(tC c1 c2 c3 c4),(tC d1 d2 d3 d4)] []])] fun r0 ob0 => r0 = D.tuple [] /\ ob0 = [(0,Ob.gen (Gen.mapC uk uc) []),(1,Ob.cells [D.slice [(tC a1 a2 a3 a4),(tC b1 b2 b3 b4),(tC c1 c2 c3 c4),(tC d1 d2 d3 d4)] []])]) (Tr.owe True (Tr.owe (CallL Tryz.prog (D.func (Fn.func 24) [] []) [D.map 0,D.func (Fn.func 59) [] [D.ptr 1 0]] [(0,Ob.gen (Gen.mapC uk uc) []),(1,Ob.cells [D.slice ts []])] fun r0 ob0 => r0 = D.tuple [] /\ ob0 = [(0,Ob.gen (Gen.mapC vk vc) []),(1,Ob.cells [D.slice ts []])]) (Tr.jmp (cut sc30 0) { tm := [(1,D.ptr 0 0),(3,D.map 1),(27,D.slice hs []),(28,D.int .i64 (↑(List.length hs) : Int)),(29,D.int .i64 (0 : Int))],ob := [(0,Ob.cells (rC k hs bs ts a1 a2 a3 a4 b1 b2 b3 b4 c1 c2 c3 c4 d1 d2 d3 d4)),(1,Ob.gen (Gen.mapC vk vc) [])] }))))
theorem CGl_eq (k : Int) (hs bs ts : List (List D)) (a1 a2 : Int) (a3 : List UInt8) (a4 : List (List D)) (b1 b2 : Int) (b3 : List UInt8) (b4 : List (List D)) (c1 c2 : Int) (c3 : List UInt8) (c4 : List (List D)) (d1 d2 : Int) (d3 : List UInt8) (d4 : List (List D)) (uk uc vk vc : List D) : goT Tryz.prog (ctrS libT (byT [(19,varQ),(24,varQ),(20,asmA (D.tuple []) (updM uk uc)),(25,asmA (D.tuple []) (updM vk vc))])) 0 (finF false 0 rs30) 2000 [Fr.sc sc30] { tm := envOf 0 ([] ++ [D.agg (rC k hs bs ts a1 a2 a3 a4 b1 b2 b3 b4 c1 c2 c3 c4 d1 d2 d3 d4)] ++ []),ob := [] } = CGl k hs bs ts a1 a2 a3 a4 b1 b2 b3 b4 c1 c2 c3 c4 d1 d2 d3 d4 uk uc vk vc := by kernel_rfl
def hdGh (R : List D) (hs : List (List D)) (m i : Int) (uk uc : List D) : St := ⟨[(1,.ptr 0 0),(3,.map 1),(27,.slice hs []),(28,.int .i64 m),(29,.int .i64 i)],[(0,.cells R),(1,mO uk uc)]⟩
noncomputable def CGh (k : Int) (hs bs ts : List (List D)) (a1 a2 : Int) (a3 : List UInt8) (a4 : List (List D)) (b1 b2 : Int) (b3 : List UInt8) (b4 : List (List D)) (c1 c2 : Int) (c3 : List UInt8) (c4 : List (List D)) (d1 d2 : Int) (d3 : List UInt8) (d4 : List (List D)) (uk uc vk vc wk wc : List D) (m i : Int) (p : List UInt8) (ha hc w : List (List D)) : Tr := brT (decide (i < m)) (Tr.owe ((0 : Int) <= i /\ hs[Int.toNat i]? = some [D.str p,D.slice ha [],D.slice hc []]) (brT (!decide (k = (2 : Int))) (Tr.owe True (Tr.owe (CallL Tryz.prog (D.func (Fn.func 24) [] []) [D.map 0,D.func (Fn.func 59) [] [D.ptr 1 0]] [(0,Ob.gen (Gen.mapC uk uc) []),(1,Ob.cells [D.slice ha []])] fun r0 ob0 => r0 = D.tuple [] /\ ob0 = [(0,Ob.gen (Gen.mapC vk vc) []),(1,Ob.cells [D.slice ha []])]) (Tr.owe (CallL Tryz.prog (D.func (Fn.func 41) [] []) [D.slice hc []] [] fun r0 ob0 => r0 = D.func (Fn.func 59) [] [D.ptr 0 0] /\ ob0 = [(0,Ob.cells [D.slice w []])]) (Tr.owe (CallL Tryz.prog (D.func (Fn.func 24) [] []) [D.map 0,D.func (Fn.func 59) [] [D.ptr 1 0]] [(0,Ob.gen (Gen.mapC vk vc) []),(1,Ob.cells [D.slice w []])] fun r0 ob0 => r0 = D.tuple [] /\ ob0 = [(0,Ob.gen (Gen.mapC wk wc) []),(1,Ob.cells [D.slice w []])]) (Tr.owe ((-9223372036854775808 : Int) <= i + (1 : Int) /\ i + (1 : Int) <= (9223372036854775807 : Int)) (Tr.jmp (cut sc30 0) { tm := [(1,D.ptr 0 0),(3,D.map 1),(27,D.slice hs []),(28,D.int .i64 m),(29,D.int .i64 (i + (1 : Int)))],ob := [(0,Ob.cells (rC k hs bs ts a1 a2 a3 a4 b1 b2 b3 b4 c1 c2 c3 c4 d1 d2 d3 d4)),(1,Ob.gen (Gen.mapC wk wc) [])] })))))) (Tr.owe ((-9223372036854775808 : Int) <= i + (1 : Int) /\ i + (1 : Int) <= (9223372036854775807 : Int)) (Tr.jmp (cut sc30 0) { tm := [(1,D.ptr 0 0),(3,D.map 1),(27,D.slice hs []),(28,D.int .i64 m),(29,D.int .i64 (i + (1 : Int)))],ob := [(0,Ob.cells (rC k hs bs ts a1 a2 a3 a4 b1 b2 b3 b4 c1 c2 c3 c4 d1 d2 d3 d4)),(1,Ob.gen (Gen.mapC uk uc) [])] })))) (Tr.jmp (cut sc30 1) { tm := [(3,D.map 0),(49,D.slice bs []),(50,D.int .i64 (↑(List.length bs) : Int)),(51,D.int .i64 (0 : Int))],ob := [(0,Ob.gen (Gen.mapC uk uc) [])] })
theorem CGh_eq (k : Int) (hs bs ts : List (List D)) (a1 a2 : Int) (a3 : List UInt8) (a4 : List (List D)) (b1 b2 : Int) (b3 : List UInt8) (b4 : List (List D)) (c1 c2 : Int) (c3 : List UInt8) (c4 : List (List D)) (d1 d2 : Int) (d3 : List UInt8) (d4 : List (List D)) (uk uc vk vc wk wc : List D) (m i : Int) (p : List UInt8) (ha hc w : List (List D)) : goT Tryz.prog (ctrS libT (byT [(40,varQ),(41,asmA (D.tuple []) (updM vk vc)),(45,asmW w),(46,asmA (D.tuple []) (updM wk wc))]) (eOne [D.str p,D.slice ha [],D.slice hc []])) 0 (finF false 0 rs30) 2000 (cut sc30 0) (hdGh (rC k hs bs ts a1 a2 a3 a4 b1 b2 b3 b4 c1 c2 c3 c4 d1 d2 d3 d4) hs m i uk uc) = CGh k hs bs ts a1 a2 a3 a4 b1 b2 b3 b4 c1 c2 c3 c4 d1 d2 d3 d4 uk uc vk vc wk wc m i p ha hc w := by kernel_rfl
def hdGb (bs : List (List D)) (m i : Int) (uk uc : List D) : St := ⟨[(3,.map 0),(49,.slice bs []),(50,.int .i64 m),(51,.int .i64 i)],[(0,mO uk uc)]⟩
abbrev bC (k : Int) (l1 : Int) (l2 : Bool) (l3 : List UInt8) (l4 : List (List D)) (l5 : Int) (l6 l7 : Int) (l8 : List UInt8) (l9 : List (List D)) (l10 l11 : Int) (l12 : List UInt8) (l13 : List (List D)) (c : List (List D)) (no : Bool) (f : Int) (e : List (List D)) (op : Int) (t1 t2 : Int) (t3 : List UInt8) (t4 : List (List D)) : List D := [.int .u8 k,.int .u8 l1,.bool l2,.str l3,.slice l4 [],.int .u8 l5,.int .u8 l6,.int .i64 l7,.str l8,.slice l9 [],.int .u8 l10,.int .i64 l11,.str l12,.slice l13 [],.slice c [],.bool no,.int .u8 f,.slice e [],.int .u8 op,.int .u8 t1,.int .i64 t2,.str t3,.slice t4 []]
noncomputable def CGb (bs : List (List D)) (uk uc vk vc : List D) (m i k l1 : Int) (l2 : Bool) (l3 : List UInt8) (l4 : List (List D)) (l5 l6 l7 : Int) (l8 : List UInt8) (l9 : List (List D)) (l10 l11 : Int) (l12 : List UInt8) (l13 c : List (List D)) (no : Bool) (f : Int) (e : List (List D)) (op t1 t2 : Int) (t3 : List UInt8) (t4 w : List (List D)) : Tr := brT (decide (i < m)) (Tr.owe ((0 : Int) <= i /\ bs[Int.toNat i]? = some [D.int .u8 k,D.int .u8 l1,D.bool l2,D.str l3,D.slice l4 [],D.int .u8 l5,D.int .u8 l6,D.int .i64 l7,D.str l8,D.slice l9 [],D.int .u8 l10,D.int .i64 l11,D.str l12,D.slice l13 [],D.slice c [],D.bool no,D.int .u8 f,D.slice e [],D.int .u8 op,D.int .u8 t1,D.int .i64 t2,D.str t3,D.slice t4 []]) (brT (decide (k = (1 : Int))) (Tr.owe (CallL Tryz.prog (D.func (Fn.func 41) [] []) [D.slice [[D.int .u8 l1,D.bool l2,D.str l3,D.slice l4 [],D.int .u8 l5,D.int .u8 l6,D.int .i64 l7,D.str l8,D.slice l9 [],D.int .u8 l10,D.int .i64 l11,D.str l12,D.slice l13 []]] []] [] fun r0 ob0 => r0 = D.func (Fn.func 59) [] [D.ptr 0 0] /\ ob0 = [(0,Ob.cells [D.slice w []])]) (Tr.owe (CallL Tryz.prog (D.func (Fn.func 24) [] []) [D.map 0,D.func (Fn.func 59) [] [D.ptr 1 0]] [(0,Ob.gen (Gen.mapC uk uc) []),(1,Ob.cells [D.slice w []])] fun r0 ob0 => r0 = D.tuple [] /\ ob0 = [(0,Ob.gen (Gen.mapC vk vc) []),(1,Ob.cells [D.slice w []])]) (Tr.owe ((-9223372036854775808 : Int) <= i + (1 : Int) /\ i + (1 : Int) <= (9223372036854775807 : Int)) (Tr.jmp (cut sc30 1) { tm := [(3,D.map 0),(49,D.slice bs []),(50,D.int .i64 m),(51,D.int .i64 (i + (1 : Int)))],ob := [(0,Ob.gen (Gen.mapC vk vc) [])] })))) (brT (decide (k = (3 : Int))) (Tr.owe True (Tr.owe (CallL Tryz.prog (D.func (Fn.func 24) [] []) [D.map 0,D.func (Fn.func 59) [] [D.ptr 1 0]] [(0,Ob.gen (Gen.mapC uk uc) []),(1,Ob.cells [D.slice [(tC t1 t2 t3 t4)] []])] fun r0 ob0 => r0 = D.tuple [] /\ ob0 = [(0,Ob.gen (Gen.mapC vk vc) []),(1,Ob.cells [D.slice [(tC t1 t2 t3 t4)] []])]) (Tr.owe ((-9223372036854775808 : Int) <= i + (1 : Int) /\ i + (1 : Int) <= (9223372036854775807 : Int)) (Tr.jmp (cut sc30 1) { tm := [(3,D.map 0),(49,D.slice bs []),(50,D.int .i64 m),(51,D.int .i64 (i + (1 : Int)))],ob := [(0,Ob.gen (Gen.mapC vk vc) [])] })))) (Tr.owe ((-9223372036854775808 : Int) <= i + (1 : Int) /\ i + (1 : Int) <= (9223372036854775807 : Int)) (Tr.jmp (cut sc30 1) { tm := [(3,D.map 0),(49,D.slice bs []),(50,D.int .i64 m),(51,D.int .i64 (i + (1 : Int)))],ob := [(0,Ob.gen (Gen.mapC uk uc) [])] }))))) (Tr.ret (D.map 0) [(0,Ob.gen (Gen.mapC uk uc) [])])
theorem CGb_eq (bs : List (List D)) (uk uc vk vc : List D) (m i k l1 : Int) (l2 : Bool) (l3 : List UInt8) (l4 : List (List D)) (l5 l6 l7 : Int) (l8 : List UInt8) (l9 : List (List D)) (l10 l11 : Int) (l12 : List UInt8) (l13 c : List (List D)) (no : Bool) (f : Int) (e : List (List D)) (op t1 t2 : Int) (t3 : List UInt8) (t4 w : List (List D)) : goT Tryz.prog (ctrS libT (byT [(63,asmW w),(64,asmA (D.tuple []) (updM vk vc)),(71,varQ),(72,asmA (D.tuple []) (updM vk vc))]) (eOne (bC k l1 l2 l3 l4 l5 l6 l7 l8 l9 l10 l11 l12 l13 c no f e op t1 t2 t3 t4))) 0 (finF false 0 rs30) 2000 (cut sc30 1) (hdGb bs m i uk uc) = CGb bs uk uc vk vc m i k l1 l2 l3 l4 l5 l6 l7 l8 l9 l10 l11 l12 l13 c no f e op t1 t2 t3 t4 w := by kernel_rfl
end Go.Proofs.YtiafmjolbacdaaaGreat
