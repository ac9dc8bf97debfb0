/- MatchOrder RETURNS true FOR EVERY INPUT OF THAT BULK,AND EACH ARGUMENT READS AFTERWARDS AS IT READ BEFORE: where the variables that its row lists hold,when the call begins,what the program's text lays; the card ties them to that text. For arguments that hold together at most 1048576 values and letters. -/
import Derived.Test.YtobgkdlghljdlaaGreatDoorTie
import Derived.Test.YtobgkdlghljdlaaGreatDoorCards
import Derived.Deep.DeepHandedRow
import Derived.Deep.DeepWitnessRowRef
import Derived.WalkKit
import Derived.OpenShut
import Derived.SevenTiedAt
import Derived.Carry
import Derived.ChangeAt
import Derived.Test.YtobgkdlghljdlaaGreatDoorGlob
import Derived.Test.YtobgkdlghljdlaaGreatDoorMtF
import Derived.Test.YtobgkdlghljdlaaGreatDoorMtX
import Derived.Test.YtobgkdlghljdlaaGreatDoorSx11
set_option linter.unusedSectionVars false
set_option linter.unusedVariables false
set_option linter.unusedSimpArgs false
set_option linter.deprecated false
namespace Go.Proofs.YtobgkdlghljdlaaGreatDoor
open Go.Sx Go.ChangeShapes Go.WideShapes Go.ChangeAt Go.RowKit
namespace CMatchOrder
set_option maxRecDepth 100000
theorem Zbu (os:Os) (args:Array Value):laidMet Tryz.prog Rows.matchOrderUptoRow.laid ((Z2a os).forCall (fun _ _=>0) ⟨#[],args,[]⟩).memory :=
 Z4m Zbv 8 (by kernel_rfl) (by kernel_rfl) (by kernel_rfl)
def qs:List (Go.TypeId × (D->Prop)):=[(24,fun a=> ∃ (m:List UInt8) (l:List Tm),m.length<=419430400/\l.length<=419430400/\Tm.wfL 419430400 l/\a= .agg [.str m,.slice (Tm.cellsL l) []]),(24,fun a=> ∃ (m:List UInt8) (l:List Tm),m.length<=419430400/\l.length<=419430400/\Tm.wfL 419430400 l/\a= .agg [.str m,.slice (Tm.cellsL l) []]),(26,fun a=> ∃ l:List Bd,(∀ x∈l,x.wf 419430400)/\l.length<=419430400/\a= .slice (bdL l) []),(3,fun a=>Sh.fit 419430400 (.int .i64) a)]
theorem ZnD: ∀ q∈qs,Reads Tryz.prog 419430400 q.1 q.2:=by
 intro q hq
 simp only[qs,List.mem_cons,List.not_mem_nil,or_false] at hq
 rcases hq with rfl | rfl | rfl | rfl
 ·exact Z2N (T:=35) (n:=6) (by kernel_rfl) (by kernel_rfl) (by kernel_rfl)
 ·exact Z2N (T:=35) (n:=6) (by kernel_rfl) (by kernel_rfl) (by kernel_rfl)
 ·exact Z8F Tryz.underlying26 (T:=35) (by kernel_rfl) (by kernel_rfl)
 ·exact Zbi (n:=6) (by kernel_rfl) (by kernel_rfl)
theorem law (as':List D) (h:FitQ qs as'):FnOK Tryz.prog 3 as' (.bool true):=by
 obtain⟨_,l1,rfl,⟨m,a,hm,ha,wa,rfl⟩,h1⟩:=Z3G h
 obtain⟨_,l2,rfl,⟨n,c,hn,hc,wc,rfl⟩,h2⟩:=Z3G h1
 obtain⟨_,l3,rfl,⟨b,wb,lb,rfl⟩,h3⟩:=Z3G h2
 obtain⟨_,l4,rfl,⟨t,rfl,ht⟩,h4⟩:=Z3G h3
 obtain rfl:=ZkG h4
 exact Zbo Zcb m n a c b t (fun x hx=>Z3e (by omega) x (QQ.1 wa x hx)) (fun x hx=>Z3e (by omega) x (QQ.1 wc x hx)) (by omega) (by omega) (fun x hx=>⟨by have:=(wb x hx).1; omega,Z3e (by omega) _ (wb x hx).2⟩) (by omega)
theorem ZdX: ∀ (H:Type) (ds:List (DataW H)),ds.length=([24,24,26,3]:List Go.TypeId).length->Rows.matchOrderSpec.fn H ds={ results:=[.lit (.bool true)],args:=ds }:=by
 intro H ds h
 match ds,h with
 | [d1,d2,d3,d4],_=>rfl
theorem contract (H:Type) (enc:TypeId × Value->H) (W:World) (base:Nat) (args:Array Value) (ds gs:List (DataW H)) (before:List MemPlace)
  (hval: ∀ (j:Nat) t v,Tryz.f3.params[j]? = some t->args[j]? = some v->Value.okWide Tryz.prog W .any base t v)
  (hW:DataW.Whole enc Tryz.prog Tryz.f3.params.toList Rows.matchOrderSpec.vars false W args.toList ds gs before)
  (hk:Rows.uptoSmall H (ds++gs)=true)
  (hL:laidMet Tryz.prog Rows.matchOrderUptoRow.laid W) (hS:W.ShapedOpen Tryz.prog) :
  Calls Tryz.prog 3 args W fun e W'=> ∃ v,e= .returned v/\Rows.matchOrderSpec.post enc Tryz.prog Tryz.f3 false true false false W args v W' :=
 Z9H (B:=419430400) qs (ts:=[24,24,26,3]) rfl (tb:=4) (by kernel_rfl) (by kernel_rfl) Tryz.underlying4 rfl ZdX ZnD ZfH (by decide +kernel) law hval hW (ZdH (by decide +kernel) hk)
  (ZnQ hS)
theorem reads (os:Os) {H:Type} (enc:TypeId × Value->H): ∃ places,DataW.whole enc Tryz.prog ((Z2a os).forCall (fun _ _=>0) ⟨#[], #[.agg #[.string ⟨#[]⟩,.slice none 0 0],.agg #[.string ⟨#[]⟩,.slice none 0 0],.slice none 0 0,.int .i64 0],[]⟩).memory Tryz.f3.params.toList Rows.matchOrderSpec.vars false #[.agg #[.string ⟨#[]⟩,.slice none 0 0],.agg #[.string ⟨#[]⟩,.slice none 0 0],.slice none 0 0,.int .i64 0].toList 8=some ([.agg [.lit (.string []),.nil],.agg [.lit (.string []),.nil],.nil,.lit (.int .i64 0)],[],places) :=
 ⟨[],by kernel_rfl⟩
theorem Zkj (os:Os) (started:os.Started) (H:Type) (enc:TypeId × Value->H) (F:Stop.Interp) :
  ReturnsInHanded {} Tryz.checked os 3 .any ((Rows.OpenSpec.upto Rows.matchOrderSpec).preRow enc Tryz.prog Tryz.f3 Rows.matchOrderUptoRow.domain false Rows.matchOrderUptoRow.laid) (((Rows.OpenSpec.upto Rows.matchOrderSpec).at F).post enc Tryz.prog Tryz.f3 false true false false):=by
 obtain⟨places,hx⟩:=reads os enc
 refine returnsInHanded_of_row (C:=Tryz.checked) (s:=Rows.OpenSpec.upto Rows.matchOrderSpec) own started (by kernel_rfl) Tryz.func3
  (witness_row_atRef (enc:=enc) (C:=Tryz.checked) false (Z2a os) #[.agg #[.string ⟨#[]⟩,.slice none 0 0],.agg #[.string ⟨#[]⟩,.slice none 0 0],.slice none 0 0,.int .i64 0] rfl (by kernel_rfl) (by kernel_rfl) (by kernel_rfl)
   (OpenSpec.preRow_of_cond 8 hx (by kernel_rfl) (fun k hk=>by cases hk; kernel_rfl) (by kernel_rfl) (Zbu os _))) ?_
 intro W base args ds gs before hval hW _ hk hsz hL hS _
 exact contract H enc W base args ds gs before hval hW (hk _ rfl) hL hS
theorem said:Rows.MatchOrderUptoSaid :=
 OpenClaim.holds_of_cond 3 Tryz.f3 rfl rfl rfl rfl rfl rfl rfl ⟨rfl,rfl,rfl,rfl,rfl⟩ rfl rfl rfl rfl rfl (by kernel_rfl) Tryz.func3 (by kernel_rfl)
  (of_decide_eq_true (by kernel_rfl)) (by unfold Func.isWrapper; first | (rw[if_pos (by decide +kernel)]; kernel_rfl) | (rw[if_neg (by decide +kernel)]; exact⟨rfl,rfl⟩))
  (fun os started H enc _ F=>by rw[OpenClaim.pre_eq_preRow]; exact Zkj os started H enc F)
theorem plain (f:FuncId) (fn:Func) (hf:Tryz.pinned.checked.prog.funcNamed Rows.matchOrderUptoRow.func=some f) (hfn:Tryz.pinned.checked.prog.funcs[f]? = some fn) :
  true=Tryz.pinned.checked.prog.looks []/\ ∀ (j:Nat) t,fn.params[j]? = some t->Tryz.pinned.checked.prog.wantsStandIn t=false:=by
 obtain rfl:f=3:=Option.some.inj ((show Tryz.prog.funcNamed Rows.matchOrderUptoRow.func=some 3 by kernel_rfl).symm.trans hf) |>.symm
 obtain rfl:fn=Tryz.f3:=(Option.some.inj (Tryz.func3.symm.trans hfn)).symm
 refine⟨by kernel_rfl,fun j t ht=> ?_⟩
 have hm:t∈Tryz.f3.params.toList:=Array.mem_toList_iff.2 (Array.mem_of_getElem? ht)
 have ha:(Tryz.f3.params.toList.all fun t=> !(Tryz.prog.wantsStandIn t))=true:=by kernel_rfl
 have h1:=List.all_eq_true.1 ha t hm
 have h2:Tryz.prog.wantsStandIn t=false:=by simpa using h1
 exact h2
end CMatchOrder
theorem matchOrder_holds:Rows.MatchOrderUptoCardSaid :=
 Claim7.holds_tied_plain_at .later [] _ _ _ _ CMatchOrder.said (fun _ h=>by cases h) (by kernel_rfl) (fun _ h=>by cases h) matchOrderUpto_row_tie rfl ⟨rfl,rfl⟩ (by kernel_rfl) rfl CMatchOrder.plain (by kernel_rfl)
#print axioms matchOrder_holds
end Go.Proofs.YtobgkdlghljdlaaGreatDoor
