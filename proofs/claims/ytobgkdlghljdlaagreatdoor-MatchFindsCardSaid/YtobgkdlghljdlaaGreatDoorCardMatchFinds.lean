/- MatchFinds RETURNS true FOR EVERY INPUT,AND EACH ARGUMENT READS AFTERWARDS AS IT READ BEFORE: where the variables that its row lists hold,when the call begins,what the program's text lays; the card ties them to that text. No bound on the arguments beyond what a machine can hold. -/
import Derived.Test.YtobgkdlghljdlaaGreatDoorTie
import Derived.Test.YtobgkdlghljdlaaGreatDoorCards
import Derived.Deep.DeepHandedRow
import Derived.Deep.DeepWitnessRowRef
import Derived.WalkKit
import Derived.OpenShut
import Derived.SevenTiedAt
import Derived.Carry
import Derived.ChangeAt
import Derived.Test.YtobgkdlghljdlaaGreatDoorGlob
import Derived.Test.YtobgkdlghljdlaaGreatDoorVarsA
import Derived.Test.YtobgkdlghljdlaaGreatDoorMtX
set_option linter.unusedSectionVars false
set_option linter.unusedVariables false
set_option linter.unusedSimpArgs false
set_option linter.deprecated false
namespace Go.Proofs.YtobgkdlghljdlaaGreatDoor
open Go.Sx Go.ChangeShapes Go.WideShapes Go.ChangeAt Go.RowKit
namespace CMatchFinds
set_option maxRecDepth 100000
theorem Zcn (os:Os) (args:Array Value):laidMet Tryz.prog Rows.matchFindsRow.laid ((Z2g os).forCall (fun _ _=>0) ⟨#[],args,[]⟩).memory :=
 Z4z Zco 8 (by kernel_rfl) (by kernel_rfl) (by kernel_rfl)
def qs:List (Go.TypeId × (D->Prop)):=[(35,fun a=> ∃ t:Tm,t.wf 281474976710656/\a= .agg t.cells),(26,fun a=> ∃ l:List Bd,(∀ x∈l,x.wf 281474976710656)/\l.length<=281474976710656/\a= .slice (bdL l) []),(3,fun a=>Sh.fit 281474976710656 (.int .i64) a)]
theorem ZoR: ∀ q∈qs,Z8k Tryz.prog 281474976710656 q.1 q.2:=by
 intro q hq
 simp only[qs,List.mem_cons,List.not_mem_nil,or_false] at hq
 rcases hq with rfl | rfl | rfl
 ·exact Zc9 (by kernel_rfl)
 ·exact Z9b Tryz.underlying26 (T:=35) (by kernel_rfl) (by kernel_rfl)
 ·exact Zca (n:=6) (by kernel_rfl) (by kernel_rfl)
theorem law (as':List D) (h:FitQ qs as'):FnOK Tryz.prog 6 as' (.bool true):=by
 obtain⟨_,l1,rfl,⟨x,hx,rfl⟩,h1⟩:=Z5H h
 obtain⟨_,l2,rfl,⟨b,wb,lb,rfl⟩,h2⟩:=Z5H h1
 obtain⟨_,l3,rfl,⟨n,rfl,hn⟩,h3⟩:=Z5H h2
 obtain rfl:=ZlN h3
 exact ZcA Zd3 x b n hx wb lb
theorem ZeY: ∀ (H:Type) (ds:List (DataW H)),ds.length=([35,26,3]:List Go.TypeId).length->Rows.matchFindsSpec.fn H ds={ results:=[.lit (.bool true)],args:=ds }:=by
 intro H ds h
 match ds,h with
 | [d1,d2,d3],_=>rfl
theorem contract (H:Type) (enc:TypeId × Value->H) (W:World) (base:Nat) (args:Array Value) (ds gs:List (DataW H)) (before:List MemPlace)
  (hval: ∀ (j:Nat) t v,Tryz.f6.params[j]? = some t->args[j]? = some v->Value.okWide Tryz.prog W .any base t v)
  (hW:DataW.Whole enc Tryz.prog Tryz.f6.params.toList Rows.matchFindsSpec.vars false W args.toList ds gs before)
  (hsz:(DataW.weightsEach Tryz.prog (Tryz.f6.params.toList++Rows.matchFindsSpec.plain.varTypes Tryz.prog) (ds++gs)).all (· <= reachBytes)=true)
  (hL:laidMet Tryz.prog Rows.matchFindsRow.laid W) (hS:W.ShapedOpen Tryz.prog) :
  Calls Tryz.prog 6 args W fun e W'=> ∃ v,e= .returned v/\Rows.matchFindsSpec.post enc Tryz.prog Tryz.f6 false true false false W args v W' :=
 Zao qs (ts:=[35,26,3]) rfl (tb:=4) (by kernel_rfl) (by kernel_rfl) Tryz.underlying4 rfl rfl ZeY ZoR ZgG (by decide +kernel) law hval hW hsz
  (Zp7 hS)
theorem reads (os:Os) {H:Type} (enc:TypeId × Value->H): ∃ places,DataW.whole enc Tryz.prog ((Z2g os).forCall (fun _ _=>0) ⟨#[], #[.agg #[.int .u8 0,.int .i64 0,.string ⟨#[]⟩,.slice none 0 0],.slice none 0 0,.int .i64 0],[]⟩).memory Tryz.f6.params.toList Rows.matchFindsSpec.vars false #[.agg #[.int .u8 0,.int .i64 0,.string ⟨#[]⟩,.slice none 0 0],.slice none 0 0,.int .i64 0].toList 8=some ([.agg [.lit (.int .u8 0),.lit (.int .i64 0),.lit (.string []),.nil],.nil,.lit (.int .i64 0)],[],places) :=
 ⟨[],by kernel_rfl⟩
theorem Zlq (os:Os) (started:os.Started) (H:Type) (enc:TypeId × Value->H) (F:Stop.Interp) :
  ReturnsInHanded {} Tryz.checked os 6 .any ((OpenSpec.ofChange Rows.matchFindsSpec).preRow enc Tryz.prog Tryz.f6 Rows.matchFindsRow.domain false Rows.matchFindsRow.laid) (((OpenSpec.ofChange Rows.matchFindsSpec).at F).post enc Tryz.prog Tryz.f6 false true false false):=by
 obtain⟨places,hx⟩:=reads os enc
 refine returnsInHanded_of_row (C:=Tryz.checked) (s:=OpenSpec.ofChange Rows.matchFindsSpec) own started (by kernel_rfl) Tryz.func6
  (witness_row_atRef (enc:=enc) (C:=Tryz.checked) false (Z2g os) #[.agg #[.int .u8 0,.int .i64 0,.string ⟨#[]⟩,.slice none 0 0],.slice none 0 0,.int .i64 0] rfl (by kernel_rfl) (by kernel_rfl) (by kernel_rfl)
   (OpenSpec.preRow_of_cond 8 hx (by kernel_rfl) (fun k hk=>by cases hk) (by kernel_rfl) (Zcn os _))) ?_
 intro W base args ds gs before hval hW _ _ hsz hL hS _
 exact contract H enc W base args ds gs before hval hW hsz hL hS
theorem said:Rows.MatchFindsSaid :=
 OpenClaim.holds_of_cond 6 Tryz.f6 rfl rfl rfl rfl rfl rfl rfl ⟨rfl,rfl,rfl,rfl,rfl⟩ rfl rfl rfl rfl rfl (by kernel_rfl) Tryz.func6 (by kernel_rfl)
  (of_decide_eq_true (by kernel_rfl)) (by unfold Func.isWrapper; first | (rw[if_pos (by decide +kernel)]; kernel_rfl) | (rw[if_neg (by decide +kernel)]; exact⟨rfl,rfl⟩))
  (fun os started H enc _ F=>by rw[OpenClaim.pre_eq_preRow]; exact Zlq os started H enc F)
theorem plain (f:FuncId) (fn:Func) (hf:Tryz.pinned.checked.prog.funcNamed Rows.matchFindsRow.func=some f) (hfn:Tryz.pinned.checked.prog.funcs[f]? = some fn) :
  true=Tryz.pinned.checked.prog.looks []/\ ∀ (j:Nat) t,fn.params[j]? = some t->Tryz.pinned.checked.prog.wantsStandIn t=false:=by
 obtain rfl:f=6:=Option.some.inj ((show Tryz.prog.funcNamed Rows.matchFindsRow.func=some 6 by kernel_rfl).symm.trans hf) |>.symm
 obtain rfl:fn=Tryz.f6:=(Option.some.inj (Tryz.func6.symm.trans hfn)).symm
 refine⟨by kernel_rfl,fun j t ht=> ?_⟩
 have hm:t∈Tryz.f6.params.toList:=Array.mem_toList_iff.2 (Array.mem_of_getElem? ht)
 have ha:(Tryz.f6.params.toList.all fun t=> !(Tryz.prog.wantsStandIn t))=true:=by kernel_rfl
 have h1:=List.all_eq_true.1 ha t hm
 have h2:Tryz.prog.wantsStandIn t=false:=by simpa using h1
 exact h2
end CMatchFinds
theorem matchFinds_holds:Rows.MatchFindsCardSaid :=
 Claim7.holds_tied_plain_at .later [] _ _ _ _ CMatchFinds.said (fun _ h=>by cases h) (by kernel_rfl) (fun _ h=>by cases h) matchFinds_row_tie rfl ⟨rfl,rfl⟩ (by kernel_rfl) rfl CMatchFinds.plain (by kernel_rfl)
#print axioms matchFinds_holds
end Go.Proofs.YtobgkdlghljdlaaGreatDoor
