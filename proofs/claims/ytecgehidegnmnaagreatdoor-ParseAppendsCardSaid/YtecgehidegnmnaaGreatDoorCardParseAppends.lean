/- ParseAppends RETURNS true FOR EVERY INPUT,AND EACH ARGUMENT READS AFTERWARDS AS IT READ BEFORE: where the variables that its row lists hold,when the call begins,what the program's text lays; the card ties them to that text. No bound on the arguments beyond what a machine can hold. -/
import Derived.Test.YtecgehidegnmnaaGreatDoorTie
import Derived.Test.YtecgehidegnmnaaGreatDoorCards
import Derived.Deep.DeepHandedRow
import Derived.Deep.DeepWitnessRowRef
import Derived.WalkKit
import Derived.OpenShut
import Derived.SevenTiedAt
import Derived.Carry
import Derived.ChangeAt
import Derived.Test.YtecgehidegnmnaaGreatDoorGlob
import Derived.Test.YtecgehidegnmnaaGreatDoorJoinT
set_option linter.unusedSectionVars false
set_option linter.unusedVariables false
set_option linter.unusedSimpArgs false
set_option linter.deprecated false
namespace Go.Proofs.YtecgehidegnmnaaGreatDoor
open Go.Sx Go.ChangeShapes Go.WideShapes Go.ChangeAt Go.RowKit
namespace CParseAppends
set_option maxRecDepth 100000
theorem Zci (os:Os) (args:Array Value):laidMet Tryz.prog Rows.parseAppendsRow.laid ((Z2Y os).forCall (fun _ _=>0) ⟨#[],args,[]⟩).memory :=
 Z56 Zcj 8 (by kernel_rfl) (by kernel_rfl) (by kernel_rfl)
theorem law (as':List D) (h:FitA Tryz.prog 281474976710656 [9,9] as'):FnOK Tryz.prog 3 as' (.bool true):=by
 obtain⟨s,a2,rfl,hs,h⟩:=Zam h (by kernel_rfl) (by kernel_rfl)
 obtain⟨t,a3,rfl,ht,h⟩:=Zam h (by kernel_rfl) (by kernel_rfl)
 obtain rfl:=ZgD h
 exact Z8x ZcO s t
theorem Zex: ∀ (H:Type) (ds:List (DataW H)),ds.length=([9,9]:List Go.TypeId).length->Rows.parseAppendsSpec.fn H ds={ results:=[.lit (.bool true)],args:=ds }:=by
 intro H ds h
 match ds,h with
 | [d1,d2],_=>rfl
theorem contract (H:Type) (enc:TypeId × Value->H) (W:World) (base:Nat) (args:Array Value) (ds gs:List (DataW H)) (before:List MemPlace)
  (hval: ∀ (j:Nat) t v,Tryz.f3.params[j]? = some t->args[j]? = some v->Value.okWide Tryz.prog W .any base t v)
  (hW:DataW.Whole enc Tryz.prog Tryz.f3.params.toList Rows.parseAppendsSpec.vars false W args.toList ds gs before)
  (hsz:(DataW.weightsEach Tryz.prog (Tryz.f3.params.toList++Rows.parseAppendsSpec.plain.varTypes Tryz.prog) (ds++gs)).all (· <= reachBytes)=true)
  (hL:laidMet Tryz.prog Rows.parseAppendsRow.laid W) (hS:W.ShapedOpen Tryz.prog) :
  Calls Tryz.prog 3 args W fun e W'=> ∃ v,e= .returned v/\Rows.parseAppendsSpec.post enc Tryz.prog Tryz.f3 false true false false W args v W' :=
 ZaJ (ts:=[9,9]) (tb:=4) (by kernel_rfl) (by kernel_rfl) Tryz.underlying4 rfl rfl Zex (by decide +kernel) Zgo (by decide +kernel) law hval hW hsz
  (Zl7 (List.mem_of_getElem? (i:=7) (by kernel_rfl)) (List.mem_of_getElem? (i:=5) (by kernel_rfl)) (List.mem_of_getElem? (i:=4) (by kernel_rfl)) (List.mem_of_getElem? (i:=2) (by kernel_rfl)) hS hL)
theorem reads (os:Os) {H:Type} (enc:TypeId × Value->H): ∃ places,DataW.whole enc Tryz.prog ((Z2Y os).forCall (fun _ _=>0) ⟨#[], #[.string ⟨#[]⟩,.string ⟨#[]⟩],[]⟩).memory Tryz.f3.params.toList Rows.parseAppendsSpec.vars false #[.string ⟨#[]⟩,.string ⟨#[]⟩].toList 8=some ([.lit (.string []),.lit (.string [])],[],places) :=
 ⟨[],by kernel_rfl⟩
theorem ZiM (os:Os) (started:os.Started) (H:Type) (enc:TypeId × Value->H) (F:Stop.Interp) :
  ReturnsInHanded {} Tryz.checked os 3 .any ((OpenSpec.ofChange Rows.parseAppendsSpec).preRow enc Tryz.prog Tryz.f3 Rows.parseAppendsRow.domain false Rows.parseAppendsRow.laid) (((OpenSpec.ofChange Rows.parseAppendsSpec).at F).post enc Tryz.prog Tryz.f3 false true false false):=by
 obtain⟨places,hx⟩:=reads os enc
 refine returnsInHanded_of_row (C:=Tryz.checked) (s:=OpenSpec.ofChange Rows.parseAppendsSpec) own started (by kernel_rfl) Tryz.func3
  (witness_row_atRef (enc:=enc) (C:=Tryz.checked) false (Z2Y os) #[.string ⟨#[]⟩,.string ⟨#[]⟩] rfl (by kernel_rfl) (by kernel_rfl) (by kernel_rfl)
   (OpenSpec.preRow_of_cond 8 hx (by kernel_rfl) (fun k hk=>by cases hk) (by kernel_rfl) (Zci os _))) ?_
 intro W base args ds gs before hval hW _ _ hsz hL hS _
 exact contract H enc W base args ds gs before hval hW hsz hL hS
theorem said:Rows.ParseAppendsSaid :=
 OpenClaim.holds_of_cond 3 Tryz.f3 rfl rfl rfl rfl rfl rfl rfl ⟨rfl,rfl,rfl,rfl,rfl⟩ rfl rfl rfl rfl rfl (by kernel_rfl) Tryz.func3 (by kernel_rfl)
  (of_decide_eq_true (by kernel_rfl)) (by unfold Func.isWrapper; first | (rw[if_pos (by decide +kernel)]; kernel_rfl) | (rw[if_neg (by decide +kernel)]; exact⟨rfl,rfl⟩))
  (fun os started H enc _ F=>by rw[OpenClaim.pre_eq_preRow]; exact ZiM os started H enc F)
theorem plain (f:FuncId) (fn:Func) (hf:Tryz.pinned.checked.prog.funcNamed Rows.parseAppendsRow.func=some f) (hfn:Tryz.pinned.checked.prog.funcs[f]? = some fn) :
  true=Tryz.pinned.checked.prog.looks []/\ ∀ (j:Nat) t,fn.params[j]? = some t->Tryz.pinned.checked.prog.wantsStandIn t=false:=by
 obtain rfl:f=3:=Option.some.inj ((show Tryz.prog.funcNamed Rows.parseAppendsRow.func=some 3 by kernel_rfl).symm.trans hf) |>.symm
 obtain rfl:fn=Tryz.f3:=(Option.some.inj (Tryz.func3.symm.trans hfn)).symm
 refine⟨by kernel_rfl,fun j t ht=> ?_⟩
 have hm:t∈Tryz.f3.params.toList:=Array.mem_toList_iff.2 (Array.mem_of_getElem? ht)
 have ha:(Tryz.f3.params.toList.all fun t=> !(Tryz.prog.wantsStandIn t))=true:=by kernel_rfl
 have h1:=List.all_eq_true.1 ha t hm
 have h2:Tryz.prog.wantsStandIn t=false:=by simpa using h1
 exact h2
end CParseAppends
theorem parseAppends_holds:Rows.ParseAppendsCardSaid :=
 Claim7.holds_tied_plain_at .later [] _ _ _ _ CParseAppends.said (fun _ h=>by cases h) (by kernel_rfl) (fun _ h=>by cases h) parseAppends_row_tie rfl ⟨rfl,rfl⟩ (by kernel_rfl) rfl CParseAppends.plain (by kernel_rfl)
#print axioms parseAppends_holds
end Go.Proofs.YtecgehidegnmnaaGreatDoor
