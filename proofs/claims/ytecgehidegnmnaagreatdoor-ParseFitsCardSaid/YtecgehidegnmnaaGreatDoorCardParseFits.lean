/- ParseFits RETURNS true FOR EVERY INPUT,AND EACH ARGUMENT READS AFTERWARDS AS IT READ BEFORE: where the variables that its row lists hold,when the call begins,what the program's text lays;the card ties them to that text. No bound on the arguments beyond what a machine can hold. -/
import Derived.Test.YtecgehidegnmnaaGreatDoorTie
import Derived.Test.YtecgehidegnmnaaGreatDoorCards
import Derived.Deep.DeepHandedRow
import Derived.Deep.DeepWitnessRowRef
import Derived.WalkKit
import Derived.OpenShut
import Derived.SevenTiedAt
import Derived.Carry
import Derived.ChangeAt
import Derived.Test.YtecgehidegnmnaaGreatDoorGlob
import Derived.Test.YtecgehidegnmnaaGreatDoorPrFd
set_option linter.all false
namespace Go.Proofs.YtecgehidegnmnaaGreatDoor
open Go.Sx Go.ChangeShapes Go.WideShapes Go.ChangeAt Go.RowKit
namespace CParseFits
set_option maxRecDepth 100000
theorem ZbQ (os:Os) (args:Array Value):laidMet Tryz.prog Rows.parseFitsRow.laid ((Z2T os).forCall (λ_ _=>0) ⟨#[],args,[]⟩).memory :=
 Z4V ZbR 8 (by kernel_rfl) (by kernel_rfl) (by kernel_rfl)
theorem law (a:List D) (h:FitA Tryz.prog 281474976710656 [9] a):FnOK Tryz.prog 6 a (.bool true):=by
 obtain⟨s,b,rfl,hs,h⟩:=Zg0 h (by kernel_rfl) (by kernel_rfl);obtain rfl:=Zg1 h;exact ZfZ Zcn s
theorem Ze2: ∀ (H:Type) (ds:List (DataW H)),ds.length=([9]:List Go.TypeId).length->Rows.parseFitsSpec.fn H ds={results:=[.lit (.bool true)],args:=ds}:=by
 intro H ds h
 match ds,h with
 |[d1],_=>rfl
theorem contract (H:Type) (enc:TypeId × Value->H) (W:World) (base:Nat) (args:Array Value) (ds c:List (DataW H)) (a:List MemPlace)
  (b: ∀ (j:Nat) t v,Tryz.f6.params[j]? = some t->args[j]? = some v->Value.okWide Tryz.prog W .any base t v)
  (g:DataW.Whole enc Tryz.prog Tryz.f6.params.toList Rows.parseFitsSpec.vars false W args.toList ds c a)
  (hsz:(DataW.weightsEach Tryz.prog (Tryz.f6.params.toList++Rows.parseFitsSpec.plain.varTypes Tryz.prog) (ds++c)).all (· <= reachBytes)=true)
  (d:laidMet Tryz.prog Rows.parseFitsRow.laid W) (f:W.ShapedOpen Tryz.prog) :
  Calls Tryz.prog 6 args W λe W'=>∃ v,e=.returned v/\Rows.parseFitsSpec.post enc Tryz.prog Tryz.f6 false true false false W args v W' :=
 Zaf (ts:=[9]) (tb:=4) (by kernel_rfl) (by kernel_rfl) Tryz.underlying4 rfl rfl Ze2 (by decide +kernel) ZfK (by decide +kernel) law b g hsz
  (Zla (List.mem_of_getElem? (i:=7) (by kernel_rfl)) (List.mem_of_getElem? (i:=5) (by kernel_rfl)) (List.mem_of_getElem? (i:=4) (by kernel_rfl)) (List.mem_of_getElem? (i:=2) (by kernel_rfl)) f d)
theorem reads (os:Os) {H:Type} (enc:TypeId × Value->H): ∃ a,DataW.whole enc Tryz.prog ((Z2T os).forCall (λ_ _=>0) ⟨#[],#[.string ⟨#[]⟩],[]⟩).memory Tryz.f6.params.toList Rows.parseFitsSpec.vars false #[.string ⟨#[]⟩].toList 8=some ([.lit (.string [])],[],a) :=
 ⟨[],by kernel_rfl⟩
theorem Ziw (os:Os) (a:os.Started) (H:Type) (enc:TypeId × Value->H) (F:Stop.Interp) :
  ReturnsInHanded {} Tryz.checked os 6 .any ((OpenSpec.ofChange Rows.parseFitsSpec).preRow enc Tryz.prog Tryz.f6 Rows.parseFitsRow.domain false Rows.parseFitsRow.laid) (((OpenSpec.ofChange Rows.parseFitsSpec).at F).post enc Tryz.prog Tryz.f6 false true false false):=by
 obtain⟨d,hx⟩:=reads os enc;refine returnsInHanded_of_row (C:=Tryz.checked) (s:=OpenSpec.ofChange Rows.parseFitsSpec) own a (by kernel_rfl) Tryz.func6
  (witness_row_atRef (enc:=enc) (C:=Tryz.checked) false (Z2T os) #[.string ⟨#[]⟩] rfl (by kernel_rfl) (by kernel_rfl) (by kernel_rfl)
   (OpenSpec.preRow_of_cond 8 hx (by kernel_rfl) (λk i=>by cases i) (by kernel_rfl) (ZbQ os _))) ?_
 intro W base args ds e b c h _ _ hsz f g _;exact contract H enc W base args ds e b c h hsz f g
theorem said:Rows.ParseFitsSaid :=
 OpenClaim.holds_of_cond 6 Tryz.f6 rfl rfl rfl rfl rfl rfl rfl ⟨rfl,rfl,rfl,rfl,rfl⟩ rfl rfl rfl rfl rfl (by kernel_rfl) Tryz.func6 (by kernel_rfl)
  (of_decide_eq_true (by kernel_rfl)) (by unfold Func.isWrapper;first|(rw[if_pos (by decide +kernel)];kernel_rfl)|(rw[if_neg (by decide +kernel)];exact⟨rfl,rfl⟩))
  (λos a H enc _ F=>by rw[OpenClaim.pre_eq_preRow];exact Ziw os a H enc F)
theorem plain (f:FuncId) (fn:Func) (hf:Tryz.pinned.checked.prog.funcNamed Rows.parseFitsRow.func=some f) (a:Tryz.pinned.checked.prog.funcs[f]? = some fn) :
  true=Tryz.pinned.checked.prog.looks []/\ ∀ (j:Nat) t,fn.params[j]? = some t->Tryz.pinned.checked.prog.wantsStandIn t=false:=by
 obtain rfl:f=6:=Option.some.inj ((show Tryz.prog.funcNamed Rows.parseFitsRow.func=some 6 by kernel_rfl).symm.trans hf) |>.symm;obtain rfl:fn=Tryz.f6:=(Option.some.inj (Tryz.func6.symm.trans a)).symm;refine⟨by kernel_rfl,λj t b=>?_⟩;have hm:t∈Tryz.f6.params.toList:=Array.mem_toList_iff.2 (Array.mem_of_getElem? b);have ha:(Tryz.f6.params.toList.all λt=>!(Tryz.prog.wantsStandIn t))=true:=by kernel_rfl
 have h1:=List.all_eq_true.1 ha t hm;have h2:Tryz.prog.wantsStandIn t=false:=by simpa using h1
 exact h2
end CParseFits
theorem parseFits_holds:Rows.ParseFitsCardSaid :=
 Claim7.holds_tied_plain_at .later [] _ _ _ _ CParseFits.said (λ_ h=>by cases h) (by kernel_rfl) (λ_ h=>by cases h) parseFits_row_tie rfl ⟨rfl,rfl⟩ (by kernel_rfl) rfl CParseFits.plain (by kernel_rfl)
#print axioms parseFits_holds
end Go.Proofs.YtecgehidegnmnaaGreatDoor
