/- ParseTerms RETURNS true FOR EVERY INPUT,AND EACH ARGUMENT READS AFTERWARDS AS IT READ BEFORE: where the variables that its row lists hold,when the call begins,what the program's text lays;the card ties them to that text. No bound on the arguments beyond what a machine can hold. -/
import Derived.Test.YtecgehidegnmnaaGreatDoorTie
import Derived.Test.YtecgehidegnmnaaGreatDoorCards
import Derived.Deep.DeepHandedRow
import Derived.Deep.DeepWitnessRowRef
import Derived.WalkKit
import Derived.OpenShut
import Derived.SevenTiedAt
import Derived.Carry
import Derived.ChangeAt
import Derived.Test.YtecgehidegnmnaaGreatDoorGlob
import Derived.Test.YtecgehidegnmnaaGreatDoorPrTm
set_option linter.all false
namespace Go.Proofs.YtecgehidegnmnaaGreatDoor
open Go.Sx Go.ChangeShapes Go.WideShapes Go.ChangeAt Go.RowKit
namespace CParseTerms
set_option maxRecDepth 100000
theorem Zcw (os:Os) (args:Array Value):laidMet Tryz.prog Rows.parseTermsRow.laid ((Z3g os).forCall (λ_ _=>0) ⟨#[],args,[]⟩).memory :=
 Z5b Zcx 8 (by kernel_rfl) (by kernel_rfl) (by kernel_rfl)
def qs:List (Go.TypeId × (D->Prop)):=[(39,λa=>∃ t:Tm,t.wf 281474976710656/\a=.agg t.cells)]
theorem Zmr: ∀ q∈qs,Zde Tryz.prog 281474976710656 q.1 q.2:=by
 intro q a;simp only[qs,List.mem_cons,List.not_mem_nil,or_false] at a;rcases a with rfl
 ·exact Zch (by kernel_rfl)
theorem law (as':List D) (h:FitQ qs as'):FnOK Tryz.prog 7 as' (.bool true):=by
 obtain⟨_,a,rfl,⟨x,hx,rfl⟩,h1⟩:=Zhh h;obtain rfl:=Zke h1;exact ZbV Zd9 x hx
theorem Zf5: ∀ (H:Type) (ds:List (DataW H)),ds.length=([39]:List Go.TypeId).length->Rows.parseTermsSpec.fn H ds={results:=[.lit (.bool true)],args:=ds}:=by
 intro H ds h
 match ds,h with
 |[d1],_=>rfl
theorem contract (H:Type) (enc:TypeId × Value->H) (W:World) (base:Nat) (args:Array Value) (ds c:List (DataW H)) (a:List MemPlace)
  (b: ∀ (j:Nat) t v,Tryz.f7.params[j]? = some t->args[j]? = some v->Value.okWide Tryz.prog W .any base t v)
  (g:DataW.Whole enc Tryz.prog Tryz.f7.params.toList Rows.parseTermsSpec.vars false W args.toList ds c a)
  (hsz:(DataW.weightsEach Tryz.prog (Tryz.f7.params.toList++Rows.parseTermsSpec.plain.varTypes Tryz.prog) (ds++c)).all (· <= reachBytes)=true)
  (d:laidMet Tryz.prog Rows.parseTermsRow.laid W) (f:W.ShapedOpen Tryz.prog) :
  Calls Tryz.prog 7 args W λe W'=>∃ v,e=.returned v/\Rows.parseTermsSpec.post enc Tryz.prog Tryz.f7 false true false false W args v W' :=
 ZaU qs (ts:=[39]) rfl (tb:=4) (by kernel_rfl) (by kernel_rfl) Tryz.underlying4 rfl rfl Zf5 Zmr Zh3 (by decide +kernel) law b g hsz
  (ZmR (List.mem_of_getElem? (i:=7) (by kernel_rfl)) (List.mem_of_getElem? (i:=5) (by kernel_rfl)) (List.mem_of_getElem? (i:=4) (by kernel_rfl)) (List.mem_of_getElem? (i:=2) (by kernel_rfl)) f d)
theorem reads (os:Os) {H:Type} (enc:TypeId × Value->H): ∃ a,DataW.whole enc Tryz.prog ((Z3g os).forCall (λ_ _=>0) ⟨#[],#[.agg #[.int .u8 0,.int .i64 0,.string ⟨#[]⟩,.slice none 0 0]],[]⟩).memory Tryz.f7.params.toList Rows.parseTermsSpec.vars false #[.agg #[.int .u8 0,.int .i64 0,.string ⟨#[]⟩,.slice none 0 0]].toList 8=some ([.agg [.lit (.int .u8 0),.lit (.int .i64 0),.lit (.string []),.nil]],[],a) :=
 ⟨[],by kernel_rfl⟩
theorem Zk3 (os:Os) (a:os.Started) (H:Type) (enc:TypeId × Value->H) (F:Stop.Interp) :
  ReturnsInHanded {} Tryz.checked os 7 .any ((OpenSpec.ofChange Rows.parseTermsSpec).preRow enc Tryz.prog Tryz.f7 Rows.parseTermsRow.domain false Rows.parseTermsRow.laid) (((OpenSpec.ofChange Rows.parseTermsSpec).at F).post enc Tryz.prog Tryz.f7 false true false false):=by
 obtain⟨d,hx⟩:=reads os enc;refine returnsInHanded_of_row (C:=Tryz.checked) (s:=OpenSpec.ofChange Rows.parseTermsSpec) own a (by kernel_rfl) Tryz.func7
  (witness_row_atRef (enc:=enc) (C:=Tryz.checked) false (Z3g os) #[.agg #[.int .u8 0,.int .i64 0,.string ⟨#[]⟩,.slice none 0 0]] rfl (by kernel_rfl) (by kernel_rfl) (by kernel_rfl)
   (OpenSpec.preRow_of_cond 8 hx (by kernel_rfl) (λk i=>by cases i) (by kernel_rfl) (Zcw os _))) ?_
 intro W base args ds e b c h _ _ hsz f g _;exact contract H enc W base args ds e b c h hsz f g
theorem said:Rows.ParseTermsSaid :=
 OpenClaim.holds_of_cond 7 Tryz.f7 rfl rfl rfl rfl rfl rfl rfl ⟨rfl,rfl,rfl,rfl,rfl⟩ rfl rfl rfl rfl rfl (by kernel_rfl) Tryz.func7 (by kernel_rfl)
  (of_decide_eq_true (by kernel_rfl)) (by unfold Func.isWrapper;first|(rw[if_pos (by decide +kernel)];kernel_rfl)|(rw[if_neg (by decide +kernel)];exact⟨rfl,rfl⟩))
  (λos a H enc _ F=>by rw[OpenClaim.pre_eq_preRow];exact Zk3 os a H enc F)
theorem plain (f:FuncId) (fn:Func) (hf:Tryz.pinned.checked.prog.funcNamed Rows.parseTermsRow.func=some f) (a:Tryz.pinned.checked.prog.funcs[f]? = some fn) :
  true=Tryz.pinned.checked.prog.looks []/\ ∀ (j:Nat) t,fn.params[j]? = some t->Tryz.pinned.checked.prog.wantsStandIn t=false:=by
 obtain rfl:f=7:=Option.some.inj ((show Tryz.prog.funcNamed Rows.parseTermsRow.func=some 7 by kernel_rfl).symm.trans hf) |>.symm;obtain rfl:fn=Tryz.f7:=(Option.some.inj (Tryz.func7.symm.trans a)).symm;refine⟨by kernel_rfl,λj t b=>?_⟩;have hm:t∈Tryz.f7.params.toList:=Array.mem_toList_iff.2 (Array.mem_of_getElem? b);have ha:(Tryz.f7.params.toList.all λt=>!(Tryz.prog.wantsStandIn t))=true:=by kernel_rfl
 have h1:=List.all_eq_true.1 ha t hm;have h2:Tryz.prog.wantsStandIn t=false:=by simpa using h1
 exact h2
end CParseTerms
theorem parseTerms_holds:Rows.ParseTermsCardSaid :=
 Claim7.holds_tied_plain_at .later [] _ _ _ _ CParseTerms.said (λ_ h=>by cases h) (by kernel_rfl) (λ_ h=>by cases h) parseTerms_row_tie rfl ⟨rfl,rfl⟩ (by kernel_rfl) rfl CParseTerms.plain (by kernel_rfl)
#print axioms parseTerms_holds
end Go.Proofs.YtecgehidegnmnaaGreatDoor
