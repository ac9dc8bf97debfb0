/- SafetyGrounds RETURNS true FOR EVERY INPUT OF THAT BULK,AND EACH ARGUMENT READS AFTERWARDS AS IT READ BEFORE: where the variables that its row lists hold,when the call begins,what the program's text lays;the card ties them to that text. For arguments that hold together at most 1048576 values and letters. -/
import Derived.Test.YtaclfbhhekhflaaGreatDoorTie
import Derived.Test.YtaclfbhhekhflaaGreatDoorCards
import Derived.Deep.DeepHandedRow
import Derived.Deep.DeepWitnessRowRef
import Derived.WalkKit
import Derived.OpenShut
import Derived.SevenTiedAt
import Derived.Carry
import Derived.ChangeAt
import Derived.Test.YtaclfbhhekhflaaGreatDoorGlob
import Derived.Test.YtaclfbhhekhflaaGreatDoorGzC
set_option linter.all false
noncomputable section
namespace Go.Proofs.YtaclfbhhekhflaaGreatDoor
open Go.Sx Go.ChangeShapes Go.WideShapes Go.ChangeAt Go.RowKit
namespace CSafetyGrounds
set_option maxRecDepth 100000
theorem Zg7 (os:Os) (args:Array Value):laidMet Tryz.prog Rows.safetyGroundsUptoRow.laid ((Z3R os).forCall (λ_ _=>0) ⟨#[],args,[]⟩).memory :=
 Z6I Zg8 8 (by kernel_rfl) (by kernel_rfl) (by kernel_rfl)
def qs:List (Go.TypeId × (D->Prop)):=[(28,λa=>∃ x:Ru,x.wf 281474976710656/\szs x.cs<=1048576/\a=.agg x.cs),(29,λa=>ShT.fit 281474976710656 (.slice [.int .i64]) a)]
theorem Zu5: ∀ q∈qs,Z7l Tryz.prog 281474976710656 1048576 q.1 q.2:=by
 intro q a;simp only[qs,List.mem_cons,List.not_mem_nil,or_false] at a;rcases a with rfl|rfl
 ·exact Z7L (T:=25) (n:=12) (by kernel_rfl) (by kernel_rfl) (by kernel_rfl)
 ·exact ZaP (T:=25) (n:=6) (by kernel_rfl) (by kernel_rfl) (by kernel_rfl)
theorem law (as':List D) (h:FitQ qs as'):FnOK Tryz.prog 3 as' (.bool true):=by
 obtain⟨_,e,rfl,⟨r,c,d,rfl⟩,h1⟩:=Zdo h;obtain⟨_,f,rfl,a,h2⟩:=Zdo h1;obtain rfl:=ZqF h2;simp only[ShT.fit] at a;obtain⟨es,rfl,a,b⟩:=a;obtain⟨ps,rfl⟩:=Z9G b;exact Z89 r c d ps (by simpa [intC] using a)
theorem ZiV: ∀ (H:Type) (ds:List (DataW H)),ds.length=([28,29]:List Go.TypeId).length->Rows.safetyGroundsSpec.fn H ds={results:=[.lit (.bool true)],args:=ds}:=by
 intro H ds h
 match ds,h with
 |[d1,d2],_=>rfl
theorem contract (H:Type) (enc:TypeId × Value->H) (W:World) (base:Nat) (args:Array Value) (ds c:List (DataW H)) (a:List MemPlace)
  (b: ∀ (j:Nat) t v,Tryz.f3.params[j]? = some t->args[j]? = some v->Value.okWide Tryz.prog W .any base t v)
  (f:DataW.Whole enc Tryz.prog Tryz.f3.params.toList Rows.safetyGroundsSpec.vars false W args.toList ds c a)
  (hsz:(DataW.weightsEach Tryz.prog (Tryz.f3.params.toList++Rows.safetyGroundsSpec.plain.varTypes Tryz.prog) (ds++c)).all (· <= reachBytes)=true)
  (hk:Rows.uptoSmall H (ds++c)=true) (g:laidMet Tryz.prog Rows.safetyGroundsUptoRow.laid W) (d:W.ShapedOpen Tryz.prog) :
  Calls Tryz.prog 3 args W λe W'=>∃ v,e=.returned v/\Rows.safetyGroundsSpec.post enc Tryz.prog Tryz.f3 false true false false W args v W' :=
 ZdX qs (ts:=[28,29]) rfl (tb:=4) (by kernel_rfl) (by kernel_rfl) Tryz.underlying4 rfl rfl ZiV Zu5 ZkV (by decide +kernel) law b f hsz (ZiJ hk)
  (Zuj d)
theorem reads (os:Os) {H:Type} (enc:TypeId × Value->H): ∃ a,DataW.whole enc Tryz.prog ((Z3R os).forCall (λ_ _=>0) ⟨#[],#[.agg #[.int .u8 0,.slice none 0 0,.int .u8 0,.int .i64 0,.string ⟨#[]⟩,.slice none 0 0,.int .u8 0,.int .i64 0,.string ⟨#[]⟩,.slice none 0 0,.slice none 0 0,.int .u8 0,.int .i64 0,.string ⟨#[]⟩,.slice none 0 0,.int .u8 0,.int .i64 0,.string ⟨#[]⟩,.slice none 0 0,.slice none 0 0],.slice none 0 0],[]⟩).memory Tryz.f3.params.toList Rows.safetyGroundsSpec.vars false #[.agg #[.int .u8 0,.slice none 0 0,.int .u8 0,.int .i64 0,.string ⟨#[]⟩,.slice none 0 0,.int .u8 0,.int .i64 0,.string ⟨#[]⟩,.slice none 0 0,.slice none 0 0,.int .u8 0,.int .i64 0,.string ⟨#[]⟩,.slice none 0 0,.int .u8 0,.int .i64 0,.string ⟨#[]⟩,.slice none 0 0,.slice none 0 0],.slice none 0 0].toList 8=some ([.agg [.lit (.int .u8 0),.nil,.agg [.lit (.int .u8 0),.lit (.int .i64 0),.lit (.string []),.nil],.agg [.lit (.int .u8 0),.lit (.int .i64 0),.lit (.string []),.nil],.nil,.agg [.lit (.int .u8 0),.lit (.int .i64 0),.lit (.string []),.nil],.agg [.lit (.int .u8 0),.lit (.int .i64 0),.lit (.string []),.nil],.nil],.nil],[],a) :=
 ⟨[],by kernel_rfl⟩
theorem Zqi (os:Os) (a:os.Started) (H:Type) (enc:TypeId × Value->H) (F:Stop.Interp) :
  ReturnsInHanded {} Tryz.checked os 3 .any ((Rows.OpenSpec.upto Rows.safetyGroundsSpec).preRow enc Tryz.prog Tryz.f3 Rows.safetyGroundsUptoRow.domain false Rows.safetyGroundsUptoRow.laid) (((Rows.OpenSpec.upto Rows.safetyGroundsSpec).at F).post enc Tryz.prog Tryz.f3 false true false false):=by
 obtain⟨d,hx⟩:=reads os enc;refine returnsInHanded_of_row (C:=Tryz.checked) (s:=Rows.OpenSpec.upto Rows.safetyGroundsSpec) own a (by kernel_rfl) Tryz.func3
  (witness_row_atRef (enc:=enc) (C:=Tryz.checked) false (Z3R os) #[.agg #[.int .u8 0,.slice none 0 0,.int .u8 0,.int .i64 0,.string ⟨#[]⟩,.slice none 0 0,.int .u8 0,.int .i64 0,.string ⟨#[]⟩,.slice none 0 0,.slice none 0 0,.int .u8 0,.int .i64 0,.string ⟨#[]⟩,.slice none 0 0,.int .u8 0,.int .i64 0,.string ⟨#[]⟩,.slice none 0 0,.slice none 0 0],.slice none 0 0] rfl (by kernel_rfl) (by kernel_rfl) (by kernel_rfl)
   (OpenSpec.preRow_of_cond 8 hx (by kernel_rfl) (λk hk=>by cases hk;kernel_rfl) (by kernel_rfl) (Zg7 os _))) ?_
 intro W base args ds e b c h _ hk hsz f g _;exact contract H enc W base args ds e b c h hsz (hk _ rfl) f g
theorem said:Rows.SafetyGroundsUptoSaid :=
 OpenClaim.holds_of_cond 3 Tryz.f3 rfl rfl rfl rfl rfl rfl rfl ⟨rfl,rfl,rfl,rfl,rfl⟩ rfl rfl rfl rfl rfl (by kernel_rfl) Tryz.func3 (by kernel_rfl)
  (of_decide_eq_true (by kernel_rfl)) (by unfold Func.isWrapper;first|(rw[if_pos (by decide +kernel)];kernel_rfl)|(rw[if_neg (by decide +kernel)];exact⟨rfl,rfl⟩))
  (λos a H enc _ F=>by rw[OpenClaim.pre_eq_preRow];exact Zqi os a H enc F)
theorem plain (f:FuncId) (fn:Func) (hf:Tryz.pinned.checked.prog.funcNamed Rows.safetyGroundsUptoRow.func=some f) (a:Tryz.pinned.checked.prog.funcs[f]? = some fn) :
  true=Tryz.pinned.checked.prog.looks []/\ ∀ (j:Nat) t,fn.params[j]? = some t->Tryz.pinned.checked.prog.wantsStandIn t=false:=by
 obtain rfl:f=3:=Option.some.inj ((show Tryz.prog.funcNamed Rows.safetyGroundsUptoRow.func=some 3 by kernel_rfl).symm.trans hf) |>.symm;obtain rfl:fn=Tryz.f3:=(Option.some.inj (Tryz.func3.symm.trans a)).symm;refine⟨by kernel_rfl,λj t b=>?_⟩;have hm:t∈Tryz.f3.params.toList:=Array.mem_toList_iff.2 (Array.mem_of_getElem? b);have ha:(Tryz.f3.params.toList.all λt=>!(Tryz.prog.wantsStandIn t))=true:=by kernel_rfl
 have h1:=List.all_eq_true.1 ha t hm;have h2:Tryz.prog.wantsStandIn t=false:=by simpa using h1
 exact h2
end CSafetyGrounds
theorem safetyGrounds_holds:Rows.SafetyGroundsUptoCardSaid :=
 Claim7.holds_tied_plain_at .later [] _ _ _ _ CSafetyGrounds.said (λ_ h=>by cases h) (by kernel_rfl) (λ_ h=>by cases h) safetyGroundsUpto_row_tie rfl ⟨rfl,rfl⟩ (by kernel_rfl) rfl CSafetyGrounds.plain (by kernel_rfl)
#print axioms safetyGrounds_holds
end Go.Proofs.YtaclfbhhekhflaaGreatDoor
