/- Own work: a layer over the kit: plain data,a walk over it,its soundness. -/
import Derived.Test.YtobgkdlghljdlaaGreatDoorSx6
import Derived.Test.YtobgkdlghljdlaaGreatDoorSx7
import Derived.Test.YtobgkdlghljdlaaGreatDoorSx10
import Derived.Test.YtobgkdlghljdlaaGreatDoorSx8
set_option linter.unusedSectionVars false
set_option linter.unusedVariables false
set_option linter.unusedSimpArgs false
set_option linter.deprecated false
/- A PANIC IN A ROUND OF A RANGE OVER A FUNCTION. Where the body panics,no waiting call lies on the round's frame: so it catches nothing. -/
namespace Go.Sx
open Go.RowKit
variable [Globs] [Codes]
def Z8W:List Item->Bool
 | .call .. :: _=>false
 | _=>true
theorem Z23 {P:Program} {fr:Frame} (h:Z8W fr.todo=true):fr.catches P=false:=by
 unfold Frame.catches
 split
 ·rename_i h1 h2
  rw[h2] at h
  cases h
 ·rfl
def ArrivesP (I:Machine->Prop) (P:Program) (m:Machine) (b:Frame) (k:List Item) (cs:List Frame):Exit->Act->World->Prop
 | .panic chain,a,w=> ∃ todo,Z8W todo=true/\StepsIn I P m (lone { b.atR a todo with mode:= .panicking chain } cs w)
 | e,a,w=>ArrivesIn I P m b k cs e a w
theorem ArrivesP.of_steps {I:Machine->Prop} {P:Program} {m m₁:Machine} {b:Frame} {k:List Item} {cs:List Frame} {e:Exit} {a:Act} {w:World}
  (h:StepsIn I P m m₁) (h':ArrivesP I P m₁ b k cs e a w):ArrivesP I P m b k cs e a w:=by
 cases e with
 | panic chain=>obtain⟨todo,hn,hs⟩:=h'; exact⟨todo,hn,h.trans hs⟩
 | normal=>exact ArrivesIn.of_steps (e:= .normal) h h'
 | exit id=>exact ArrivesIn.of_steps (e:= .exit id) h h'
 | goto l=>exact ArrivesIn.of_steps (e:= .goto l) h h'
 | ret=>exact ArrivesIn.of_steps (k:=k) (e:= .ret) h h'
 | outgrown=>exact ArrivesIn.of_steps (I:=I) (P:=P) (m:=m) (m₁:=m₁) (b:=b) (k:=k) (cs:=cs) (e:= .outgrown) (a:=a) (w:=w) h h'
theorem ArrivesP.pass {I:Machine->Prop} {P:Program} {m:Machine} {b:Frame} {x:Item} {k:List Item} {cs:List Frame} {e:Exit} {a:Act} {w:World}
  (hx:x.plain=true) (he:e≠ .normal) (h:ArrivesP I P m b (x::k) cs e a w):ArrivesP I P m b k cs e a w:=by
 cases e with
 | panic chain=>exact h
 | normal=>exact absurd rfl he
 | exit id=>exact ArrivesIn.pass (e:= .exit id) hx (fun _ _=> .inl (by simp)) h
 | goto l=>exact ArrivesIn.pass (e:= .goto l) hx (fun _ _=> .inl (by simp)) h
 | ret=>exact ArrivesIn.pass (k:=k) (e:= .ret) hx (fun _ _=> .inl (by simp)) h
 | outgrown=>exact h
def wpP (F:Fence) (n:Nat) (P:Program) (c:Code) (Q:Exit->Act->World->Prop) (a:Act) (w:World):Prop :=
 ∀ (b:Frame) (k:List Item) (cs:List Frame),b.roundOf=F.round->F.fn b.fn->F.room (cs.length+1+n) →
  ∃ e a' w',Q e a' w'/\ArrivesP (Machine.fenced P F) P (lone (b.atR a (.code c::k)) cs w) b k cs e a' w'
section
variable {P:Program} {F:Fence} {n:Nat} {Q:Exit->Act->World->Prop} {a:Act} {w:World}
theorem Zi2 {c:Code} {Q':Exit->Act->World->Prop} (h:c.wpIn F n P Q a w) (hq: ∀ e a w,Q e a w->(∀ ch,e≠ .panic ch)/\Q' e a w):wpP F n P c Q' a w :=
 fun b k cs hro hb hr=>by
  obtain⟨e,a',w',q,r⟩:=h b k cs hro hb hr
  obtain⟨hp,q'⟩:=hq e a' w' q
  refine⟨e,a',w',q', ?_⟩
  cases e with
  | panic ch=>exact absurd rfl (hp ch)
  | normal=>exact r
  | exit id=>exact r
  | goto l=>exact r
  | ret=>exact r
  | outgrown=>exact r
theorem Z0n {c:Code} {Q':Exit->Act->World->Prop} (h:wpP F n P c Q a w) (hq: ∀ e a w,Q e a w->Q' e a w):wpP F n P c Q' a w :=
 fun b k cs hro hb hr=>let ⟨e,a',w',q,r⟩:=h b k cs hro hb hr; ⟨e,a',w',hq _ _ _ q,r⟩
theorem Z7Y {x y:Code} (h:wpP F n P x (Exit.then (wpP F n P y Q) Q) a w):wpP F n P (Code.seq x y) Q a w:=by
 intro b k cs hro hb hr
 have h0:(lone (b.atR a (.code (.seq x y)::k)) cs w).fenced P F:=fenced_calm hb hr rfl
 obtain⟨e,a₁,w₁,hq,harr⟩:=h b (.code y::k) cs hro hb hr
 cases e with
 | normal =>
  obtain⟨e₂,a₂,w₂,hq₂,harr₂⟩:=hq b k cs hro hb hr
  exact⟨e₂,a₂,w₂,hq₂,.of_steps (.head h0 stepR_seq harr) harr₂⟩
 | exit id=>exact⟨_,a₁,w₁,hq,.of_steps (.one h0 stepR_seq) (.pass (x:= .code y) rfl (by simp) harr)⟩
 | goto l=>exact⟨_,a₁,w₁,hq,.of_steps (.one h0 stepR_seq) (.pass (x:= .code y) rfl (by simp) harr)⟩
 | ret=>exact⟨_,a₁,w₁,hq,.of_steps (.one h0 stepR_seq) (.pass (x:= .code y) rfl (by simp) harr)⟩
 | panic ch=>exact⟨_,a₁,w₁,hq,.of_steps (.one h0 stepR_seq) (.pass (x:= .code y) rfl (by simp) harr)⟩
 | outgrown=>exact⟨_,a₁,w₁,hq,.of_steps (.one h0 stepR_seq) (.pass (x:= .code y) rfl (by simp) harr)⟩
theorem ZaF {c:Operand} {x y:Code} {t:Bool} (hc:a.eval c= .bool t) (h:wpP F n P (if t then x else y) Q a w):wpP F n P (Code.cond c x y) Q a w :=
 fun b k cs hro hb hr=>let ⟨e,a',w',q,r⟩:=h b k cs hro hb hr; ⟨e,a',w',q,.of_steps (.one (fenced_calm hb hr rfl) (stepR_cond hc)) r⟩
theorem Z7Z {id:Nat} {c:Code} (h:wpP F n P c (Exit.inBlock id Q) a w):wpP F n P (Code.block id c) Q a w:=by
 intro b k cs hro hb hr
 have h0:(lone (b.atR a (.code (.block id c)::k)) cs w).fenced P F:=fenced_calm hb hr rfl
 obtain⟨e,a₁,w₁,hq,harr⟩:=h b (.inBlock id::k) cs hro hb hr
 cases e with
 | normal=>exact⟨.normal,a₁,w₁,hq,.head h0 stepR_block (StepsIn.trans harr (.one (fenced_calm hb hr rfl) stepR_inBlock))⟩
 | exit id' =>
  by_cases hid:id'=id
  ·simp only[Exit.inBlock,hid,if_true] at hq
   exact⟨.normal,a₁,w₁,hq,.head h0 stepR_block (harr.1 k (by simp[exitTo,hid]))⟩
  ·simp only[Exit.inBlock,hid,if_false] at hq
   have this:(id == id')=false:=by simp; exact fun h=>hid h.symm
   have hx:exitTo id' (.inBlock id::k)=exitTo id' k:=by simp[exitTo,this]
   exact⟨.exit id',a₁,w₁,hq,fun k' hk=> .head h0 stepR_block (harr.1 k' (by rw[hx]; exact hk)),
    fun hr' hk=>let ⟨k₁,h1,h2⟩:=harr.2 hr' (by rw[hx]; exact hk); ⟨k₁,h1,.head h0 stepR_block h2⟩⟩
 | goto l =>
  have hx:gotoIn l (.inBlock id::k)=gotoIn l k:=by simp[gotoIn]
  exact⟨_,a₁,w₁,hq,fun k' hk=> .head h0 stepR_block (harr.1 k' (by rw[hx]; exact hk)),
   fun hr' hk=>let ⟨k₁,h1,h2⟩:=harr.2 hr' (by rw[hx]; exact hk); ⟨k₁,h1,.head h0 stepR_block h2⟩⟩
 | ret=>exact⟨_,a₁,w₁,hq,.of_steps (.one h0 stepR_block) harr⟩
 | panic ch=>exact⟨_,a₁,w₁,hq,.of_steps (.one h0 stepR_block) harr⟩
 | outgrown=>exact⟨_,a₁,w₁,hq,.of_steps (.one h0 stepR_block) harr⟩
def ZoQ (P:Program) (F:Fence) (Q:Exit->Act->World->Prop) (next:Act->World->Prop) (M:Machine) (ops:Array Oper) (i:Nat) (rest:List Nat) (a:Act) (b:Frame) (k:List Item) (cs:List Frame):Prop :=
 (∃ a' w',next a' w'/\StepsIn (Machine.fenced P F) P M (lone (b.atR a' (.inRegion ops rest::k)) cs w')) ∨
 (∃ ch w',Q (.panic ch) a w'/\StepsIn (Machine.fenced P F) P M (lone { b.atR a (.inRegion ops (i::rest)::k) with mode:= .panicking ch } cs w')) ∨
 (LetsOut Q/\Outgrown P M)
theorem ZjW {ops:Array Oper} {i:Nat} {rest:List Nat} {o:Oper} {next:Act->World->Prop} (ho:ops[i]? = some o) (hw:Region.wanted o (yielded ops a.tmps)=true) (h:o.wpIn F n P a w next Q)
  {b:Frame} {k:List Item} {cs:List Frame} (hro:b.roundOf=F.round) (hb:F.fn b.fn) (hr:F.room (cs.length+1+n)):ZoQ P F Q next (lone (b.atR a (.inRegion ops (i::rest)::k)) cs w) ops i rest a b k cs:=by
 have hI:=fenced_oper (P:=P) (rest:=rest) (k:=k) hb hr ho h.1
 have hup:=h.2
 have hg:=stepGR_op (P:=P) (b:=b) (k:=k) (cs:=cs) (w:=w) (rest:=rest) ho hw
 rw[hro] at hg
 have put: ∀ v,(b.atR a (.inRegion ops (i::rest)::k)).finish v=b.atR (a.put o.dst v) (.inRegion ops rest::k):=fun v=>by rw[Frame.finish_atR,ho]; rfl
 -- at once
 have now: ∀ {fr:Frame} {w':World},(stepG.apply P true (b.atR a (.inRegion ops (i::rest)::k)) cs none (o.semAt F.round a.eval) w).bare= .go { frame:=fr,callers:=cs,status:= .running,dying:=none } w' →
   StepsIn (Machine.fenced P F) P (lone (b.atR a (.inRegion ops (i::rest)::k)) cs w) (lone fr cs w'):=fun e=> .one hI (step_lone_go (by rw[hg]; exact e))
 -- by a frame of its own
 have deep: ∀ {fr:Frame} {w':World},(stepG.apply P true (b.atR a (.inRegion ops (i::rest)::k)) cs none (o.semAt F.round a.eval) w).bare= .go { frame:=fr,callers:=b.atR a (.inRegion ops (i::rest)::k)::cs,status:= .running,dying:=none } w' →
   step P (lone (b.atR a (.inRegion ops (i::rest)::k)) cs w)= .next (lone fr (b.atR a (.inRegion ops (i::rest)::k)::cs) w'):=fun e=>step_lone_go (by rw[hg]; exact e)
 unfold Oper.uponIn at hup
 split at hup
 case _ v w' e=>exact .inl ⟨_,_,hup,now (by rw[<- put]; simp[stepG.apply,e])⟩
 case _ w' e=>exact .inl ⟨_,_,hup,now (by rw[<- put]; simp[stepG.apply,e])⟩
 case _ d w' e =>
  refine .inl ⟨_,_,hup,now ?_⟩
  have hf:=Frame.finish_atR b { a with defers:=d::a.defers } ops i rest k undef
  rw[ho] at hf
  simp only[stepG.apply,Sem.runT_eq,e,GStep.bare_after]
  exact congrArg (fun fr=>GStep.go { frame:=fr,callers:=cs,status:= .running,dying:=none } w') hf
 case _ f args w' e =>
  have s1:=deep (fr:=Frame.enter P f args .normal) (w':=w') (by simp[stepG.apply,e,Frame.atR])
  obtain⟨end_,w2,fr,hR,hs,hfn,hlv⟩:=hup.2.2 (b.atR a (.inRegion ops (i::rest)::k)::cs) (Fence.room_enter hr hup.1)
  have hroom:=Fence.room_enter (c:=cs.length) hr hup.1
  cases end_ with
  | outgrown=>exact .inr (.inr ⟨hR,Outgrown.of_steps (.one s1) hs⟩)
  | returned v=>exact .inl ⟨_,_,hR,.head hI s1 (StepsIn.trans hs (.one (fenced_leaving (hfn ▸ hup.2.1) hroom hlv) (by rw[<- put]; exact step_leave_returned hlv)))⟩
  | panicked ch=>exact .inr (.inl ⟨ch,_,hR,.head hI s1 (StepsIn.trans hs (.one (fenced_leaving (hfn ▸ hup.2.1) hroom hlv) (by rw[<- Frame.raise_atR]; exact step_leave_panicked hlv)))⟩)
 case _ row args w' e =>
  have s1:=deep (fr:=Frame.ofRow P row args .normal) (w':=w') (by simp[stepG.apply,e,Frame.atR])
  obtain⟨v,w2,hR,hs⟩:=hup.2 (b.atR a (.inRegion ops (i::rest)::k)) cs (Fence.room_enter hr hup.1)
  exact .inl ⟨_,_,hR,.head hI s1 (by rw[<- put]; exact hs)⟩
 case _ l f tmps asg body w' e =>
  have s1:=deep (fr:=Frame.round l f tmps asg body .normal) (w':=w') (by simp[stepG.apply,e,Frame.atR])
  obtain⟨end_,w2,hR,hs⟩:=hup.2.2 (b.atR a (.inRegion ops (i::rest)::k)) cs (Fence.room_enter hr hup.1)
  cases end_ with
  | outgrown=>exact .inr (.inr ⟨hR,Outgrown.of_steps (.one s1) hs⟩)
  | returned v=>exact .inl ⟨_,_,hR,.head hI s1 (by rw[<- put]; exact hs)⟩
  | panicked ch=>exact .inr (.inl ⟨ch,_,hR,.head hI s1 (by rw[<- Frame.raise_atR]; exact hs)⟩)
 case _ v w' e=>exact .inr (.inl ⟨_,_,hup,now (by rw[<- Frame.raise_atR]; simp[stepG.apply,e])⟩)
 case _=>exact hup.elim
theorem Z3u {ops:Array Oper} {b:Frame} {k:List Item} {cs:List Frame} (hro:b.roundOf=F.round) (hb:F.fn b.fn) (hr:F.room (cs.length+1+n)): ∀ (l:List Nat) (a:Act) (w:World),wpOpsIn F n P ops Q l a w →
  ∃ e a' w',Q e a' w'/\ArrivesP (Machine.fenced P F) P (lone (b.atR a (.inRegion ops l::k)) cs w) b k cs e a' w'
 | [],a,w,h=>⟨.normal,a,w,h,.one (fenced_calm hb hr rfl) stepR_region_end⟩
 | i::rest,a,w,h=>by
  simp only[wpOpsIn] at h
  split at h
  ·rename_i ho
   obtain⟨e,a',w',hq,har⟩:=Z3u hro hb hr rest a w h
   have hs:=stepR_op_skip (P:=P) (b:=b) (a:=a) (k:=k) (cs:=cs) (w:=w) (ops:=ops) (i:=i) (rest:=rest) (by simp[ho])
   simp only[ho,Option.bind_none,Act.put] at hs
   exact⟨e,a',w',hq,.of_steps (.one (fenced_noOper hb hr ho) hs) har⟩
  ·rename_i o ho
   split at h
   ·rename_i hw
    rcases ZjW (rest:=rest) ho hw h hro hb hr with ⟨a',w',hn,hs⟩ | ⟨ch,w',hq,hs⟩ | ⟨⟨a',w',hq⟩,ho⟩
    ·obtain⟨e,a2,w2,hq,har⟩:=Z3u hro hb hr rest a' w' hn
     exact⟨e,a2,w2,hq,.of_steps hs har⟩
    ·exact⟨.panic ch,a,w',hq,_,rfl,hs⟩
    ·exact⟨.outgrown,a',w',hq,.inr ho⟩
   ·rename_i hw
    obtain⟨e,a',w',hq,har⟩:=Z3u hro hb hr rest _ w h.2
    have hs:=stepR_op_skip (P:=P) (b:=b) (a:=a) (k:=k) (cs:=cs) (w:=w) (ops:=ops) (i:=i) (rest:=rest) (by simp[ho]; simpa using hw)
    simp only[ho,Option.bind_some] at hs
    exact⟨e,a',w',hq,.of_steps (.one (fenced_oper hb hr ho h.1) hs) har⟩
theorem Z76 {id:Nat} {ops:Array Oper} (h:wpListIn F n P ops Q ops.toList a w):wpP F n P (Code.region id ops false) Q a w:=fun b k cs hro hb hr=>by
 have h':wpOpsIn F n P ops Q (List.range ops.size) a w:=by
  rw[List.range_eq_range',<- Array.length_toList,wpOpsIn_eq_wpListIn ops.toList 0 (by simp)]; exact h
 obtain⟨e,a',w',q,r⟩:=Z3u hro hb hr (List.range ops.size) a w h'
 exact⟨e,a',w',q,.of_steps (.one (fenced_calm hb hr rfl) stepR_region) r⟩
end
section
variable {P:Program} {F:Fence} {n:Nat}
def ZjN (P:Program) (l:Nat) (R:Ending->World->Prop):Exit->Act->World->Prop
 | .panic ch,a,w=> ∃ ms w1,a.defers=ms.map mkd/\takes P ms w w1/\R (.panicked ch) w1
 | e,a,w=>roundPost P l R e a w
theorem Z1u {fr c:Frame} {cs:List Frame} {w:World} {ch:List PanicEntry} (hm:fr.mode= .panicking ch) (hd:fr.defers=[]) (hc:fr.catches P=false) :
  step P (lone fr (c::cs) w)= .next (lone (c.raise ch) cs w) :=
 step_lone_go (by simp[stepG,unwind,hm,hd,hc])
theorem Z42: ∀ {ms1 ms2:List Nat} {w w1 w2:World},takes P ms1 w w1->takes P ms2 w1 w2->takes P (ms1++ms2) w w2
 | [],_,_,_,_,h1,h2=>by cases h1; exact h2
 | _::_,_,_,_,_,⟨w',h,h1⟩,h2=>⟨w',h,Z42 h1 h2⟩
theorem Z8B {l:Nat} {f:FuncId} {tmps:Array Value} {asg body:Code} {w:World} {R:Ending->World->Prop} (hF:F.fn f)
  (h:asg.wpIn (F.inRound l) n P (Exit.then (fun a₁ w₁=> ∃ w₂,(Instr.beginRound l).run P w₁= .ok () w₂/\wpP (F.inRound l) n P body (ZjN P l R) a₁ w₂) (fun _ _ _=>False)) { tmps:=tmps,defers:=[] } w) :
  RoundIn F n P l f tmps asg body w R:=by
 refine⟨hF,fun c cs hr=> ?_⟩
 let b:Frame:={ (default:Frame) with fn:=f,kind:= .normal,roundOf:=some l }
 have hb0:Frame.round l f tmps asg body .normal=b.atR { tmps:=tmps,defers:=[] } [.code asg,.beginRound,.code body]:=by
  simp[Frame.round,Frame.atR,b]
 have hr':(F.inRound l).room ((c::cs).length+1+n):=hr
 have hF':(F.inRound l).fn b.fn:=hF
 obtain⟨e,a₁,w₁,hq,harr⟩:=h b [.beginRound,.code body] (c::cs) rfl hF' hr'
 rw[<- hb0] at harr
 cases e <;> try exact hq.elim
 obtain⟨w₂,hbr,hbody⟩:=hq
 have s1:StepsIn (Machine.fenced P (F.inRound l)) P (lone (b.atR a₁ [.beginRound,.code body]) (c::cs) w₁) (lone (b.atR a₁ [.code body]) (c::cs) w₂) :=
  .one (fenced_calm (fr:=b.atR a₁ [.beginRound,.code body]) hF' hr' rfl) (stepR_beginRound rfl hbr)
 obtain⟨e₂,a₂,w₃,hq₂,har₂⟩:=hbody b [] (c::cs) rfl hF' hr'
 have s2:=StepsIn.trans harr s1
 cases e₂ with
 | normal =>
  obtain⟨v,w₄,hend,hR⟩:=hq₂
  exact⟨.returned v,w₄,hR,s2.trans (StepsIn.trans har₂ (.one (fenced_calm (fr:=b.atR a₂ []) hF' hr' rfl) (stepR_round_end rfl rfl hend)))⟩
 | ret =>
  obtain⟨v,w₄,hend,hR⟩:=hq₂
  obtain⟨k₁,hs⟩:=har₂.2 rfl
  exact⟨.returned v,w₄,hR,s2.trans (hs.trans (.one (fenced_calm (fr:=b.atR a₂ (.code .ret::k₁)) hF' hr' rfl) (stepR_round_ret rfl rfl hend)))⟩
 | exit id =>
  obtain⟨v,w₄,hend,hR⟩:=hq₂
  obtain⟨k₁,hk,hs⟩:=har₂.2 rfl rfl
  exact⟨.returned v,w₄,hR,s2.trans (hs.trans (.one (fenced_calm (fr:=b.atR a₂ (.code (.exit id)::k₁)) hF' hr' rfl) (stepR_round_exit rfl rfl hk hend)))⟩
 | goto t =>
  obtain⟨v,w₄,hend,hR⟩:=hq₂
  obtain⟨k₁,hk,hs⟩:=har₂.2 rfl rfl
  exact⟨.returned v,w₄,hR,s2.trans (hs.trans (.one (fenced_calm (fr:=b.atR a₂ (.code (.goto t)::k₁)) hF' hr' rfl) (stepR_round_goto rfl rfl hk hend)))⟩
 | panic ch =>
  obtain⟨ms,w4,hdf,htk,hR⟩:=hq₂
  obtain⟨todo,hnc,hs⟩:=har₂
  have s3:=QR (P:=P) (F:=F.inRound l) (n:=n) ms w₃ w4 { b.atR a₂ todo with mode:= .panicking ch } (c::cs) (by simp) hdf hF' hr' htk
  refine⟨.panicked ch,w4,hR,s2.trans (hs.trans (s3.trans (.one ?_ (Z1u rfl rfl (Z23 hnc)))))⟩
  exact fenced_calm (fr:={ { b.atR a₂ todo with mode:= .panicking ch } with defers:=[] }) hF' hr' (by simp[Frame.about])
 | outgrown=>exact hq₂.elim
def isDp:SC->SC->Bool
 | .drw ..,.spec (.pan _)=>true
 | _,_=>false
def jok:SC->Bool
 | .loop .. | .rangeF .. => false
 | .seq a b=> !isDp a b && (jok a && jok b)
 | .cond _ a b=>jok a && jok b
 | .block _ a=>jok a
 | _=>true
def npQ (Q:Exit->St->Prop):Exit->St->Prop
 | .panic _,_=>False
 | e,s=>Q e s
theorem Zbl {cx:Cx} {ds:List Deferred} {Q:Exit->St->Prop} {e:Exit} {a:Act} {w:World} (h:PostM cx ds (npQ Q) e a w):(∀ ch,e≠ .panic ch)/\PostM cx ds Q e a w:=by
 obtain⟨ms,h1,h2,s,φ,hh,hq,hm⟩:=h
 cases e with
 | panic ch=>exact hq.elim
 | normal=>exact⟨by simp,ms,h1,h2,s,φ,hh,hq,hm⟩
 | exit id=>exact⟨by simp,ms,h1,h2,s,φ,hh,hq,hm⟩
 | goto l=>exact⟨by simp,ms,h1,h2,s,φ,hh,hq,hm⟩
 | ret=>exact⟨by simp,ms,h1,h2,s,φ,hh,hq,hm⟩
 | outgrown=>exact⟨by simp,ms,h1,h2,s,φ,hh,hq,hm⟩
theorem Z88 [CodesOf P] (Z4:DrawSound P) (hF:Fence.Open F) {hi:Hints} {N bs:Nat} (c:Code): ∀ (sc:SC),Zk P N hi c=some sc->jok sc=true-> ∀ (cx:Cx) (ds:List Deferred),cx.N=N->cx.bs=bs->GlobC cx.φ0 cx.w0 cx.Z->InRound F cx →
  ∀ (Q:Exit->St->Prop) (s:St) (φ:Mem) (h:Nat->Value) (tmps:Array Value) (w:World),
  Mod cx s φ h tmps w->sw P bs sc Q s->wpP F n P c (PostM cx ds Q) ⟨tmps,ds⟩ w:=by
 -- what cannot panic
 have plain: ∀ {c:Code} {sc:SC},Zk P N hi c=some sc-> ∀ (cx:Cx) (ds:List Deferred),cx.N=N->cx.bs=bs->GlobC cx.φ0 cx.w0 cx.Z->InRound F cx →
   ∀ (Q:Exit->St->Prop) (s:St) (φ:Mem) (h:Nat->Value) (tmps:Array Value) (w:World),Mod cx s φ h tmps w->sw P bs sc (npQ Q) s->wpP F n P c (PostM cx ds Q) ⟨tmps,ds⟩ w :=
  fun hc cx ds hN hbs hgl hro Q s φ h tmps w hm hs=>Zi2 (Qv Z4 hF _ _ hc cx ds hN hbs hgl hro (npQ Q) s φ h tmps w hm hs) fun _ _ _=>Zbl
 induction c with
 | skip =>
  intro sc hc hj cx ds hN hbs hgl hro Q s φ h tmps w hm hs
  have hc':=hc
  cases hc
  exact plain hc' cx ds hN hbs hgl hro Q s φ h tmps w hm hs
 | ret =>
  intro sc hc hj cx ds hN hbs hgl hro Q s φ h tmps w hm hs
  have hc':=hc
  cases hc
  exact plain hc' cx ds hN hbs hgl hro Q s φ h tmps w hm hs
 | exit id =>
  intro sc hc hj cx ds hN hbs hgl hro Q s φ h tmps w hm hs
  have hc':=hc
  cases hc
  exact plain hc' cx ds hN hbs hgl hro Q s φ h tmps w hm hs
 | region id ops draw =>
  intro sc hc hj cx ds hN hbs hgl hro Q s φ h tmps w hm hs
  have hc':=hc
  simp only[Zk] at hc
  split at hc
  ·rename_i k hk
   cases draw with
   | true =>
    simp only[if_true] at hc
    obtain⟨sops,p,rfl,_,_,_,rfl⟩:=Z17 hc
    exact absurd hj Bool.false_ne_true
   | false =>
    simp only[Bool.false_eq_true,if_false] at hc
    cases hc
    cases k with
    | pan sops =>
     subst hN
     subst hbs
     obtain⟨bt,fz,hops,hdd⟩:=Z34 hk
     exact Z76 (Z1n (Nat.le_max_left _ _) hgl hF ops.toList sops hops (ZD hdd) s φ h tmps w hm hs)
    | _=>exact plain hc' cx ds hN hbs hgl hro Q s φ h tmps w hm hs
  split at hc
  ·rename_i sops hl
   split at hc
   ·rename_i hd
    cases draw with
    | true =>
     simp only[if_true] at hc
     split at hc
     ·cases hc
      exact plain hc' cx ds hN hbs hgl hro Q s φ h tmps w hm hs
     ·cases hc
    | false =>
     simp only[Bool.false_eq_true,if_false] at hc
     cases hc
     exact plain hc' cx ds hN hbs hgl hro Q s φ h tmps w hm hs
   ·cases hc
  ·cases hc
 | seq a b iha ihb =>
  intro sc hc hj cx ds hN hbs hgl hro Q s φ h tmps w hm hs
  simp only[Zk] at hc
  split at hc
  ·rename_i sa sb ha hb
   split at hc
   ·cases hc
    simp only[jok,Bool.and_eq_true] at hj
    have hj:=hj.2
    refine Z7Y (Z0n (iha sa ha hj.1 cx ds hN hbs hgl hro _ s φ h tmps w hm hs) ?_)
    rintro e ⟨tm,df⟩ w' ⟨ms,hnd,hdf,s',φ',h',hq,hm'⟩
    simp only at hdf
    subst hdf
    cases e <;> first | exact⟨ms,hnd,rfl,s',φ',h',hq,hm'⟩ | exact Z0n (ihb sb hb hj.2 (cx.more ms) (ms.map mkd++ds) hN hbs hgl (hro.more ms) Q s' φ' h' tm w' hm' hq) (fun _ _ _ h=>h.after hnd)
   ·rename_i ts _
    cases hc
    simp only[jok,Bool.and_eq_true] at hj
    have hj:=hj.2
    refine Z7Y (Z0n (iha sa ha hj.1 cx ds hN hbs hgl hro _ s φ h tmps w hm hs) ?_)
    rintro e ⟨tm,df⟩ w' ⟨ms,hnd,hdf,s',φ',h',hq,hm'⟩
    simp only at hdf
    subst hdf
    cases e <;> try exact⟨ms,hnd,rfl,s',φ',h',hq,hm'⟩
    obtain⟨φ2,hk,hmk⟩:=hm'.canonM ts
    have hq':sw P bs sb Q (s'.canon bs ts):=hq
    subst hbs
    exact Z0n (ihb sb hb hj.2.2.2 (cx.more ms) (ms.map mkd++ds) hN rfl hgl (hro.more ms) Q _ φ2 hk tm w' hmk hq') (fun _ _ _ h=>h.after hnd)
  ·cases hc
 | cond x a b iha ihb =>
  intro sc hc hj cx ds hN hbs hgl hro Q s φ h tmps w hm hs
  simp only[Zk] at hc
  split at hc
  ·rename_i x' sa sb hx ha hb
   cases hc
   simp only[jok,Bool.and_eq_true] at hj
   simp only[sw] at hs
   have hv:=hm.get hgl (ds:=ds) hx
   split at hs
   ·rename_i t hxt
    rw[hxt] at hv
    refine ZaF hv.bool_inv ?_
    cases t
    ·exact ihb sb hb hj.2 cx ds hN hbs hgl hro Q s φ h tmps w hm (by simpa using hs)
    ·exact iha sa ha hj.1 cx ds hN hbs hgl hro Q s φ h tmps w hm (by simpa using hs)
   ·exact hs.elim
  ·cases hc
 | block id c ih =>
  intro sc hc hj cx ds hN hbs hgl hro Q s φ h tmps w hm hs
  simp only[Zk] at hc
  cases hc':Zk P N hi c with
  | none=>rw[hc'] at hc; cases hc
  | some sb =>
   rw[hc'] at hc; cases hc
   refine Z7Z (Z0n (ih sb hc' hj cx ds hN hbs hgl hro _ s φ h tmps w hm hs) ?_)
   rintro e ⟨tm,df⟩ w' ⟨ms,hnd,hdf,s',φ',h',hq,hm'⟩
   cases e <;> try exact⟨ms,hnd,hdf,s',φ',h',hq,hm'⟩
   rename_i i
   simp only[Qy] at hq
   simp only[Exit.inBlock]
   split at hq
   ·rename_i hi; rw[if_pos hi]; exact⟨ms,hnd,hdf,s',φ',h',hq,hm'⟩
   ·rename_i hi; rw[if_neg hi]; exact⟨ms,hnd,hdf,s',φ',h',hq,hm'⟩
 | loop c ih =>
  intro sc hc hj
  simp only[Zk] at hc
  cases hc':Zk P N hi c with
  | none=>rw[hc'] at hc; cases hc
  | some sb=>rw[hc'] at hc; cases hc; cases hj
 | rangeFunc g ps ca cb iha ihb =>
  intro sc hc hj
  simp only[Zk] at hc
  split at hc
  ·cases hc; cases hj
  ·cases hc
 | scope=>intro sc hc; cases hc
 | label=>intro sc hc; cases hc
 | goto=>intro sc hc; cases hc
 | refuse=>intro sc hc; cases hc
end
def YPan (P:Program) (k:Nat) (R:D->Obs->Prop) (rid N:Nat) (ps:Array Tmp) (a b:SC) (keys:List Nat) (ds:List D) (c:List PanicEntry) (s:St):Prop :=
 ∃ v,c=[{ v,recovered:=false }]/\R (.pan v) ((rid,.gen (.loop .busy none ps a b N keys) ds)::(s.canon k []).ob)
section
variable {P:Program} {F:Fence} {n:Nat}
theorem Z8i (cx:Cx) (ms:List Nat) (l:Nat) (o:Obj):Cx.setk (cx.more ms) l o=(cx.setk l o).more ms:=by
 unfold Cx.setk Cx.more
 congr 1
 funext b
 simp only
 split
 ·rfl
 ·rfl
theorem CallL.yldJ [CodesOf P] (Z4:DrawSound P) {N:Nat} {ps:Array Tmp} {a b:SC} {keys:List Nat} {ds:List D} {rid:Nat} {args:List D} {ob:Obs} {R:D->Obs->Prop} (k:Nat) (hk:Obs.top ob<=k)
  (hrec:lk ob rid=some (.gen (.loop .ready none ps a b N keys) ds)) (hps:ps.size=args.length) (hpN: ∀ t∈ps.toList,t<N) (hj:jok b=true)
  (hsw:sw P k a (fun e s=>match e with
   | .normal=>sw P k b (fun e s'=>lk s'.ob rid=none/\match e with
    | .normal=>YRet P k R rid N ps a b keys ds none s'
    | .ret=>YRet P k R rid N ps a b keys ds (some .ret) s'
    | .exit i=>YRet P k R rid N ps a b keys ds (some (.exit i)) s'
    | .panic c=>YPan P k R rid N ps a b keys ds c s'
    | _=>False) s
   | _=>False) ⟨putP (ps.toList.zip args) (keys.zip ds),Z6 rid ob⟩) :
  CallL P (.yld rid) args ob R:=by
 intro F hF n φ h w v vs hp hv hvs
 obtain⟨l,hhl,rfl⟩: ∃ l,h rid= .pointer (some ⟨l,0,none⟩)/\v= .func (.yield l) #[] #[]:=by
  cases hv with
  | pure r=>cases r
  | yld _ l hh=>exact⟨l,hh,rfl⟩
 have hob:=hp.obj rid _ hrec
 rw[hhl] at hob
 obtain⟨b0,vals,o,hb0,hown,hheap,hgis,hvl,hvrv,hnone⟩:=hob
 cases hb0
 obtain⟨_,r,rfl,hst,hpe,hpar,hca,hcb,htsz,rfl⟩:=hgis
 obtain⟨hia,ha⟩:=(CodesOf.ci (P:=P) _ _ _).1 hca
 obtain⟨hib,hb⟩:=(CodesOf.ci (P:=P) _ _ _).1 hcb
 have hridk:rid<k:=(Obs.top_get hk hrec).1
 have hvsz:vs.size=r.params.size:=by rw[hpar,hps]; have:=hvs.length; simpa using this
 have hrv0: ∀ t d,lk (keys.zip ds) t=some d->RV φ h (r.tmps.getD t Go.undef) d:=fun t d hl=>by
  obtain⟨j,h1,h2⟩:=Z7U hl
  have h3:=hvrv j d h2
  have:(keys.map fun t=>r.tmps.getD t Go.undef).getD j Go.undef=r.tmps.getD t Go.undef:=by simp[List.getD,List.getElem?_map,h1]
  rw[this] at h3
  exact h3
 have hrun:(Z2p (.func (.yield l) #[] #[]) vs).run P w= .ok (.round l r.fn ((r.params.zip vs).foldl (fun tmps (t,a)=>tmps.setIfInBounds t a) r.tmps) r.assign r.body) w:=by
  simp only[Z2p,Deferred.ofValue,invoke,Sem.run_bind,Sem.run_pure,Result.andThen_ok]
  rw[Array.empty_append]
  exact run_yield hheap hvsz
 rw[hrun]
 show RoundIn F n P l r.fn _ r.assign r.body w _
 refine Z8B (hF.fn _) ?_
 have hfold:(r.params.zip vs).foldl (fun tmps (t,a)=>tmps.setIfInBounds t a) r.tmps=(ps.toList.zip vs.toList).foldl (fun tm x=>tm.setIfInBounds x.1 x.2) r.tmps:=by
  rw[hpar,<- Array.foldl_toList,Array.toList_zip]
 rw[hfold]
 have htmsz:((ps.toList.zip vs.toList).foldl (fun tm x=>tm.setIfInBounds x.1 x.2) r.tmps).size=N:=by rw[Z06,htsz]
 have hm':=hp.enter (N:=N) (k:=k) (kp:=fun b=>if b=l then some (.loop r) else none) (E:=putP (ps.toList.zip args) (keys.zip ds)) (ob1:=Z6 rid ob) htmsz
  (Z59 ps.toList vs.toList args (keys.zip ds) r.tmps hvs (fun t ht=>by rw[htsz]; exact hpN t ht) hrv0)
  (fun i o ho=>by
   rw[Zi] at ho
   split at ho
   ·cases ho
   ·exact ho)
  (fun q o hq=>by
   split at hq
   ·rename_i e
    cases hq
    subst e
    refine⟨hheap,hnone,fun i hi hbi=> ?_⟩
    rw[Zi] at hi
    split at hi
    ·cases hi
    ·rename_i hne
     exact hne (hp.sep i rid q hi (by rw[hrec]; rfl) hbi (by rw[hhl]; rfl))
   ·cases hq)
 have hZl:ZOf ob h l:=⟨rid,by rw[hrec]; rfl,by rw[hhl]; rfl⟩
 refine wpIn_mono (Qv (n:=n) Z4 (hF.inRound l) r.assign a ha _ [] rfl rfl hp.glob (fun l' hl'=>⟨r,by
  have:some l=some l':=hl'
  cases this
  simp⟩) _ _ φ h _ w hm' hsw) ?_
 rintro e a1 w1 ⟨ms1,hnd1,hdf1,s1,φ1,h1,hq1,hm1⟩
 cases e <;> try exact hq1.elim
 have hk1: ∀ {cx1:Cx},cx1.kp l=some (.loop r)-> ∀ ms,(cx1.more ms).kp l=some (.loop r):=fun hk ms=>by simp[Cx.more,hk]
 have hk1':=hk1 (cx1:={ N,w0:=w,φ0:=φ,Z:=ZOf ob h,bs:=k,h0:=h,kp:=fun b=>if b=l then some (.loop r) else none }) (by simp) ms1
 have hheap1:=(hm1.kept l _ hk1').1
 refine⟨_,run_beginRound hheap1 hst, ?_⟩
 have hm1b:=hm1.setKp (o1:= .loop { r with state:= .busy }) hk1' (.inr hZl)
 obtain⟨tm1,df1⟩:=a1
 refine Z0n (Z88 (n:=n) Z4 (hF.inRound l) r.body b hb hj _ df1 rfl rfl hp.glob (fun l' hl'=>⟨{ r with state:= .busy },by
  have:some l=some l':=hl'
  cases this
  simp[Cx.setk]⟩) _ _ φ1 h1 tm1 _ hm1b hq1) ?_
 rintro e a2 w2 ⟨ms2,hnd2,hdf2,s2,φ2,h2,⟨hrn,hq2⟩,hm2⟩
 -- the record at the end,whatever its state
 have tail: ∀ (kp:Nat->Option Obj) (tm':Array Value) (w':World) (r2:Loop),kp l=some (.loop r2)->r2.params=r.params->r2.tmps=r.tmps->r2.assign=r.assign->r2.body=r.body →
   Mod { N,w0:=w,φ0:=φ,Z:=ZOf ob h,bs:=k,h0:=h,kp:=kp } s2 φ2 h2 tm' w' →
   ∃ hh,After ob φ h w ((rid,.gen (.loop r2.state r2.pending ps a b N keys) ds)::(s2.canon k []).ob) φ2 hh w':=by
  intro kp tm' w' r2 hkp q1 q2 q3 q4 hm3
  obtain⟨hh,_,hm4⟩:=hm3.canS (tm:=[]) (fun _ _ h=>by simp[lk] at h) (nw:=newN k s2.ob [])
  have hm5:Mod _ (s2.canon k []) φ2 hh _ _:=hm4
  have hhl':hh rid= .pointer (some ⟨l,0,none⟩):=by rw[hm5.hfix rid hridk]; exact hhl
  have hrn':=Z4C hrn hridk
  have hkl:=hm5.kept l (.loop r2) hkp
  refine⟨hh,⟨⟨hm5.one,(hm5.glob hp.glob).sub (fun b ⟨i,hi,hb⟩=>by
   simp only[lk] at hi
   split at hi
   ·rename_i e
    subst e
    rw[hhl'] at hb
    simp only[blk,Option.some.injEq] at hb
    exact hb ▸ .inr hZl
   ·exact hm5.zof ⟨i,hi,hb⟩),hm5.mem,fun i o ho=> ?_,fun i j q hi hj hqi hqj=> ?_⟩,hm5.ext,fun b o u q1 q2=>(hm5.new b o u q1 q2),fun b q1 q2=>hm5.frame b q1 q2,fun i hi=> ?_,hm5.os,hm5.tape,hm5.output,hm5.grow⟩⟩
  ·simp only[lk] at ho
   split at ho
   ·rename_i e
    subst e
    cases ho
    rw[hhl']
    refine⟨l,keys.map fun t=>r.tmps.getD t Go.undef,_,rfl,.inr hZl,hkl.1,⟨⟨l,rfl⟩,_,rfl,rfl,rfl,by rw[q1]; exact hpar,by rw[q3]; exact hca,by rw[q4]; exact hcb,by rw[q2]; exact htsz,by rw[q2]⟩,hvl,fun j d hd=> ?_,fun off=>hkl.2.1 off⟩
    have hdt:D.top d<=k:=Z1B (Obs.top_get hk hrec).2 (List.mem_of_getElem? hd)
    exact ((hvrv j d hd).mono hm5.ext).under hdt fun i hi=>hm5.hfix i hi
   ·have hob:=hm5.ob i o ho
    exact hob.keep (fun b hb=>hb) (fun _ _=>rfl) (fun _ _ _ h=>h) (fun _ _ _=>rfl) (fun _ _ _ r=>r)
  ·have key: ∀ i',(lk (s2.canon k []).ob i').isSome->blk (hh i')=some q->blk (hh rid)=some q->False:=fun i' h1 h2 h3=>by
    rw[hhl'] at h3
    cases h3
    exact hkl.2.2 i' h1 h2
   simp only[lk] at hi hj
   by_cases e1:i=rid <;> by_cases e2:j=rid
   ·rw[e1,e2]
   ·rw[if_neg e2] at hj
    exact (key j hj hqj (by rw[<- e1]; exact hqi)).elim
   ·rw[if_neg e1] at hi
    exact (key i hi hqi (by rw[<- e2]; exact hqj)).elim
   ·rw[if_neg e1] at hi
    rw[if_neg e2] at hj
    exact hm5.sep i j q hi hj hqi hqj
  ·obtain⟨o,ho⟩:=Option.isSome_iff_exists.1 hi
   exact hm5.hfix i (Obs.top_get hk ho).1
 have hk2:((Cx.setk (Cx.more { N,w0:=w,φ0:=φ,Z:=ZOf ob h,bs:=k,h0:=h,kp:=fun b=>if b=l then some (.loop r) else none } ms1) l (.loop { r with state:= .busy })).more ms2).kp l=some (.loop { r with state:= .busy }):=by
  simp[Cx.more,Cx.setk]
 have hheap2:=(hm2.kept l _ hk2).1
 have fin: ∀ pend:Option Code,YRet P k R rid N ps a b keys ds pend s2 →
   ∃ v w',(Instr.endRound l pend).run P w2= .ok v w'/\Post ob φ h w R (.returned v) w':=by
  intro pend hy
  obtain⟨hh,haf⟩:=tail _ _ _ { { r with state:= .busy } with state:=if pend.isNone then .ready else .done,pending:=pend } (by simp[Cx.setk]) rfl rfl rfl rfl (hm2.setKp (o1:= .loop { { r with state:= .busy } with state:=if pend.isNone then .ready else .done,pending:=pend }) hk2 (.inr hZl))
  exact⟨_,_,run_endRound pend hheap2,.ret hy (.pure (.bool _)) haf⟩
 cases e <;> first | exact hq2.elim | exact fin _ hq2 | skip
 obtain⟨v,rfl,hR⟩:=hq2
 -- the marks taken
 obtain⟨w3,ht3,hm3⟩:=Z0L (P:=P) ms2 w2 hnd2 hm2
 rw[Z8i] at hm3
 obtain⟨w4,ht4,hm4⟩:=Z0L (P:=P) ms1 w3 ⟨hnd1.1,fun q hq=>by
  obtain⟨g1,g2⟩:=hnd1.2 q hq
  refine⟨?_,g2⟩
  simp only[Cx.setk] at g1 ⊢
  split at g1
  ·cases g1
  ·rename_i hne; simp[hne]⟩ hm3
 have hbusy:({ r with state:= .busy }:Loop).pending=none:=hpe
 obtain⟨hh,haf⟩:=tail _ _ _ { r with state:= .busy } (by simp[Cx.setk]) rfl rfl rfl rfl hm4
 rw[hbusy] at haf
 exact⟨ms2++ms1,w4,by rw[hdf2,List.map_append]; simp only at hdf1; rw[hdf1,List.append_nil],Z42 ht3 ht4,.pan v,_,φ2,hh,.inr ⟨v,rfl,rfl⟩,hR,haf⟩
end
def finJ (k rid N:Nat) (ps:Array Tmp) (a b:SC) (keys:List Nat) (ds:List D):Exit->St->Tr:=fun e s=>match e with
 | .panic [⟨v,false,false⟩]=>if (lk s.ob rid).isNone=true then .ret (.pan v) (Z0N ((rid,.gen (.loop .busy none ps a b N keys) ds)::(s.canon k []).ob)) else .bad
 | e=>finY k rid N ps a b keys ds e s
def yldTJ (P:Program) (tb:Ctr) (k rid N:Nat) (ps:Array Tmp) (a b:SC) (keys:List Nat) (ds:List D) (n:Nat) (s:St):Tr :=
 goT P tb k (fun e s=>match e with
  | .normal=>goT P tb k (finJ k rid N ps a b keys ds) n [.sc b] s
  | _=> .bad) n [.sc a] s
section
variable {P:Program}
theorem CallL.yldTJ [CodesOf P] (Z4:DrawSound P) {tb:Ctr} (htb:tb.OK P) {n k rid N:Nat} {ps:Array Tmp} {a b:SC} {keys:List Nat} {ds args:List D} {ob:Obs} {R:D->Obs->Prop} {T:Tr}
  (hrec:lk ob rid=some (.gen (.loop .ready none ps a b N keys) ds)) (e:Sx.yldTJ P tb k rid N ps a b keys ds n ⟨putP (ps.toList.zip args) (keys.zip ds),Z6 rid ob⟩=T)
  (h:T.ok R (fun _ _=>False)) (hj:jok b=true:=by rfl) (hk:Nat.ble (Obs.top ob) k=true:=by rfl) (hps:ps.size=args.length:=by rfl) (hpN:(ps.toList.all fun t=>decide (t<N))=true:=by rfl):CallL P (.yld rid) args ob R:=by
 have hk:=Nat.le_of_ble_eq_true hk
 refine CallL.reordG (CallL.yldJ Z4 k hk hrec hps (fun t ht=>by simpa using List.all_eq_true.1 hpN t ht) hj ?_)
 have h':(Sx.yldTJ P tb k rid N ps a b keys ds n ⟨putP (ps.toList.zip args) (keys.zip ds),Z6 rid ob⟩).ok R (fun _ _=>False):=e ▸ h
 unfold Sx.yldTJ at h'
 refine Z4G (Z11 htb (fun e s hf=> ?_) (fun _ _ h=>h.elim) h')
 cases e <;> try exact hf.elim
 refine Z4G (Z11 htb (fun e s hf=> ?_) (fun _ _ h=>h.elim) hf)
 have other: ∀ e:Exit,(finY k rid N ps a b keys ds e s).ok R (fun _ _=>False)-> ∃ pend,Z21 e=some pend/\lk s.ob rid=none/\R (.bool pend.isNone) (Z0N ((rid,.gen (.loop (if pend.isNone then .ready else .done) pend ps a b N keys) ds)::(s.canon k []).ob)):=by
  intro e hf
  unfold finY at hf
  split at hf
  ·rename_i pend hpe
   split at hf
   ·rename_i hn
    exact⟨pend,hpe,by simpa using hn,hf⟩
   ·exact hf.elim
  ·exact hf.elim
 cases e with
 | normal =>
  obtain⟨pend,h1,h2,h3⟩:=other .normal hf
  simp only[Z21,Option.some.injEq] at h1
  subst h1
  exact⟨h2,h3⟩
 | ret =>
  obtain⟨pend,h1,h2,h3⟩:=other .ret hf
  simp only[Z21,Option.some.injEq] at h1
  subst h1
  exact⟨h2,h3⟩
 | exit i =>
  obtain⟨pend,h1,h2,h3⟩:=other (.exit i) hf
  simp only[Z21,Option.some.injEq] at h1
  subst h1
  exact⟨h2,h3⟩
 | goto i =>
  obtain⟨pend,h1,_⟩:=other (.goto i) hf
  simp[Z21] at h1
 | outgrown =>
  obtain⟨pend,h1,_⟩:=other .outgrown hf
  simp[Z21] at h1
 | panic c =>
  unfold finJ at hf
  split at hf
  ·rename_i v heq
   cases heq
   split at hf
   ·rename_i hn
    exact⟨by simpa using hn,v,rfl,hf⟩
   ·exact hf.elim
  ·obtain⟨pend,h1,_⟩:=other (.panic c) hf
   simp[Z21] at h1
end
end Go.Sx
/- PANICS: what a call leaves that panics,forgotten. -/
namespace Go.Sx
open Go.RowKit
variable [Globs] [Codes]
variable {P:Program}
theorem CallL.pdrop {d:D} {args:List D} {ob:Obs} {R:D->Obs->Prop} {v:Value} (h:CallL P d args ob R) (hR: ∀ r o,R r o->r= .pan v):CallL P d args ob fun r o=>r= .pan v/\o=[]:=by
 intro F hF n φ hh w u vs hp hv hvs
 refine (h F hF n φ hh w u vs hp hv hvs).mono ?_
 rintro e w' ⟨r,o,φ',h',he,hr,ha⟩
 have e1:=hR r o hr
 subst e1
 refine⟨.pan v,[],φ',h', ?_,⟨rfl,rfl⟩,⟨⟨ha.loc.one,ha.loc.glob.sub fun b ⟨i,hi,_⟩=>by simp[lk] at hi,ha.loc.mem,fun i o ho=>by simp[lk] at ho,fun i j b hi=>by simp[lk] at hi⟩,ha.ext,ha.new,ha.frame,ha.hfix,ha.os,ha.tape,ha.output,ha.grow⟩⟩
 rcases he with ⟨x,h1,h2⟩ | ⟨x,h1,h2⟩
 ·exact h2.notPan.elim
 ·exact .inr ⟨x,h1,h2⟩
theorem Zda {φ:Mem} {h:Nat->Value}: ∀ {vs:List Value} {ds:List D},RVL φ h vs ds-> ∀ (j:Nat) (d:D),ds[j]? = some d->RV φ h (vs.getD j Go.undef) d
 | [],_::_,hr,_,_,_=>hr.elim
 | _,[],_,j,d,hd=>by simp at hd
 | _::_,_::_,hr,0,d,hd=>by cases hd; exact hr.1
 | _::vs,_::ds,hr,j+1,d,hd=>by
  have:=Zda hr.2 j d (by simpa using hd)
  simpa using this
theorem FnOK.callS {f:FuncId} (hpf:ZA P f=true) {args:List D} {es ext:List (List D)} (h:FnOK P f args (.slice es ext)):CallL P (.func (.func f) [] []) args [] fun r o=>r= .slice es ext/\o=[]:=by
 intro F hF n φ hh w u vs hp hv hvs
 obtain⟨va,vc,rfl,hva,hvc⟩: ∃ va vc,u= .func (.func f) va vc/\va.size=0/\vc.size=0:=by
  cases hv with
  | pure hr=>cases hr
  | func _ vf vc _ _ hf hc _ _=>exact⟨vf,vc,rfl,hf,hc⟩
 rw[Zr hpf]
 have ea:va= #[]:=by simpa using hva
 have ec:vc= #[]:=by simpa using hvc
 subst ea; subst ec
 simp only[Array.empty_append,Array.append_empty,DynOut]
 have hsz:vs.size=args.length:=by
  have:=hvs.length
  simpa using this
 have hg:GlobC φ w (fun _=>False):=hp.glob.sub fun b h=>h.elim
 refine hF.calls ((h φ hh w vs hp.one hg hp.mem hsz fun j d hd=> ?_).mono ?_) n
 ·have:=Zda hvs j d hd
  simpa [Array.getD_eq_getD_getElem?,List.getD] using this
 ·rintro e w' ⟨v,φ',rfl,hR,hb,h1,h2,h3⟩
  refine .ret ⟨rfl,rfl⟩ (hR hh) (φ':=φ') (h':=hh) ⟨⟨hp.one, ?_,h2,fun i o ho=>by simp[lk] at ho,fun i j b hi=>by simp[lk] at hi⟩,h1,fun b o u hu hn=> .inl (h3 b o u hu hn),fun b hb' _=>hb.block b hb',fun _ _=>rfl,hb.os,hb.tape,hb.output,hb.size⟩
  refine⟨fun g cs hgc=>(hp.glob.ok g cs hgc).mono h1,fun g' arr hx=> ?_,fun g' hx=> ?_⟩
  ·obtain⟨⟨ty',fr,hw⟩,_⟩:=hp.glob.x g' arr hx
   exact⟨⟨ty',fr,by rw[hb.block _ (Array.getElem?_eq_some_iff.1 hw).1,hw]⟩,fun ⟨i,hi,_⟩=>by simp[lk] at hi⟩
  ·obtain⟨⟨arr,ty',fr,q,hw,ha⟩,_⟩:=hp.glob.i g' hx
   exact⟨⟨arr,ty',fr,q,by rw[hb.block _ (Array.getElem?_eq_some_iff.1 hw).1,hw],ha⟩,fun ⟨i,hi,_⟩=>by simp[lk] at hi⟩
end Go.Sx
/- A FUNCTION THAT DEFERS A CALL,BY TREES. -/
namespace Go.Sx
open Go.RowKit
variable [Globs] [Codes]
section
variable {P:Program}
def goLn (tb:Ctr) (bs:Nat):SC->St->(Exit->St->Tr)->Tr
 | .skip,s,K=>K .normal s
 | .ret,s,K=>K .ret s
 | .exit i,s,K=>K (.exit i) s
 | .reg ops,s,K=>opsT tb (s.nx bs) ops s fun s'=>K .normal s'
 | .seq a b,s,K=>goLn tb bs a s fun e s'=>match e with
  | .normal=>goLn tb bs b s' K
  | e=>K e s'
 | .cond x a b,s,K=>match s.get x with
  | .bool t=>brT t (goLn tb bs a s K) (goLn tb bs b s K)
  | _=> .bad
 | _,_,_=> .bad
theorem ZfW {tb:Ctr} (htb:tb.OK P) {bs:Nat} {R:D->Obs->Prop} {J:List Fr->St->Prop}: ∀ (sc:SC) (s:St) (K:Exit->St->Tr) (Q:Exit->St->Prop),(∀ e s,(K e s).ok R J->Q e s)->(goLn tb bs sc s K).ok R J->sw P bs sc Q s:=by
 intro sc
 induction sc with
 | skip=>exact fun s K Q hK h=>hK _ _ h
 | ret=>exact fun s K Q hK h=>hK _ _ h
 | exit i=>exact fun s K Q hK h=>hK _ _ h
 | reg ops =>
  intro s K Q hK h
  obtain⟨s1,h1,h2⟩:=Z22 htb h
  exact h1 _ (hK _ _ h2)
 | seq a b iha ihb =>
  intro s K Q hK h
  refine iha s _ _ (fun e s' h'=> ?_) h
  cases e <;> first | exact ihb s' K Q hK h' | exact hK _ _ h'
 | cond x a b iha ihb =>
  intro s K Q hK h
  simp only[goLn] at h
  simp only[sw]
  split at h
  ·rename_i t hx
   rw[hx]
   cases t
   ·exact ihb s K Q hK h
   ·exact iha s K Q hK h
  ·exact h.elim
 | _=>exact fun s K Q hK h=>h.elim
def goD (tb:Ctr) (bs:Nat) (rs:List SR):SC->St->Tr
 | .seq a b,s=>match a with
  | .spec (.dfr ops x)=>opsT tb (s.nx bs) ops s fun s1=> .jmp [.sc (.seq (.spec (.dfr [] x)) b)] s1
  | .spec (.frg ts)=>goD tb bs rs b (s.canon bs ts)
  | a=>goLn tb bs a s fun e s=>match e with
   | .normal=>goD tb bs rs b s
   | e=>finF false bs rs e s
 | _,_=> .bad
def JD (P:Program) (bs:Nat) (rs:List SR) (R:D->Obs->Prop):List Fr->St->Prop:=fun K s=>match K with
 | [.sc (.seq (.spec (.dfr _ x)) b)]=>KDef P bs rs R (s.get x) b s
 | _=>False
theorem ZkB {tb:Ctr} (htb:tb.OK P) {bs:Nat} {rs:List SR} {R:D->Obs->Prop}: ∀ (sc:SC) (s:St),(goD tb bs rs sc s).ok R (JD P bs rs (RE false R)) →
  swD P bs (EndQ rs (RetL bs (RE false R))) (KDef P bs rs (RE false R)) sc s:=by
 intro sc
 induction sc with
 | seq a b iha ihb =>
  intro s h
  have usual:(goLn tb bs a s fun e s=>match e with
   | .normal=>goD tb bs rs b s
   | e=>finF false bs rs e s).ok R (JD P bs rs (RE false R))->sw P bs a (thenS (swD P bs (EndQ rs (RetL bs (RE false R))) (KDef P bs rs (RE false R)) b) (EndQ rs (RetL bs (RE false R)))) s:=fun h=>by
   refine ZfW htb a s _ _ (fun e s' h'=> ?_) h
   cases e with
   | normal=>exact ihb s' h'
   | ret=>exact QY .ret s' h'
   | exit i=>exact (QY (.exit i) s' h').elim
   | goto i=>exact (QY (.goto i) s' h').elim
   | panic c=>exact QY (.panic c) s' h'
   | outgrown=>exact (QY .outgrown s' h').elim
  cases a with
  | spec k =>
   cases k with
   | dfr ops x =>
    obtain⟨s1,h1,h2⟩:=Z22 htb h
    exact h1 _ h2
   | frg ts=>exact ihb _ h
   | _=>exact usual h
  | _=>exact usual h
 | _=>exact fun s h=>h.elim
theorem KDef.at {k k2:Nat} {rs:List SR} {R:D->Obs->Prop} {cl:D} {sb:SC} {s1:St} (g:FuncId) (fa fc:List D) (hcl:cl= .func (.func g) fa fc) (hpg:ZA P g=true) (h1:s1.top<=k2) (h2:k<=k2) (h3:D.top cl<=k2) (h:At P k2 [.sc sb] s1 (DefQ P k k2 rs cl R)):KDef P k rs R cl sb s1 :=
 ⟨g,fa,fc,k2,hcl,hpg,h1,h2,h3,Z4G h⟩
def defT (P:Program) (tD:FrameMode->Obs->Option (FrameMode × Obs)) (k k2:Nat) (rs:List SR) (cl:D) (u:FrameMode) (s2:St):Tr :=
 let nm:=Z10 s2 [cl]
 if Z03 nm=true then (match tD u (ZI s2.ob (idx · nm) 0 nm) with
  | some (u',ob')=> .owe (CallD P u (cl.ren (idx · nm)) (ZI s2.ob (idx · nm) 0 nm) fun u0 ob0=>u0=u'/\ob0=ob') (match settle u' with
   | .returning=>endT false k rs (s2.back (s2.base k2) nm ob')
   | _=> .bad)
  | none=> .bad) else .bad
theorem Zgj {tD:FrameMode->Obs->Option (FrameMode × Obs)} {k k2:Nat} {rs:List SR} {cl:D} {u:FrameMode} {s2:St} {R:D->Obs->Prop} {J:List Fr->St->Prop} (h:(defT P tD k k2 rs cl u s2).ok R J):DQ P k k2 rs cl (RE false R) u s2:=by
 unfold defT at h
 simp only at h
 split at h
 ·rename_i hnd
  split at h
  ·rename_i u' ob' _
   obtain⟨hC,h⟩:=h
   split at h
   ·rename_i hs
    obtain⟨ds,h1,h2⟩:=Z9w h
    refine⟨_,_,s2.base k2,Zm hnd,fun i hi=>ZB i hi,Nat.le_trans (Nat.le_add_right _ _) (Nat.le_max_left ..),Nat.le_max_right ..,hC, ?_⟩
    rintro u0 ob0 ⟨rfl,rfl⟩
    exact⟨hs,ds,h1,h2⟩
   ·exact h.elim
  ·exact h.elim
 ·exact h.elim
def Z4t (P:Program) (tD:FrameMode->Obs->Option (FrameMode × Obs)) (k k2:Nat) (rs:List SR) (cl:D):Exit->St->Tr:=fun e s=>match e with
 | .normal=>defT P tD k k2 rs cl .returning s
 | .ret=>defT P tD k k2 rs cl .returning s
 | .panic c=>defT P tD k k2 rs cl (.panicking c) s
 | _=> .bad
theorem ZbG {tD:FrameMode->Obs->Option (FrameMode × Obs)} {k k2:Nat} {rs:List SR} {cl:D} {R:D->Obs->Prop} {J:List Fr->St->Prop} (e:Exit) (s:St) (h:(Z4t P tD k k2 rs cl e s).ok R J):DefQ P k k2 rs cl (RE false R) e s:=by
 cases e <;> first | exact Zgj h | exact h.elim
theorem At.treeD {tb:Ctr} (htb:tb.OK P) {tD:FrameMode->Obs->Option (FrameMode × Obs)} {n k k2:Nat} {rs:List SR} {cl:D} {K:List Fr} {s:St} {R:D->Obs->Prop} {T:Tr} (e:goT P tb k2 (Z4t P tD k k2 rs cl) n K s=T)
  (h:T.ok R (fun K s=>At P k2 K s (DefQ P k k2 rs cl (RE false R)))):At P k2 K s (DefQ P k k2 rs cl (RE false R)) :=
 Z11 htb ZbG (fun _ _ h=>h) (e ▸ h)
theorem CallL.treeD [CodesOf P] (Z4:DrawSound P) {f:FuncId} {N:Nat} {sc:SC} {rs:List SR} (hf:FnC P f N sc rs/\ZA P f=true) {tb:Ctr} (htb:tb.OK P) {bs:Nat} {first args caps:List D} {ob:Obs} {R:D->Obs->Prop} {T:Tr}
  (e:goD tb bs rs sc ⟨Q0 0 (first++args++caps),ob⟩=T) (h:T.ok R (JD P bs rs (RE false R))) (hlen:Nat.ble (first++args++caps).length N=true:=by rfl) (hbs:Nat.ble (Obs.top ob) bs=true:=by rfl):CallL P (.func (.func f) first caps) args ob R :=
 CallL.reordG (CallL.fnD Z4 hf.1 hf.2 bs (Nat.le_of_ble_eq_true hbs) (Nat.le_of_ble_eq_true hlen) (ZkB htb sc _ (e ▸ h)))
def ZoA (k:Nat):Exit->St->Tr:=fun e s=>match e with
 | .normal=> .ret (.tuple []) (s.fin k (.tuple [])).ob
 | .ret=> .ret (.tuple []) (s.fin k (.tuple [])).ob
 | _=> .bad
def goRc (P:Program) (tb:Ctr) (k n:Nat) (ops:List SOp) (sb:SC) (s0:St):Tr:=opsT tb (St.nx s0 k) ops s0 fun s1=>goT P tb k (ZoA k) n [.sc sb] s1
theorem CallD.tree [CodesOf P] (Z4:DrawSound P) {g:FuncId} {N t:Nat} {ops:List SOp} {sb:SC} (hf:FnC P g N (.seq (.spec (.rcv t ops)) sb) []) {tb:Ctr} (htb:tb.OK P) {first caps:List D} {ob:Obs} {n k:Nat} {u:FrameMode} {R:FrameMode->Obs->Prop} {T:Tr}
  (e:goRc P tb k n ops sb ⟨(t,.raw (recM u).1)::Z6 t (Q0 0 (first++caps)),ob⟩=T)
  (h:T.ok (fun _ ob'=>R (recM u).2 ob') (fun _ _=>False)) (hone:(recM u).1.oneCell'=true:=by rfl) (hlen:Nat.ble (first++caps).length N=true:=by rfl) (hk:Nat.ble (Obs.top ob) k=true:=by rfl):CallD P u (.func (.func g) first caps) ob R:=by
 have h':(goRc P tb k n ops sb ⟨(t,.raw (recM u).1)::Z6 t (Q0 0 (first++caps)),ob⟩).ok (fun _ ob'=>R (recM u).2 ob') (fun _ _=>False):=e ▸ h
 unfold goRc at h'
 obtain⟨s1,h1,h2⟩:=Z22 htb h'
 refine CallD.fn Z4 hf k (Nat.le_of_ble_eq_true hk) (Nat.le_of_ble_eq_true hlen) hone (h1 _ (Z4G (Z11 htb (fun e s hf=> ?_) (fun _ _ h=>h.elim) h2)))
 cases e with
 | normal=>exact⟨.inl rfl,hf⟩
 | ret=>exact⟨.inr rfl,hf⟩
 | _=>exact hf.elim
end
end Go.Sx
/- RESULTS KEPT: a table of calls that have been worked out. -/
namespace Go.Sx
mutual
def dEq:D->D->Bool
 | .int k a,.int k' b=>decide (k=k') && decide (a=b)
 | .str a,.str b=>decide (a=b)
 | .bool a,.bool b=>a == b
 | .slice a x,.slice b y=>Z5C a b && Z5C x y
 | .agg a,.agg b=>dEqL a b
 | _,_=>false
def dEqL:List D->List D->Bool
 | [],[]=>true
 | a::r,b::q=>dEq a b && dEqL r q
 | _,_=>false
def Z5C:List (List D)->List (List D)->Bool
 | [],[]=>true
 | a::r,b::q=>dEqL a b && Z5C r q
 | _,_=>false
end
mutual
theorem ZlD: ∀ a b:D,dEq a b=true->a=b
 | .int k a,b,h=>by
  cases b <;> simp[dEq] at h
  rw[h.1,h.2]
 | .str a,b,h=>by
  cases b <;> simp[dEq] at h
  rw[h]
 | .bool a,b,h=>by
  cases b <;> simp[dEq] at h
  rw[h]
 | .slice a x,b,h=>by
  cases b <;> simp[dEq] at h
  rw[Z3P a _ h.1,Z3P x _ h.2]
 | .agg a,b,h=>by
  cases b <;> simp[dEq] at h
  rw[Z3O a _ h]
 | .undef,b,h=>by cases b <;> simp[dEq] at h
 | .nilp,b,h=>by cases b <;> simp[dEq] at h
 | .nilf,b,h=>by cases b <;> simp[dEq] at h
 | .tuple _,b,h=>by cases b <;> simp[dEq] at h
 | .ptr _ _,b,h=>by cases b <;> simp[dEq] at h
 | .fptr _,b,h=>by cases b <;> simp[dEq] at h
 | .vec _,b,h=>by cases b <;> simp[dEq] at h
 | .vptr _ _ _ _,b,h=>by cases b <;> simp[dEq] at h
 | .vwin _ _ _,b,h=>by cases b <;> simp[dEq] at h
 | .map _,b,h=>by cases b <;> simp[dEq] at h
 | .func _ _ _,b,h=>by cases b <;> simp[dEq] at h
 | .raw _,b,h=>by cases b <;> simp[dEq] at h
 | .nils,b,h=>by cases b <;> simp[dEq] at h
 | .own _ _ _,b,h=>by cases b <;> simp[dEq] at h
 | .yld _,b,h=>by cases b <;> simp[dEq] at h
 | .ifc,b,h=>by cases b <;> simp[dEq] at h
 | .pan _,b,h=>by cases b <;> simp[dEq] at h
theorem Z3O: ∀ a b:List D,dEqL a b=true->a=b
 | [],[],_=>rfl
 | [],_::_,h=>by simp[dEqL] at h
 | _::_,[],h=>by simp[dEqL] at h
 | a::r,b::q,h=>by
  simp only[dEqL,Bool.and_eq_true] at h
  rw[ZlD a b h.1,Z3O r q h.2]
theorem Z3P: ∀ a b:List (List D),Z5C a b=true->a=b
 | [],[],_=>rfl
 | [],_::_,h=>by simp[Z5C] at h
 | _::_,[],h=>by simp[Z5C] at h
 | a::r,b::q,h=>by
  simp only[Z5C,Bool.and_eq_true] at h
  rw[Z3O a b h.1,Z3P r q h.2]
end
abbrev Memo:=List (FuncId × List D × D)
def Zbq:Memo->FuncId->List D->Option D
 | [],_,_=>none
 | (g,ys,r)::l,f,xs=>if f=g/\dEqL xs ys=true then some r else Zbq l f xs
section
variable [Globs] [Codes]
def Memo.OK (P:Program):Memo->Prop
 | []=>True
 | (g,ys,r)::l=>FnOK P g ys r/\Memo.OK P l
theorem Z6n {P:Program}: ∀ {l:Memo},l.OK P-> ∀ {f:FuncId} {xs:List D} {r:D},Zbq l f xs=some r->FnOK P f xs r
 | [],_,_,_,_,h=>by cases h
 | (g,ys,r0)::l,hl,f,xs,r,h=>by
  simp only[Zbq] at h
  split at h
  ·rename_i hc
   cases h
   rw[hc.1,Z3O _ _ hc.2]
   exact hl.1
  ·exact Z6n hl.2 h
def Tab.mem (t:Tab) (l:Memo):Tab:={ t with F:=fun f xs=>match Zbq l f xs with
 | some r=>some r
 | none=>t.F f xs }
theorem Tab.OK.mem_ok {P:Program} {t:Tab} (ht:t.OK P) {l:Memo} (hl:l.OK P):(t.mem l).OK P:=by
 refine⟨ht.T,ht.C,fun f xs r h=> ?_⟩
 simp only[Tab.mem] at h
 split at h
 ·cases h; exact Z6n hl (by assumption)
 ·exact ht.F f xs r h
end
end Go.Sx
/- A CONTRACT WITH A BOUND OF ITS OWN ON WHAT IS READ. -/
namespace Go.Sx
open Go.RowKit
open Go.RowKit Go.Deep Go.ChangeShapes Go.WideShapes
variable {H:Type} {enc:TypeId × Value->H} {P:Program} {w:World}
variable [Globs] [Codes]
theorem Z9H {B:Nat} {f:FuncId} {fn:Func} {s:ChangeSpec} (qs:List (TypeId × (D->Prop))) {ts:List TypeId} (hq:qs.map (·.1)=ts) {tb:TypeId} (hp:fn.params.toList=ts) (hr:fn.resultTypes.toList=[tb]) (hub:P.underlying tb=some .bool) (hvars:s.vars=[])
  (hfn: ∀ (H:Type) (ds:List (DataW H)),ds.length=ts.length->s.fn H ds={ results:=[.lit (.bool true)],args:=ds }) (hsh: ∀ q∈qs,Reads P B q.1 q.2) (hlaid:laidOutB P=true)
  (hread: ∀ t∈ts,P.readableRec t=true/\t<P.types.size) (hlaw: ∀ as',FitQ qs as'->FnOK P f as' (.bool true))
  {W:World} {base:Nat} {args:Array Value} {ds gs:List (DataW H)} {before:List MemPlace}
  (hval: ∀ (j:Nat) t v,fn.params[j]? = some t->args[j]? = some v->Value.okWide P W .any base t v)
  (hW:DataW.Whole enc P fn.params.toList s.vars false W args.toList ds gs before)
  (hwt:wOK B (DataW.weightsEach P ts ds))
  (hg:GlobC (memW W) W (fun _=>False)) :
  Calls P f args W fun e W'=> ∃ v,e= .returned v/\s.post enc P fn false true false false W args v W':=by
 have hW':=hW
 obtain⟨p,q,hA0,hV,rfl,hfz,hnd⟩:=hW
 have hA:DataW.TrodAll enc P W 0 (fun _=>true) true fn.params.toList args.toList ds p:=hA0
 rw[hvars] at hV
 obtain⟨rfl,rfl⟩:=trodVars_none hV
 rw[hp] at hA
 have hval': ∀ (j:Nat) t v,ts[j]? = some t->args.toList[j]? = some v->Value.okWide P W .any base t v:=fun j t v hj hv=>hval j t v (by rw[<- hp] at hj; simpa using hj) (by simpa using hv)
 obtain⟨as',hrv,hfit⟩:=Z2O B qs args.toList ds p (by rw[hq]; exact hA) (by rw[hq]; exact hwt) hsh (by rw[hq]; exact hval')
 have hlen: ∀ (ts:List TypeId) (vs:List Value) (ds:List (DataW H)) (p:List MemPlace),DataW.TrodAll enc P W 0 (fun _=>true) true ts vs ds p->ds.length=ts.length:=by
  intro ts
  induction ts with
  | nil=>intro vs ds p h; obtain⟨rfl,rfl,rfl⟩:=trodAll_nil h; rfl
  | cons t ts ih=>intro vs ds p h; obtain⟨v,vs',d,ds',p,q,rfl,rfl,rfl,_,hr⟩:=trodAll_cons h; simp[ih _ _ _ hr]
 have hdl:=hlen _ _ _ _ hA
 have hcall:=hlaw as' hfit (memW W) noH W args (fun _=>rfl) hg (fun b o v h=>h) (by simpa using hrv.length) (fun j d hd=>by
  have:=hrv.get j d hd
  simpa [Array.getD_eq_getD_getElem?,List.getD] using this)
 simp only[List.append_nil] at hW'
 refine hcall.mono fun e W' ⟨v,φ',he,hret,hb,_⟩=> ?_
 subst he
 have hv:v= .bool true:=(hret noH).bool_inv
 subst hv
 have hlt: ∀ x∈p,x.block<W.heap.size:=fun x hx=>by simpa using hW'.lt x (by simpa using hx)
 have key: ∀ (ts:List TypeId) (vs:List Value) (ds:List (DataW H)) (p:List MemPlace),(∀ t∈ts,P.readableRec t=true/\t<P.types.size)->(∀ x∈p,x.block<W.heap.size)->DataW.TrodAll enc P W 0 (fun _=>true) true ts vs ds p →
   DataW.TrodAll enc P W' 0 (fun b=>decide (b<W.heap.size)) true ts vs ds p:=by
  intro ts
  induction ts with
  | nil=>intro vs ds p _ _ h; obtain⟨rfl,rfl,rfl⟩:=trodAll_nil h; exact trodAll_mk0
  | cons t ts ih =>
   intro vs ds p hrd hx h
   obtain⟨v,vs',d,ds',p,q,rfl,rfl,rfl,h0,hr⟩:=trodAll_cons h
   have ht:=hrd t (List.mem_cons_self ..)
   exact trodAll_cons_mk (Below.trod hlaid ht.1 ht.2 h0 hb (fun x h=>hx x (List.mem_append_left _ h))) (ih _ _ _ (fun t ht=>hrd t (List.mem_cons_of_mem _ ht)) (fun x h=>hx x (List.mem_append_right _ h)) hr)
 have hsp:=hfn H ds hdl
 refine⟨_,rfl,Z7s (pa:=p) (pv:=[]) hW' (fun _ _ _=> ?_) ?_ ?_ (by simp) hb⟩
 ·rw[List.append_nil,hsp,hr]
  have:fn.resultTypes.size=1:=by rw[<- Array.length_toList,hr]; rfl
  rw[this]
  exact trodAll_cons_mk (shut_bool hub _) trodAll_mk0
 ·rw[List.append_nil,hsp,hp]
  exact key _ _ _ _ hread hlt hA
 ·rw[List.append_nil,hsp,hvars]
  rfl
theorem Reads.imp {P:Program} {B:Nat} {t:TypeId} {Q R:D->Prop} (h:Reads P B t Q) (hq: ∀ a,Q a->R a):Reads P B t R:=by
 intro H enc w r base fuel v x hx hw hok
 obtain⟨a,h1,h2⟩:=h hx hw hok
 exact⟨a,h1,hq a h2⟩
theorem Z2N {P:Program} {B:Nat} {T t:TypeId} {n:Nat} (hT:Z5m P T=true) (hs:shT P T n t=some [.str,.tms]) (ha:aggB P t=some true):Reads P B t (fun a=> ∃ (m:List UInt8) (l:List Tm),m.length<=B/\l.length<=B/\Tm.wfL B l/\a= .agg [.str m,.slice (Tm.cellsL l) []]) :=
 Reads.imp (Q:=fun a=> ∃ cs,ShT.fits B [.str,.tms] cs/\a= .agg cs) (Z7r hT hs ha) fun a ⟨cs,h,e⟩=>by
  simp only[ShT.fits,ShT.fit] at h
  obtain⟨d1,t1,rfl,⟨m,rfl,hm⟩,d2,t2,rfl,⟨l,rfl,hl,hw⟩,rfl⟩:=h
  exact⟨m,l,hm,hl,hw,e⟩
mutual
theorem Z3e {B C:Nat} (h:B<=C): ∀ t:Tm,t.wf B->t.wf C
 | .mk k n s l,ht=>by
  simp only[Tm.wf] at ht ⊢
  obtain⟨h1,h2,h3,h4,h5,h6⟩:=ht
  exact⟨h1,h2,h3,by omega,by omega,Z5S h l h6⟩
theorem Z5S {B C:Nat} (h:B<=C): ∀ l:List Tm,Tm.wfL B l->Tm.wfL C l
 | [],_=>trivial
 | a::r,hl=>by
  simp only[Tm.wfL] at hl ⊢
  exact⟨Z3e h a hl.1,Z5S h r hl.2⟩
end
end Go.Sx
